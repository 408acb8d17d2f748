/-
  Merged: WOCharsN WOStep WONodes WOBuild WTokens.
-/
import Derived.Test.YtbdfeolffigdoaaDoorG3

section
set_option linter.unusedVariables false
set_option linter.unusedSimpArgs false
set_option maxRecDepth 100000
namespace Go.Proofs.YtbdfeolffigdoaaDoor
open Go.Vl

namespace WOCharsN
theorem ty3 : Ty Tryd.prog 3 1 8 (.int .i64 0) := Ty.of (by kernel_rfl)
theorem ty4 : Ty Tryd.prog 4 1 1 (.bool false) := Ty.of (by kernel_rfl)
theorem ty9 : Ty Tryd.prog 9 1 16 (.string ⟨#[]⟩) := Ty.of (by kernel_rfl)
theorem ty39 : Ty Tryd.prog 39 1 8 (.pointer none) := Ty.of (by kernel_rfl)
theorem ty40 : Ty Tryd.prog 40 1 8 (.pointer none) := Ty.of (by kernel_rfl)
theorem ty41 : Ty Tryd.prog 41 1 24 (.slice none 0 0) := Ty.of (by kernel_rfl)
theorem ty43 : Ty Tryd.prog 43 4 56 (.agg #[.pointer none, .slice none 0 0, .string ⟨#[]⟩, .bool false]) := Ty.of (by kernel_rfl)
theorem ag3 : IsAgg Tryd.prog 3 false := ⟨_, Tryd.underlying3, rfl⟩
theorem ag4 : IsAgg Tryd.prog 4 false := ⟨_, Tryd.underlying4, rfl⟩
theorem ag9 : IsAgg Tryd.prog 9 false := ⟨_, Tryd.underlying9, rfl⟩
theorem ag39 : IsAgg Tryd.prog 39 false := ⟨_, Tryd.underlying39, rfl⟩
theorem ag40 : IsAgg Tryd.prog 40 false := ⟨_, Tryd.underlying40, rfl⟩
theorem ag41 : IsAgg Tryd.prog 41 false := ⟨_, Tryd.underlying41, rfl⟩
theorem fa43_0 : FieldAt Tryd.prog 43 0 0 1 false := ⟨_, _, Tryd.underlying43, rfl, rfl, ty40.size, ag40, by decide⟩
theorem fa43_1 : FieldAt Tryd.prog 43 1 1 1 false := ⟨_, _, Tryd.underlying43, rfl, rfl, ty41.size, ag41, by decide⟩
theorem fa43_3 : FieldAt Tryd.prog 43 3 3 1 false := ⟨_, _, Tryd.underlying43, rfl, rfl, ty4.size, ag4, by decide⟩
theorem fa45_2 : FieldAt Tryd.prog 45 2 2 1 false := ⟨_, _, Tryd.underlying45, rfl, rfl, ty3.size, ag3, by decide⟩
theorem fa45_3 : FieldAt Tryd.prog 45 3 3 1 false := ⟨_, _, Tryd.underlying45, rfl, rfl, ty9.size, ag9, by decide⟩
theorem fa52_0 : FieldAt Tryd.prog 52 0 0 1 false := ⟨_, _, Tryd.underlying52, rfl, rfl, ty9.size, ag9, by decide⟩
theorem st43 : StructAt Tryd.prog 43 [(0, 1), (1, 1), (2, 1), (3, 1)] := ⟨_, Tryd.underlying43, rfl, ty40.size, rfl, ty41.size, rfl, ty9.size, rfl, ty4.size, trivial⟩
theorem ni41 : NotInt Tryd.prog 41 := .inl ⟨_, Tryd.underlying41⟩
theorem c_charsN00 (b r : Nat) (bs : Nat → Nat) (vs : Value) (cnt : Int) (sk : List Nat) (hsk : 0 < sk.length) (hs1 : sk.length ≤ 1000) (cs : List Opn.Oc) (c : Opn.Oc) (a : Nat) (ha : sk.getD (sk.length - 1) 0 = a) (hc : cs[a]? = some c) (hcb : bs a = c.b) (hpl2 : c.o.parts.length ≤ 1000) (s : List UInt8) (hs : s ≠ []) (hcnt : 0 ≤ cnt) (hcn2 : cnt ≤ 1000) (he : c.o.elem = false) (hpl : c.o.parts.length = 0) : FnC Tryd.prog 11 [.lit (.pointer (some ⟨b, 0, none⟩)), .str s] (.box b 45 [.lit (.pointer (some ⟨r, 0, none⟩)), .lit vs, .int cnt, .str []] :: .arr vs 39 1 (sk.map fun i => Opn.ptr (bs i)) :: Opn.mem 43 52 39 bs cs) (fun rr M => rr = .tup [] ∧ ∃ (b8 : Nat) (v8 : Value), M = .box b 45 [.lit (.pointer (some ⟨r, 0, none⟩)), .lit vs, .int (cnt + 1), .str []] :: .arr vs 39 1 (sk.map fun i => Opn.ptr (bs i)) :: (Opn.ents 43 52 39 bs ⟨⟨false, [], [], s, []⟩, b8, 0, .slice none 0 0⟩ ++ ([Opn.obox 43 { c with v := v8 }, .arr v8 39 1 ((c.o.parts.map fun i => Opn.ptr (bs i)) ++ [Opn.ptr b8]), Opn.onode 52 c] ++ Opn.mem 43 52 39 bs (cs.eraseIdx a)))) :=  by
  refine FnC.mk Tryd.func11 (by kernel_rfl) rfl Tryd.ntmps11 rfl (fun w0 F => ?_)
  have hml : (c.o.parts.map fun i => Opn.ptr (bs i)).length = c.o.parts.length := List.length_map ..
  refine W.seq ?_
  refine W.region ?_
  refine W.q (Ev.move (.t rfl)) rfl ?_
  refine W.call (WOLast.c_last b r bs vs cnt [] sk hsk hs1) ⟨(.t rfl), trivial⟩ (.refl _) rfl ?_
  rintro _ _ ⟨rfl, rfl⟩
  rw [ha, hcb]
  refine W.q (Ev.assign (.t rfl)) rfl ?_
  refine W.nil ?_
  refine W.then ?_
  refine W.seq ?_
  refine W.seq ?_
  refine W.region ?_
  refine W.q (Ev.move (.t rfl)) rfl ?_
  refine W.q (Ev.nilc (.t rfl)) rfl ?_
  first | refine W.q (Ev.fae (.t rfl) fa43_3 rfl) rfl ?_ | refine W.q (Ev.fab (.t rfl) fa43_3) rfl ?_ | refine W.q (Ev.faa (.t rfl) fa43_3) rfl ?_
  refine W.q (Ev.ldb1 (3 * a + 2) (.t rfl) (Opn.mem_get0 cs a c hc) ag4 rfl) rfl ?_
  rw [he]
  refine W.q (Ev.move (.t rfl)) rfl ?_
  refine W.gnob rfl rfl (by simp) rfl ?_
  refine W.gnob rfl rfl (by simp) rfl ?_
  refine W.gnob rfl rfl (by simp) rfl ?_
  refine W.gnob rfl rfl (by simp) rfl ?_
  refine W.gnob rfl rfl (by simp) rfl ?_
  refine W.gnob rfl rfl (by simp) rfl ?_
  refine W.gnob rfl rfl (by simp) rfl ?_
  refine W.gnob rfl rfl (by simp) rfl ?_
  refine W.gnob rfl rfl (by simp) rfl ?_
  refine W.qgF' (av := .lit (.bool false)) rfl rfl (fun _ _ _ hg => absurd hg (by simp)) rfl ?_
  refine W.qgF' (av := .lit (.bool false)) rfl rfl (fun _ _ _ hg => absurd hg (by simp)) rfl ?_
  refine W.qgF' (av := .lit (.bool false)) rfl rfl (fun _ _ _ hg => absurd hg (by simp)) rfl ?_
  refine W.qgF' (av := .lit (.bool false)) rfl rfl (fun _ _ _ hg => absurd hg (by simp)) rfl ?_
  refine W.qgF' (av := .lit (.bool false)) rfl rfl (fun _ _ _ hg => absurd hg (by simp)) rfl ?_
  refine W.qgF' (av := .lit (.bool false)) rfl rfl (fun _ _ _ hg => absurd hg (by simp)) rfl ?_
  refine W.qgF' (av := .lit (.bool false)) rfl rfl (fun _ _ _ hg => absurd hg (by simp)) rfl ?_
  refine W.qgF' (av := .lit (.bool false)) rfl rfl (fun _ _ _ hg => absurd hg (by simp)) rfl ?_
  refine W.gnob rfl rfl (by simp) rfl ?_
  refine W.q (Ev.and (.t rfl) ⟨_, _, rfl, rfl, by first | (simp; done) | (intro hg_ hp_; simp [hp_]; done) | (simp <;> omega; done) | (simp_all; done) | grind⟩) rfl ?_
  refine W.q (Ev.move (.t rfl)) rfl ?_
  refine W.gyes rfl rfl ?_
  refine W.q (Ev.move (.t rfl)) rfl ?_
  refine W.gyes rfl rfl ?_
  refine W.q (Ev.eqs (.t rfl) .k) rfl ?_
  refine W.q (Ev.or (.t rfl) ⟨_, _, rfl, rfl, by first | (simp; done) | (intro hg_ hp_; simp [hp_]; done) | (simp <;> omega; done) | (simp_all; done) | grind⟩) rfl ?_
  refine W.q (Ev.move (.t rfl)) rfl ?_
  refine W.is (t := 36) (g := true) (av' := .bool false) rfl (congrArg AV.bool (by simp [hs])) ?_
  refine W.gyes rfl rfl ?_
  refine W.q (Ev.move (.t rfl)) rfl ?_
  refine W.gyes rfl rfl ?_
  refine W.q (Ev.nilc (.t rfl)) rfl ?_
  refine W.gyes rfl rfl ?_
  first | refine W.q (Ev.fae (.t rfl) fa45_3 rfl) rfl ?_ | refine W.q (Ev.fab (.t rfl) fa45_3) rfl ?_ | refine W.q (Ev.faa (.t rfl) fa45_3) rfl ?_
  refine W.gyes rfl rfl ?_
  first | refine W.q (Ev.lde1 (.t rfl) ag9) rfl ?_ | refine W.q (Ev.ldb1 0 (.t rfl) rfl ag9 rfl) rfl ?_ | refine W.q (Ev.ldb1 1 (.t rfl) rfl ag9 rfl) rfl ?_ | refine W.q (Ev.ldb1 2 (.t rfl) rfl ag9 rfl) rfl ?_ | refine W.q (Ev.ldb1 3 (.t rfl) rfl ag9 rfl) rfl ?_ | refine W.q (Ev.ldb1 4 (.t rfl) rfl ag9 rfl) rfl ?_ | refine W.q (Ev.ldb1 5 (.t rfl) rfl ag9 rfl) rfl ?_
  refine W.gyes rfl rfl ?_
  refine W.q (Ev.nes (.t rfl) .k) rfl ?_
  refine W.q (Ev.or (.t rfl) ⟨_, _, rfl, rfl, by first | (simp; done) | (intro hg_ hp_; simp [hp_]; done) | (simp <;> omega; done) | (simp_all; done) | grind⟩) rfl ?_
  refine W.nil ?_
  refine W.then ?_
  refine W.is (t := 42) (g := true) (av' := .lit (.bool false)) rfl (congrArg (fun b => AV.lit (.bool b)) (by simp [hs])) ?_
  refine W.condF (.t rfl) ?_
  refine W.skip ?_
  refine W.then ?_
  refine W.seq ?_
  refine W.seq ?_
  refine W.region ?_
  refine W.q (Ev.move (.t rfl)) rfl ?_
  refine W.q (Ev.nilc (.t rfl)) rfl ?_
  first | refine W.q (Ev.fae (.t rfl) fa43_1 rfl) rfl ?_ | refine W.q (Ev.fab (.t rfl) fa43_1) rfl ?_ | refine W.q (Ev.faa (.t rfl) fa43_1) rfl ?_
  refine W.q (Ev.ldb1 (3 * a + 2) (.t rfl) (Opn.mem_get0 cs a c hc) ag41 rfl) rfl ?_
  refine W.q (Ev.lenar (i := 3 * a + 3) (.t rfl) (Opn.mem_get1 cs a c hc) Tryd.underlying41) rfl ?_
  refine W.q (Ev.assign (.t rfl)) rfl ?_
  refine W.nil ?_
  refine W.then ?_
  refine W.seq ?_
  refine W.region ?_
  refine W.q (Ev.move (.t rfl)) rfl ?_
  refine W.q (Ev.gti (.t rfl) .k) rfl ?_
  refine W.q (Ev.move (.t rfl)) rfl ?_
  refine W.is (t := 50) (g := true) (av' := .bool false) rfl (congrArg AV.bool (by simp [hpl])) ?_
  refine W.gnob rfl rfl (by simp) rfl ?_
  refine W.gnob rfl rfl (by simp) rfl ?_
  refine W.gnob rfl rfl (by simp) rfl ?_
  refine W.gnob rfl rfl (by simp) rfl ?_
  refine W.gnob rfl rfl (by simp) rfl ?_
  refine W.gnob rfl rfl (by simp) rfl ?_
  refine W.gnob rfl rfl (by simp) rfl ?_
  refine W.gnob rfl rfl (by simp) rfl ?_
  refine W.gnob rfl rfl (by simp) rfl ?_
  refine W.gnob rfl rfl (by simp) rfl ?_
  refine W.gnob rfl rfl (by simp) rfl ?_
  refine W.gnob rfl rfl (by simp) rfl ?_
  refine W.q (Ev.and (.t rfl) ⟨_, _, rfl, rfl, by first | (simp; done) | (intro hg_ hp_; simp [hp_]; done) | (simp <;> omega; done) | (simp_all; done) | grind⟩) rfl ?_
  refine W.nil ?_
  refine W.then ?_
  refine W.is (t := 63) (g := true) (av' := .lit (.bool false)) rfl (congrArg (fun b => AV.lit (.bool b)) (by first | rfl | simp)) ?_
  refine W.condF (.t rfl) ?_
  refine W.skip ?_
  refine W.then ?_
  refine W.seq ?_
  refine W.region ?_
  refine W.perm (M' := .box b 45 [.lit (.pointer (some ⟨r, 0, none⟩)), .lit vs, .int cnt, .str []] :: .arr vs 39 1 (sk.map fun i => Opn.ptr (bs i)) :: (Opn.ents 43 52 39 bs c ++ Opn.mem 43 52 39 bs (cs.eraseIdx a))) (List.Perm.cons _ (List.Perm.cons _ (Opn.mem_front cs a c hc))) ?_
  refine W.q (Ev.move (.t rfl)) rfl ?_
  refine W.q (Ev.move (.t rfl)) rfl ?_
  refine W.q (Ev.nilc (.t rfl)) rfl ?_
  first | refine W.q (Ev.fae (.t rfl) fa43_1 rfl) rfl ?_ | refine W.q (Ev.fab (.t rfl) fa43_1) rfl ?_ | refine W.q (Ev.faa (.t rfl) fa43_1) rfl ?_
  first | refine W.q (Ev.lde1 (.t rfl) ag41) rfl ?_ | refine W.q (Ev.ldb1 0 (.t rfl) rfl ag41 rfl) rfl ?_ | refine W.q (Ev.ldb1 1 (.t rfl) rfl ag41 rfl) rfl ?_ | refine W.q (Ev.ldb1 2 (.t rfl) rfl ag41 rfl) rfl ?_ | refine W.q (Ev.ldb1 3 (.t rfl) rfl ag41 rfl) rfl ?_ | refine W.q (Ev.ldb1 4 (.t rfl) rfl ag41 rfl) rfl ?_ | refine W.q (Ev.ldb1 5 (.t rfl) rfl ag41 rfl) rfl ?_
  refine W.q (Ev.move (.t rfl)) rfl ?_
  refine W.q (Ev.build ty43 st43 rfl (fun hg => ⟨_, _, _, rfl, (.t rfl), rfl, rfl, rfl, rfl⟩)) rfl ?_
  refine W.box (.t rfl) rfl rfl ?_
  intro b86
  refine W.bs (es := [_]) Tryd.underlying41 ty39 ⟨rfl, (.t rfl), rfl, rfl, trivial⟩ rfl (by decide) rfl rfl ?_
  first | refine W.app 0 (.t rfl) rfl (.sl (.t rfl) (by first | (simp [AV.okc, shV]; done) | (intro e he; rw [List.mem_singleton.1 he]; rfl))) Tryd.underlying41 ni41 ty39 rfl rfl (by rw [List.length_map]; simp only [List.length_cons, List.length_nil]; omega) rfl ?_ | refine W.app 1 (.t rfl) rfl (.sl (.t rfl) (by first | (simp [AV.okc, shV]; done) | (intro e he; rw [List.mem_singleton.1 he]; rfl))) Tryd.underlying41 ni41 ty39 rfl rfl (by rw [List.length_map]; simp only [List.length_cons, List.length_nil]; omega) rfl ?_ | refine W.app 2 (.t rfl) rfl (.sl (.t rfl) (by first | (simp [AV.okc, shV]; done) | (intro e he; rw [List.mem_singleton.1 he]; rfl))) Tryd.underlying41 ni41 ty39 rfl rfl (by rw [List.length_map]; simp only [List.length_cons, List.length_nil]; omega) rfl ?_ | refine W.app 3 (.t rfl) rfl (.sl (.t rfl) (by first | (simp [AV.okc, shV]; done) | (intro e he; rw [List.mem_singleton.1 he]; rfl))) Tryd.underlying41 ni41 ty39 rfl rfl (by rw [List.length_map]; simp only [List.length_cons, List.length_nil]; omega) rfl ?_ | refine W.app 4 (.t rfl) rfl (.sl (.t rfl) (by first | (simp [AV.okc, shV]; done) | (intro e he; rw [List.mem_singleton.1 he]; rfl))) Tryd.underlying41 ni41 ty39 rfl rfl (by rw [List.length_map]; simp only [List.length_cons, List.length_nil]; omega) rfl ?_ | refine W.app 5 (.t rfl) rfl (.sl (.t rfl) (by first | (simp [AV.okc, shV]; done) | (intro e he; rw [List.mem_singleton.1 he]; rfl))) Tryd.underlying41 ni41 ty39 rfl rfl (by rw [List.length_map]; simp only [List.length_cons, List.length_nil]; omega) rfl ?_ | refine W.app 0 (.t rfl) rfl (.arr 0 (.t rfl) rfl (by first | (simp [AV.okc, shV]; done) | (intro e he; rw [List.mem_singleton.1 he]; rfl))) Tryd.underlying41 ni41 ty39 rfl rfl (by rw [List.length_map]; simp only [List.length_cons, List.length_nil]; omega) rfl ?_ | refine W.app 0 (.t rfl) rfl (.arr 1 (.t rfl) rfl (by first | (simp [AV.okc, shV]; done) | (intro e he; rw [List.mem_singleton.1 he]; rfl))) Tryd.underlying41 ni41 ty39 rfl rfl (by rw [List.length_map]; simp only [List.length_cons, List.length_nil]; omega) rfl ?_ | refine W.app 0 (.t rfl) rfl (.arr 2 (.t rfl) rfl (by first | (simp [AV.okc, shV]; done) | (intro e he; rw [List.mem_singleton.1 he]; rfl))) Tryd.underlying41 ni41 ty39 rfl rfl (by rw [List.length_map]; simp only [List.length_cons, List.length_nil]; omega) rfl ?_ | refine W.app 0 (.t rfl) rfl (.arr 3 (.t rfl) rfl (by first | (simp [AV.okc, shV]; done) | (intro e he; rw [List.mem_singleton.1 he]; rfl))) Tryd.underlying41 ni41 ty39 rfl rfl (by rw [List.length_map]; simp only [List.length_cons, List.length_nil]; omega) rfl ?_ | refine W.app 0 (.t rfl) rfl (.arr 4 (.t rfl) rfl (by first | (simp [AV.okc, shV]; done) | (intro e he; rw [List.mem_singleton.1 he]; rfl))) Tryd.underlying41 ni41 ty39 rfl rfl (by rw [List.length_map]; simp only [List.length_cons, List.length_nil]; omega) rfl ?_ | refine W.app 0 (.t rfl) rfl (.arr 5 (.t rfl) rfl (by first | (simp [AV.okc, shV]; done) | (intro e he; rw [List.mem_singleton.1 he]; rfl))) Tryd.underlying41 ni41 ty39 rfl rfl (by rw [List.length_map]; simp only [List.length_cons, List.length_nil]; omega) rfl ?_ | refine W.app 1 (.t rfl) rfl (.arr 0 (.t rfl) rfl (by first | (simp [AV.okc, shV]; done) | (intro e he; rw [List.mem_singleton.1 he]; rfl))) Tryd.underlying41 ni41 ty39 rfl rfl (by rw [List.length_map]; simp only [List.length_cons, List.length_nil]; omega) rfl ?_ | refine W.app 1 (.t rfl) rfl (.arr 1 (.t rfl) rfl (by first | (simp [AV.okc, shV]; done) | (intro e he; rw [List.mem_singleton.1 he]; rfl))) Tryd.underlying41 ni41 ty39 rfl rfl (by rw [List.length_map]; simp only [List.length_cons, List.length_nil]; omega) rfl ?_ | refine W.app 1 (.t rfl) rfl (.arr 2 (.t rfl) rfl (by first | (simp [AV.okc, shV]; done) | (intro e he; rw [List.mem_singleton.1 he]; rfl))) Tryd.underlying41 ni41 ty39 rfl rfl (by rw [List.length_map]; simp only [List.length_cons, List.length_nil]; omega) rfl ?_ | refine W.app 1 (.t rfl) rfl (.arr 3 (.t rfl) rfl (by first | (simp [AV.okc, shV]; done) | (intro e he; rw [List.mem_singleton.1 he]; rfl))) Tryd.underlying41 ni41 ty39 rfl rfl (by rw [List.length_map]; simp only [List.length_cons, List.length_nil]; omega) rfl ?_ | refine W.app 1 (.t rfl) rfl (.arr 4 (.t rfl) rfl (by first | (simp [AV.okc, shV]; done) | (intro e he; rw [List.mem_singleton.1 he]; rfl))) Tryd.underlying41 ni41 ty39 rfl rfl (by rw [List.length_map]; simp only [List.length_cons, List.length_nil]; omega) rfl ?_ | refine W.app 1 (.t rfl) rfl (.arr 5 (.t rfl) rfl (by first | (simp [AV.okc, shV]; done) | (intro e he; rw [List.mem_singleton.1 he]; rfl))) Tryd.underlying41 ni41 ty39 rfl rfl (by rw [List.length_map]; simp only [List.length_cons, List.length_nil]; omega) rfl ?_ | refine W.app 2 (.t rfl) rfl (.arr 0 (.t rfl) rfl (by first | (simp [AV.okc, shV]; done) | (intro e he; rw [List.mem_singleton.1 he]; rfl))) Tryd.underlying41 ni41 ty39 rfl rfl (by rw [List.length_map]; simp only [List.length_cons, List.length_nil]; omega) rfl ?_ | refine W.app 2 (.t rfl) rfl (.arr 1 (.t rfl) rfl (by first | (simp [AV.okc, shV]; done) | (intro e he; rw [List.mem_singleton.1 he]; rfl))) Tryd.underlying41 ni41 ty39 rfl rfl (by rw [List.length_map]; simp only [List.length_cons, List.length_nil]; omega) rfl ?_ | refine W.app 2 (.t rfl) rfl (.arr 2 (.t rfl) rfl (by first | (simp [AV.okc, shV]; done) | (intro e he; rw [List.mem_singleton.1 he]; rfl))) Tryd.underlying41 ni41 ty39 rfl rfl (by rw [List.length_map]; simp only [List.length_cons, List.length_nil]; omega) rfl ?_ | refine W.app 2 (.t rfl) rfl (.arr 3 (.t rfl) rfl (by first | (simp [AV.okc, shV]; done) | (intro e he; rw [List.mem_singleton.1 he]; rfl))) Tryd.underlying41 ni41 ty39 rfl rfl (by rw [List.length_map]; simp only [List.length_cons, List.length_nil]; omega) rfl ?_ | refine W.app 2 (.t rfl) rfl (.arr 4 (.t rfl) rfl (by first | (simp [AV.okc, shV]; done) | (intro e he; rw [List.mem_singleton.1 he]; rfl))) Tryd.underlying41 ni41 ty39 rfl rfl (by rw [List.length_map]; simp only [List.length_cons, List.length_nil]; omega) rfl ?_ | refine W.app 2 (.t rfl) rfl (.arr 5 (.t rfl) rfl (by first | (simp [AV.okc, shV]; done) | (intro e he; rw [List.mem_singleton.1 he]; rfl))) Tryd.underlying41 ni41 ty39 rfl rfl (by rw [List.length_map]; simp only [List.length_cons, List.length_nil]; omega) rfl ?_ | refine W.app 3 (.t rfl) rfl (.arr 0 (.t rfl) rfl (by first | (simp [AV.okc, shV]; done) | (intro e he; rw [List.mem_singleton.1 he]; rfl))) Tryd.underlying41 ni41 ty39 rfl rfl (by rw [List.length_map]; simp only [List.length_cons, List.length_nil]; omega) rfl ?_ | refine W.app 3 (.t rfl) rfl (.arr 1 (.t rfl) rfl (by first | (simp [AV.okc, shV]; done) | (intro e he; rw [List.mem_singleton.1 he]; rfl))) Tryd.underlying41 ni41 ty39 rfl rfl (by rw [List.length_map]; simp only [List.length_cons, List.length_nil]; omega) rfl ?_ | refine W.app 3 (.t rfl) rfl (.arr 2 (.t rfl) rfl (by first | (simp [AV.okc, shV]; done) | (intro e he; rw [List.mem_singleton.1 he]; rfl))) Tryd.underlying41 ni41 ty39 rfl rfl (by rw [List.length_map]; simp only [List.length_cons, List.length_nil]; omega) rfl ?_ | refine W.app 3 (.t rfl) rfl (.arr 3 (.t rfl) rfl (by first | (simp [AV.okc, shV]; done) | (intro e he; rw [List.mem_singleton.1 he]; rfl))) Tryd.underlying41 ni41 ty39 rfl rfl (by rw [List.length_map]; simp only [List.length_cons, List.length_nil]; omega) rfl ?_ | refine W.app 3 (.t rfl) rfl (.arr 4 (.t rfl) rfl (by first | (simp [AV.okc, shV]; done) | (intro e he; rw [List.mem_singleton.1 he]; rfl))) Tryd.underlying41 ni41 ty39 rfl rfl (by rw [List.length_map]; simp only [List.length_cons, List.length_nil]; omega) rfl ?_ | refine W.app 3 (.t rfl) rfl (.arr 5 (.t rfl) rfl (by first | (simp [AV.okc, shV]; done) | (intro e he; rw [List.mem_singleton.1 he]; rfl))) Tryd.underlying41 ni41 ty39 rfl rfl (by rw [List.length_map]; simp only [List.length_cons, List.length_nil]; omega) rfl ?_ | refine W.app 4 (.t rfl) rfl (.arr 0 (.t rfl) rfl (by first | (simp [AV.okc, shV]; done) | (intro e he; rw [List.mem_singleton.1 he]; rfl))) Tryd.underlying41 ni41 ty39 rfl rfl (by rw [List.length_map]; simp only [List.length_cons, List.length_nil]; omega) rfl ?_ | refine W.app 4 (.t rfl) rfl (.arr 1 (.t rfl) rfl (by first | (simp [AV.okc, shV]; done) | (intro e he; rw [List.mem_singleton.1 he]; rfl))) Tryd.underlying41 ni41 ty39 rfl rfl (by rw [List.length_map]; simp only [List.length_cons, List.length_nil]; omega) rfl ?_ | refine W.app 4 (.t rfl) rfl (.arr 2 (.t rfl) rfl (by first | (simp [AV.okc, shV]; done) | (intro e he; rw [List.mem_singleton.1 he]; rfl))) Tryd.underlying41 ni41 ty39 rfl rfl (by rw [List.length_map]; simp only [List.length_cons, List.length_nil]; omega) rfl ?_ | refine W.app 4 (.t rfl) rfl (.arr 3 (.t rfl) rfl (by first | (simp [AV.okc, shV]; done) | (intro e he; rw [List.mem_singleton.1 he]; rfl))) Tryd.underlying41 ni41 ty39 rfl rfl (by rw [List.length_map]; simp only [List.length_cons, List.length_nil]; omega) rfl ?_ | refine W.app 4 (.t rfl) rfl (.arr 4 (.t rfl) rfl (by first | (simp [AV.okc, shV]; done) | (intro e he; rw [List.mem_singleton.1 he]; rfl))) Tryd.underlying41 ni41 ty39 rfl rfl (by rw [List.length_map]; simp only [List.length_cons, List.length_nil]; omega) rfl ?_ | refine W.app 4 (.t rfl) rfl (.arr 5 (.t rfl) rfl (by first | (simp [AV.okc, shV]; done) | (intro e he; rw [List.mem_singleton.1 he]; rfl))) Tryd.underlying41 ni41 ty39 rfl rfl (by rw [List.length_map]; simp only [List.length_cons, List.length_nil]; omega) rfl ?_ | refine W.app 5 (.t rfl) rfl (.arr 0 (.t rfl) rfl (by first | (simp [AV.okc, shV]; done) | (intro e he; rw [List.mem_singleton.1 he]; rfl))) Tryd.underlying41 ni41 ty39 rfl rfl (by rw [List.length_map]; simp only [List.length_cons, List.length_nil]; omega) rfl ?_ | refine W.app 5 (.t rfl) rfl (.arr 1 (.t rfl) rfl (by first | (simp [AV.okc, shV]; done) | (intro e he; rw [List.mem_singleton.1 he]; rfl))) Tryd.underlying41 ni41 ty39 rfl rfl (by rw [List.length_map]; simp only [List.length_cons, List.length_nil]; omega) rfl ?_ | refine W.app 5 (.t rfl) rfl (.arr 2 (.t rfl) rfl (by first | (simp [AV.okc, shV]; done) | (intro e he; rw [List.mem_singleton.1 he]; rfl))) Tryd.underlying41 ni41 ty39 rfl rfl (by rw [List.length_map]; simp only [List.length_cons, List.length_nil]; omega) rfl ?_ | refine W.app 5 (.t rfl) rfl (.arr 3 (.t rfl) rfl (by first | (simp [AV.okc, shV]; done) | (intro e he; rw [List.mem_singleton.1 he]; rfl))) Tryd.underlying41 ni41 ty39 rfl rfl (by rw [List.length_map]; simp only [List.length_cons, List.length_nil]; omega) rfl ?_ | refine W.app 5 (.t rfl) rfl (.arr 4 (.t rfl) rfl (by first | (simp [AV.okc, shV]; done) | (intro e he; rw [List.mem_singleton.1 he]; rfl))) Tryd.underlying41 ni41 ty39 rfl rfl (by rw [List.length_map]; simp only [List.length_cons, List.length_nil]; omega) rfl ?_ | refine W.app 5 (.t rfl) rfl (.arr 5 (.t rfl) rfl (by first | (simp [AV.okc, shV]; done) | (intro e he; rw [List.mem_singleton.1 he]; rfl))) Tryd.underlying41 ni41 ty39 rfl rfl (by rw [List.length_map]; simp only [List.length_cons, List.length_nil]; omega) rfl ?_
  intro v88
  refine W.arr_inv 4 rfl (fun a8 n8 c8 h8 => ?_)
  subst h8
  refine W.q (Ev.nilc (.t rfl)) rfl ?_
  first | refine W.q (Ev.fae (.t rfl) fa43_1 rfl) rfl ?_ | refine W.q (Ev.fab (.t rfl) fa43_1) rfl ?_ | refine W.q (Ev.faa (.t rfl) fa43_1) rfl ?_
  first | refine W.stb 0 (.t rfl) (.t rfl) rfl ty41 rfl rfl rfl ?_ | refine W.stb 1 (.t rfl) (.t rfl) rfl ty41 rfl rfl rfl ?_ | refine W.stb 2 (.t rfl) (.t rfl) rfl ty41 rfl rfl rfl ?_ | refine W.stb 3 (.t rfl) (.t rfl) rfl ty41 rfl rfl rfl ?_ | refine W.stb 4 (.t rfl) (.t rfl) rfl ty41 rfl rfl rfl ?_ | refine W.stb 5 (.t rfl) (.t rfl) rfl ty41 rfl rfl rfl ?_
  refine W.nil ?_
  refine W.then ?_
  refine W.region ?_
  refine W.q (Ev.move (.t rfl)) rfl ?_
  refine W.q (Ev.nilc (.t rfl)) rfl ?_
  first | refine W.q (Ev.fae (.t rfl) fa45_2 rfl) rfl ?_ | refine W.q (Ev.fab (.t rfl) fa45_2) rfl ?_ | refine W.q (Ev.faa (.t rfl) fa45_2) rfl ?_
  first | refine W.q (Ev.lde1 (.t rfl) ag3) rfl ?_ | refine W.q (Ev.ldb1 0 (.t rfl) rfl ag3 rfl) rfl ?_ | refine W.q (Ev.ldb1 1 (.t rfl) rfl ag3 rfl) rfl ?_ | refine W.q (Ev.ldb1 2 (.t rfl) rfl ag3 rfl) rfl ?_ | refine W.q (Ev.ldb1 3 (.t rfl) rfl ag3 rfl) rfl ?_ | refine W.q (Ev.ldb1 4 (.t rfl) rfl ag3 rfl) rfl ?_ | refine W.q (Ev.ldb1 5 (.t rfl) rfl ag3 rfl) rfl ?_
  first | refine W.q (Ev.add (.t rfl) .k (fun _ => by omega)) rfl ?_ | refine W.q (Ev.addw (.t rfl) .k) rfl ?_
  refine W.q (Ev.nilc (.t rfl)) rfl ?_
  first | refine W.q (Ev.fae (.t rfl) fa45_2 rfl) rfl ?_ | refine W.q (Ev.fab (.t rfl) fa45_2) rfl ?_ | refine W.q (Ev.faa (.t rfl) fa45_2) rfl ?_
  first | refine W.stb 0 (.t rfl) (.t rfl) rfl ty3 rfl rfl rfl ?_ | refine W.stb 1 (.t rfl) (.t rfl) rfl ty3 rfl rfl rfl ?_ | refine W.stb 2 (.t rfl) (.t rfl) rfl ty3 rfl rfl rfl ?_ | refine W.stb 3 (.t rfl) (.t rfl) rfl ty3 rfl rfl rfl ?_ | refine W.stb 4 (.t rfl) (.t rfl) rfl ty3 rfl rfl rfl ?_ | refine W.stb 5 (.t rfl) (.t rfl) rfl ty3 rfl rfl rfl ?_
  refine W.nil ?_
  refine W.own_nil 39 1 ?_
  refine W.own_nil 52 4 ?_
  refine W.endn (M' := (_ :: _ :: _ :: _ :: _ :: _ :: _ :: _ :: _)) (D := []) (rs := []) (avs := []) Tryd.results11 trivial rfl (by rw [List.append_nil]; exact ((List.perm_middle (l₁ := [_, _, _])).trans <| List.Perm.cons _ <| (List.perm_middle (l₁ := [_, _, _])).trans <| List.Perm.cons _ <| (List.perm_middle (l₁ := [_, _])).trans <| List.Perm.cons _ <| (List.perm_middle (l₁ := [_])).trans <| List.Perm.cons _ <| List.Perm.cons _ <| List.Perm.cons _ <| List.Perm.cons _ <| List.Perm.cons _ <| .refl _)) ?_
  exact ⟨rfl, b86, .slice a8 n8 c8, rfl⟩

theorem c_charsN01 (b r : Nat) (bs : Nat → Nat) (vs : Value) (cnt : Int) (sk : List Nat) (hsk : 0 < sk.length) (hs1 : sk.length ≤ 1000) (cs : List Opn.Oc) (c : Opn.Oc) (a : Nat) (ha : sk.getD (sk.length - 1) 0 = a) (hc : cs[a]? = some c) (hcb : bs a = c.b) (hpl2 : c.o.parts.length ≤ 1000) (s : List UInt8) (hs : s ≠ []) (hcnt : 0 ≤ cnt) (hcn2 : cnt ≤ 1000) (he : c.o.elem = false) (cp : Opn.Oc) (q : Nat) (hp : cs[q]? = some cp) (hpb : bs q = cp.b) (hpl : 0 < c.o.parts.length) (hpq : c.o.parts.getD (c.o.parts.length - 1) 0 = q) (hpe : cp.o.elem = true) : FnC Tryd.prog 11 [.lit (.pointer (some ⟨b, 0, none⟩)), .str s] (.box b 45 [.lit (.pointer (some ⟨r, 0, none⟩)), .lit vs, .int cnt, .str []] :: .arr vs 39 1 (sk.map fun i => Opn.ptr (bs i)) :: Opn.mem 43 52 39 bs cs) (fun rr M => rr = .tup [] ∧ ∃ (b8 : Nat) (v8 : Value), M = .box b 45 [.lit (.pointer (some ⟨r, 0, none⟩)), .lit vs, .int (cnt + 1), .str []] :: .arr vs 39 1 (sk.map fun i => Opn.ptr (bs i)) :: (Opn.ents 43 52 39 bs ⟨⟨false, [], [], s, []⟩, b8, 0, .slice none 0 0⟩ ++ ([Opn.obox 43 { c with v := v8 }, .arr v8 39 1 ((c.o.parts.map fun i => Opn.ptr (bs i)) ++ [Opn.ptr b8]), Opn.onode 52 c] ++ Opn.mem 43 52 39 bs (cs.eraseIdx a)))) :=  by
  refine FnC.mk Tryd.func11 (by kernel_rfl) rfl Tryd.ntmps11 rfl (fun w0 F => ?_)
  have hml : (c.o.parts.map fun i => Opn.ptr (bs i)).length = c.o.parts.length := List.length_map ..
  have hga := getD_mapG (fun i => Opn.ptr (bs i)) 0 c.o.parts (c.o.parts.length - 1) (by omega)
  rw [hpq, hpb] at hga
  refine W.seq ?_
  refine W.region ?_
  refine W.q (Ev.move (.t rfl)) rfl ?_
  refine W.call (WOLast.c_last b r bs vs cnt [] sk hsk hs1) ⟨(.t rfl), trivial⟩ (.refl _) rfl ?_
  rintro _ _ ⟨rfl, rfl⟩
  rw [ha, hcb]
  refine W.q (Ev.assign (.t rfl)) rfl ?_
  refine W.nil ?_
  refine W.then ?_
  refine W.seq ?_
  refine W.seq ?_
  refine W.region ?_
  refine W.q (Ev.move (.t rfl)) rfl ?_
  refine W.q (Ev.nilc (.t rfl)) rfl ?_
  first | refine W.q (Ev.fae (.t rfl) fa43_3 rfl) rfl ?_ | refine W.q (Ev.fab (.t rfl) fa43_3) rfl ?_ | refine W.q (Ev.faa (.t rfl) fa43_3) rfl ?_
  refine W.q (Ev.ldb1 (3 * a + 2) (.t rfl) (Opn.mem_get0 cs a c hc) ag4 rfl) rfl ?_
  rw [he]
  refine W.q (Ev.move (.t rfl)) rfl ?_
  refine W.gnob rfl rfl (by simp) rfl ?_
  refine W.gnob rfl rfl (by simp) rfl ?_
  refine W.gnob rfl rfl (by simp) rfl ?_
  refine W.gnob rfl rfl (by simp) rfl ?_
  refine W.gnob rfl rfl (by simp) rfl ?_
  refine W.gnob rfl rfl (by simp) rfl ?_
  refine W.gnob rfl rfl (by simp) rfl ?_
  refine W.gnob rfl rfl (by simp) rfl ?_
  refine W.gnob rfl rfl (by simp) rfl ?_
  refine W.qgF' (av := .lit (.bool false)) rfl rfl (fun _ _ _ hg => absurd hg (by simp)) rfl ?_
  refine W.qgF' (av := .lit (.bool false)) rfl rfl (fun _ _ _ hg => absurd hg (by simp)) rfl ?_
  refine W.qgF' (av := .lit (.bool false)) rfl rfl (fun _ _ _ hg => absurd hg (by simp)) rfl ?_
  refine W.qgF' (av := .lit (.bool false)) rfl rfl (fun _ _ _ hg => absurd hg (by simp)) rfl ?_
  refine W.qgF' (av := .lit (.bool false)) rfl rfl (fun _ _ _ hg => absurd hg (by simp)) rfl ?_
  refine W.qgF' (av := .lit (.bool false)) rfl rfl (fun _ _ _ hg => absurd hg (by simp)) rfl ?_
  refine W.qgF' (av := .lit (.bool false)) rfl rfl (fun _ _ _ hg => absurd hg (by simp)) rfl ?_
  refine W.qgF' (av := .lit (.bool false)) rfl rfl (fun _ _ _ hg => absurd hg (by simp)) rfl ?_
  refine W.gnob rfl rfl (by simp) rfl ?_
  refine W.q (Ev.and (.t rfl) ⟨_, _, rfl, rfl, by first | (simp; done) | (intro hg_ hp_; simp [hp_]; done) | (simp <;> omega; done) | (simp_all; done) | grind⟩) rfl ?_
  refine W.q (Ev.move (.t rfl)) rfl ?_
  refine W.gyes rfl rfl ?_
  refine W.q (Ev.move (.t rfl)) rfl ?_
  refine W.gyes rfl rfl ?_
  refine W.q (Ev.eqs (.t rfl) .k) rfl ?_
  refine W.q (Ev.or (.t rfl) ⟨_, _, rfl, rfl, by first | (simp; done) | (intro hg_ hp_; simp [hp_]; done) | (simp <;> omega; done) | (simp_all; done) | grind⟩) rfl ?_
  refine W.q (Ev.move (.t rfl)) rfl ?_
  refine W.is (t := 36) (g := true) (av' := .bool false) rfl (congrArg AV.bool (by simp [hs])) ?_
  refine W.gyes rfl rfl ?_
  refine W.q (Ev.move (.t rfl)) rfl ?_
  refine W.gyes rfl rfl ?_
  refine W.q (Ev.nilc (.t rfl)) rfl ?_
  refine W.gyes rfl rfl ?_
  first | refine W.q (Ev.fae (.t rfl) fa45_3 rfl) rfl ?_ | refine W.q (Ev.fab (.t rfl) fa45_3) rfl ?_ | refine W.q (Ev.faa (.t rfl) fa45_3) rfl ?_
  refine W.gyes rfl rfl ?_
  first | refine W.q (Ev.lde1 (.t rfl) ag9) rfl ?_ | refine W.q (Ev.ldb1 0 (.t rfl) rfl ag9 rfl) rfl ?_ | refine W.q (Ev.ldb1 1 (.t rfl) rfl ag9 rfl) rfl ?_ | refine W.q (Ev.ldb1 2 (.t rfl) rfl ag9 rfl) rfl ?_ | refine W.q (Ev.ldb1 3 (.t rfl) rfl ag9 rfl) rfl ?_ | refine W.q (Ev.ldb1 4 (.t rfl) rfl ag9 rfl) rfl ?_ | refine W.q (Ev.ldb1 5 (.t rfl) rfl ag9 rfl) rfl ?_
  refine W.gyes rfl rfl ?_
  refine W.q (Ev.nes (.t rfl) .k) rfl ?_
  refine W.q (Ev.or (.t rfl) ⟨_, _, rfl, rfl, by first | (simp; done) | (intro hg_ hp_; simp [hp_]; done) | (simp <;> omega; done) | (simp_all; done) | grind⟩) rfl ?_
  refine W.nil ?_
  refine W.then ?_
  refine W.is (t := 42) (g := true) (av' := .lit (.bool false)) rfl (congrArg (fun b => AV.lit (.bool b)) (by simp [hs])) ?_
  refine W.condF (.t rfl) ?_
  refine W.skip ?_
  refine W.then ?_
  refine W.seq ?_
  refine W.seq ?_
  refine W.region ?_
  refine W.q (Ev.move (.t rfl)) rfl ?_
  refine W.q (Ev.nilc (.t rfl)) rfl ?_
  first | refine W.q (Ev.fae (.t rfl) fa43_1 rfl) rfl ?_ | refine W.q (Ev.fab (.t rfl) fa43_1) rfl ?_ | refine W.q (Ev.faa (.t rfl) fa43_1) rfl ?_
  refine W.q (Ev.ldb1 (3 * a + 2) (.t rfl) (Opn.mem_get0 cs a c hc) ag41 rfl) rfl ?_
  refine W.q (Ev.lenar (i := 3 * a + 3) (.t rfl) (Opn.mem_get1 cs a c hc) Tryd.underlying41) rfl ?_
  refine W.q (Ev.assign (.t rfl)) rfl ?_
  refine W.nil ?_
  refine W.then ?_
  refine W.seq ?_
  refine W.region ?_
  refine W.q (Ev.move (.t rfl)) rfl ?_
  refine W.q (Ev.gti (.t rfl) .k) rfl ?_
  refine W.q (Ev.move (.t rfl)) rfl ?_
  refine W.is (t := 50) (g := true) (av' := .bool true) rfl (congrArg AV.bool (by simp; omega)) ?_
  refine W.gyes rfl rfl ?_
  refine W.q (Ev.move (.t rfl)) rfl ?_
  refine W.gyes rfl rfl ?_
  refine W.q (Ev.nilc (.t rfl)) rfl ?_
  refine W.gyes rfl rfl ?_
  first | refine W.q (Ev.fae (.t rfl) fa43_1 rfl) rfl ?_ | refine W.q (Ev.fab (.t rfl) fa43_1) rfl ?_ | refine W.q (Ev.faa (.t rfl) fa43_1) rfl ?_
  refine W.gyes rfl rfl ?_
  refine W.q (Ev.ldb1 (3 * a + 2) (.t rfl) (Opn.mem_get0 cs a c hc) ag41 rfl) rfl ?_
  refine W.gyes rfl rfl ?_
  refine W.q (Ev.move (.t rfl)) rfl ?_
  refine W.gyes rfl rfl ?_
  first | refine W.q (Ev.sub (.t rfl) .k (fun _ => by omega)) rfl ?_ | refine W.q (Ev.subw (.t rfl) .k) rfl ?_
  refine W.gyes rfl rfl ?_
  refine W.q (Ev.ata (3 * a + 3) (.t rfl) (Opn.mem_get1 cs a c hc) (.t rfl) Tryd.underlying41 ty39 (fun _ => by rw [List.length_map]; omega)) rfl ?_
  refine W.gyes rfl rfl ?_
  refine W.q (Ev.lda1 (3 * a + 3) (c.o.parts.length - 1) 0 (.t rfl) (Opn.mem_get1 cs a c hc) hga (by omega) rfl rfl rfl ag39) rfl ?_
  refine W.gyes rfl rfl ?_
  refine W.q (Ev.nilc (.t rfl)) rfl ?_
  refine W.gyes rfl rfl ?_
  first | refine W.q (Ev.fae (.t rfl) fa43_3 rfl) rfl ?_ | refine W.q (Ev.fab (.t rfl) fa43_3) rfl ?_ | refine W.q (Ev.faa (.t rfl) fa43_3) rfl ?_
  refine W.gyes rfl rfl ?_
  refine W.q (Ev.ldb1 (3 * q + 2) (.t rfl) (Opn.mem_get0 cs q cp hp) ag4 rfl) rfl ?_
  rw [hpe]
  refine W.gyes rfl rfl ?_
  refine W.q (Ev.not (.t rfl)) rfl ?_
  refine W.q (Ev.and (.t rfl) ⟨_, _, rfl, rfl, by first | (simp; done) | (intro hg_ hp_; simp [hp_]; done) | (simp <;> omega; done) | (simp_all; done) | grind⟩) rfl ?_
  refine W.nil ?_
  refine W.then ?_
  refine W.is (t := 63) (g := true) (av' := .lit (.bool false)) rfl (congrArg (fun b => AV.lit (.bool b)) (by first | rfl | simp)) ?_
  refine W.condF (.t rfl) ?_
  refine W.skip ?_
  refine W.then ?_
  refine W.seq ?_
  refine W.region ?_
  refine W.perm (M' := .box b 45 [.lit (.pointer (some ⟨r, 0, none⟩)), .lit vs, .int cnt, .str []] :: .arr vs 39 1 (sk.map fun i => Opn.ptr (bs i)) :: (Opn.ents 43 52 39 bs c ++ Opn.mem 43 52 39 bs (cs.eraseIdx a))) (List.Perm.cons _ (List.Perm.cons _ (Opn.mem_front cs a c hc))) ?_
  refine W.q (Ev.move (.t rfl)) rfl ?_
  refine W.q (Ev.move (.t rfl)) rfl ?_
  refine W.q (Ev.nilc (.t rfl)) rfl ?_
  first | refine W.q (Ev.fae (.t rfl) fa43_1 rfl) rfl ?_ | refine W.q (Ev.fab (.t rfl) fa43_1) rfl ?_ | refine W.q (Ev.faa (.t rfl) fa43_1) rfl ?_
  first | refine W.q (Ev.lde1 (.t rfl) ag41) rfl ?_ | refine W.q (Ev.ldb1 0 (.t rfl) rfl ag41 rfl) rfl ?_ | refine W.q (Ev.ldb1 1 (.t rfl) rfl ag41 rfl) rfl ?_ | refine W.q (Ev.ldb1 2 (.t rfl) rfl ag41 rfl) rfl ?_ | refine W.q (Ev.ldb1 3 (.t rfl) rfl ag41 rfl) rfl ?_ | refine W.q (Ev.ldb1 4 (.t rfl) rfl ag41 rfl) rfl ?_ | refine W.q (Ev.ldb1 5 (.t rfl) rfl ag41 rfl) rfl ?_
  refine W.q (Ev.move (.t rfl)) rfl ?_
  refine W.q (Ev.build ty43 st43 rfl (fun hg => ⟨_, _, _, rfl, (.t rfl), rfl, rfl, rfl, rfl⟩)) rfl ?_
  refine W.box (.t rfl) rfl rfl ?_
  intro b86
  refine W.bs (es := [_]) Tryd.underlying41 ty39 ⟨rfl, (.t rfl), rfl, rfl, trivial⟩ rfl (by decide) rfl rfl ?_
  first | refine W.app 0 (.t rfl) rfl (.sl (.t rfl) (by first | (simp [AV.okc, shV]; done) | (intro e he; rw [List.mem_singleton.1 he]; rfl))) Tryd.underlying41 ni41 ty39 rfl rfl (by rw [List.length_map]; simp only [List.length_cons, List.length_nil]; omega) rfl ?_ | refine W.app 1 (.t rfl) rfl (.sl (.t rfl) (by first | (simp [AV.okc, shV]; done) | (intro e he; rw [List.mem_singleton.1 he]; rfl))) Tryd.underlying41 ni41 ty39 rfl rfl (by rw [List.length_map]; simp only [List.length_cons, List.length_nil]; omega) rfl ?_ | refine W.app 2 (.t rfl) rfl (.sl (.t rfl) (by first | (simp [AV.okc, shV]; done) | (intro e he; rw [List.mem_singleton.1 he]; rfl))) Tryd.underlying41 ni41 ty39 rfl rfl (by rw [List.length_map]; simp only [List.length_cons, List.length_nil]; omega) rfl ?_ | refine W.app 3 (.t rfl) rfl (.sl (.t rfl) (by first | (simp [AV.okc, shV]; done) | (intro e he; rw [List.mem_singleton.1 he]; rfl))) Tryd.underlying41 ni41 ty39 rfl rfl (by rw [List.length_map]; simp only [List.length_cons, List.length_nil]; omega) rfl ?_ | refine W.app 4 (.t rfl) rfl (.sl (.t rfl) (by first | (simp [AV.okc, shV]; done) | (intro e he; rw [List.mem_singleton.1 he]; rfl))) Tryd.underlying41 ni41 ty39 rfl rfl (by rw [List.length_map]; simp only [List.length_cons, List.length_nil]; omega) rfl ?_ | refine W.app 5 (.t rfl) rfl (.sl (.t rfl) (by first | (simp [AV.okc, shV]; done) | (intro e he; rw [List.mem_singleton.1 he]; rfl))) Tryd.underlying41 ni41 ty39 rfl rfl (by rw [List.length_map]; simp only [List.length_cons, List.length_nil]; omega) rfl ?_ | refine W.app 0 (.t rfl) rfl (.arr 0 (.t rfl) rfl (by first | (simp [AV.okc, shV]; done) | (intro e he; rw [List.mem_singleton.1 he]; rfl))) Tryd.underlying41 ni41 ty39 rfl rfl (by rw [List.length_map]; simp only [List.length_cons, List.length_nil]; omega) rfl ?_ | refine W.app 0 (.t rfl) rfl (.arr 1 (.t rfl) rfl (by first | (simp [AV.okc, shV]; done) | (intro e he; rw [List.mem_singleton.1 he]; rfl))) Tryd.underlying41 ni41 ty39 rfl rfl (by rw [List.length_map]; simp only [List.length_cons, List.length_nil]; omega) rfl ?_ | refine W.app 0 (.t rfl) rfl (.arr 2 (.t rfl) rfl (by first | (simp [AV.okc, shV]; done) | (intro e he; rw [List.mem_singleton.1 he]; rfl))) Tryd.underlying41 ni41 ty39 rfl rfl (by rw [List.length_map]; simp only [List.length_cons, List.length_nil]; omega) rfl ?_ | refine W.app 0 (.t rfl) rfl (.arr 3 (.t rfl) rfl (by first | (simp [AV.okc, shV]; done) | (intro e he; rw [List.mem_singleton.1 he]; rfl))) Tryd.underlying41 ni41 ty39 rfl rfl (by rw [List.length_map]; simp only [List.length_cons, List.length_nil]; omega) rfl ?_ | refine W.app 0 (.t rfl) rfl (.arr 4 (.t rfl) rfl (by first | (simp [AV.okc, shV]; done) | (intro e he; rw [List.mem_singleton.1 he]; rfl))) Tryd.underlying41 ni41 ty39 rfl rfl (by rw [List.length_map]; simp only [List.length_cons, List.length_nil]; omega) rfl ?_ | refine W.app 0 (.t rfl) rfl (.arr 5 (.t rfl) rfl (by first | (simp [AV.okc, shV]; done) | (intro e he; rw [List.mem_singleton.1 he]; rfl))) Tryd.underlying41 ni41 ty39 rfl rfl (by rw [List.length_map]; simp only [List.length_cons, List.length_nil]; omega) rfl ?_ | refine W.app 1 (.t rfl) rfl (.arr 0 (.t rfl) rfl (by first | (simp [AV.okc, shV]; done) | (intro e he; rw [List.mem_singleton.1 he]; rfl))) Tryd.underlying41 ni41 ty39 rfl rfl (by rw [List.length_map]; simp only [List.length_cons, List.length_nil]; omega) rfl ?_ | refine W.app 1 (.t rfl) rfl (.arr 1 (.t rfl) rfl (by first | (simp [AV.okc, shV]; done) | (intro e he; rw [List.mem_singleton.1 he]; rfl))) Tryd.underlying41 ni41 ty39 rfl rfl (by rw [List.length_map]; simp only [List.length_cons, List.length_nil]; omega) rfl ?_ | refine W.app 1 (.t rfl) rfl (.arr 2 (.t rfl) rfl (by first | (simp [AV.okc, shV]; done) | (intro e he; rw [List.mem_singleton.1 he]; rfl))) Tryd.underlying41 ni41 ty39 rfl rfl (by rw [List.length_map]; simp only [List.length_cons, List.length_nil]; omega) rfl ?_ | refine W.app 1 (.t rfl) rfl (.arr 3 (.t rfl) rfl (by first | (simp [AV.okc, shV]; done) | (intro e he; rw [List.mem_singleton.1 he]; rfl))) Tryd.underlying41 ni41 ty39 rfl rfl (by rw [List.length_map]; simp only [List.length_cons, List.length_nil]; omega) rfl ?_ | refine W.app 1 (.t rfl) rfl (.arr 4 (.t rfl) rfl (by first | (simp [AV.okc, shV]; done) | (intro e he; rw [List.mem_singleton.1 he]; rfl))) Tryd.underlying41 ni41 ty39 rfl rfl (by rw [List.length_map]; simp only [List.length_cons, List.length_nil]; omega) rfl ?_ | refine W.app 1 (.t rfl) rfl (.arr 5 (.t rfl) rfl (by first | (simp [AV.okc, shV]; done) | (intro e he; rw [List.mem_singleton.1 he]; rfl))) Tryd.underlying41 ni41 ty39 rfl rfl (by rw [List.length_map]; simp only [List.length_cons, List.length_nil]; omega) rfl ?_ | refine W.app 2 (.t rfl) rfl (.arr 0 (.t rfl) rfl (by first | (simp [AV.okc, shV]; done) | (intro e he; rw [List.mem_singleton.1 he]; rfl))) Tryd.underlying41 ni41 ty39 rfl rfl (by rw [List.length_map]; simp only [List.length_cons, List.length_nil]; omega) rfl ?_ | refine W.app 2 (.t rfl) rfl (.arr 1 (.t rfl) rfl (by first | (simp [AV.okc, shV]; done) | (intro e he; rw [List.mem_singleton.1 he]; rfl))) Tryd.underlying41 ni41 ty39 rfl rfl (by rw [List.length_map]; simp only [List.length_cons, List.length_nil]; omega) rfl ?_ | refine W.app 2 (.t rfl) rfl (.arr 2 (.t rfl) rfl (by first | (simp [AV.okc, shV]; done) | (intro e he; rw [List.mem_singleton.1 he]; rfl))) Tryd.underlying41 ni41 ty39 rfl rfl (by rw [List.length_map]; simp only [List.length_cons, List.length_nil]; omega) rfl ?_ | refine W.app 2 (.t rfl) rfl (.arr 3 (.t rfl) rfl (by first | (simp [AV.okc, shV]; done) | (intro e he; rw [List.mem_singleton.1 he]; rfl))) Tryd.underlying41 ni41 ty39 rfl rfl (by rw [List.length_map]; simp only [List.length_cons, List.length_nil]; omega) rfl ?_ | refine W.app 2 (.t rfl) rfl (.arr 4 (.t rfl) rfl (by first | (simp [AV.okc, shV]; done) | (intro e he; rw [List.mem_singleton.1 he]; rfl))) Tryd.underlying41 ni41 ty39 rfl rfl (by rw [List.length_map]; simp only [List.length_cons, List.length_nil]; omega) rfl ?_ | refine W.app 2 (.t rfl) rfl (.arr 5 (.t rfl) rfl (by first | (simp [AV.okc, shV]; done) | (intro e he; rw [List.mem_singleton.1 he]; rfl))) Tryd.underlying41 ni41 ty39 rfl rfl (by rw [List.length_map]; simp only [List.length_cons, List.length_nil]; omega) rfl ?_ | refine W.app 3 (.t rfl) rfl (.arr 0 (.t rfl) rfl (by first | (simp [AV.okc, shV]; done) | (intro e he; rw [List.mem_singleton.1 he]; rfl))) Tryd.underlying41 ni41 ty39 rfl rfl (by rw [List.length_map]; simp only [List.length_cons, List.length_nil]; omega) rfl ?_ | refine W.app 3 (.t rfl) rfl (.arr 1 (.t rfl) rfl (by first | (simp [AV.okc, shV]; done) | (intro e he; rw [List.mem_singleton.1 he]; rfl))) Tryd.underlying41 ni41 ty39 rfl rfl (by rw [List.length_map]; simp only [List.length_cons, List.length_nil]; omega) rfl ?_ | refine W.app 3 (.t rfl) rfl (.arr 2 (.t rfl) rfl (by first | (simp [AV.okc, shV]; done) | (intro e he; rw [List.mem_singleton.1 he]; rfl))) Tryd.underlying41 ni41 ty39 rfl rfl (by rw [List.length_map]; simp only [List.length_cons, List.length_nil]; omega) rfl ?_ | refine W.app 3 (.t rfl) rfl (.arr 3 (.t rfl) rfl (by first | (simp [AV.okc, shV]; done) | (intro e he; rw [List.mem_singleton.1 he]; rfl))) Tryd.underlying41 ni41 ty39 rfl rfl (by rw [List.length_map]; simp only [List.length_cons, List.length_nil]; omega) rfl ?_ | refine W.app 3 (.t rfl) rfl (.arr 4 (.t rfl) rfl (by first | (simp [AV.okc, shV]; done) | (intro e he; rw [List.mem_singleton.1 he]; rfl))) Tryd.underlying41 ni41 ty39 rfl rfl (by rw [List.length_map]; simp only [List.length_cons, List.length_nil]; omega) rfl ?_ | refine W.app 3 (.t rfl) rfl (.arr 5 (.t rfl) rfl (by first | (simp [AV.okc, shV]; done) | (intro e he; rw [List.mem_singleton.1 he]; rfl))) Tryd.underlying41 ni41 ty39 rfl rfl (by rw [List.length_map]; simp only [List.length_cons, List.length_nil]; omega) rfl ?_ | refine W.app 4 (.t rfl) rfl (.arr 0 (.t rfl) rfl (by first | (simp [AV.okc, shV]; done) | (intro e he; rw [List.mem_singleton.1 he]; rfl))) Tryd.underlying41 ni41 ty39 rfl rfl (by rw [List.length_map]; simp only [List.length_cons, List.length_nil]; omega) rfl ?_ | refine W.app 4 (.t rfl) rfl (.arr 1 (.t rfl) rfl (by first | (simp [AV.okc, shV]; done) | (intro e he; rw [List.mem_singleton.1 he]; rfl))) Tryd.underlying41 ni41 ty39 rfl rfl (by rw [List.length_map]; simp only [List.length_cons, List.length_nil]; omega) rfl ?_ | refine W.app 4 (.t rfl) rfl (.arr 2 (.t rfl) rfl (by first | (simp [AV.okc, shV]; done) | (intro e he; rw [List.mem_singleton.1 he]; rfl))) Tryd.underlying41 ni41 ty39 rfl rfl (by rw [List.length_map]; simp only [List.length_cons, List.length_nil]; omega) rfl ?_ | refine W.app 4 (.t rfl) rfl (.arr 3 (.t rfl) rfl (by first | (simp [AV.okc, shV]; done) | (intro e he; rw [List.mem_singleton.1 he]; rfl))) Tryd.underlying41 ni41 ty39 rfl rfl (by rw [List.length_map]; simp only [List.length_cons, List.length_nil]; omega) rfl ?_ | refine W.app 4 (.t rfl) rfl (.arr 4 (.t rfl) rfl (by first | (simp [AV.okc, shV]; done) | (intro e he; rw [List.mem_singleton.1 he]; rfl))) Tryd.underlying41 ni41 ty39 rfl rfl (by rw [List.length_map]; simp only [List.length_cons, List.length_nil]; omega) rfl ?_ | refine W.app 4 (.t rfl) rfl (.arr 5 (.t rfl) rfl (by first | (simp [AV.okc, shV]; done) | (intro e he; rw [List.mem_singleton.1 he]; rfl))) Tryd.underlying41 ni41 ty39 rfl rfl (by rw [List.length_map]; simp only [List.length_cons, List.length_nil]; omega) rfl ?_ | refine W.app 5 (.t rfl) rfl (.arr 0 (.t rfl) rfl (by first | (simp [AV.okc, shV]; done) | (intro e he; rw [List.mem_singleton.1 he]; rfl))) Tryd.underlying41 ni41 ty39 rfl rfl (by rw [List.length_map]; simp only [List.length_cons, List.length_nil]; omega) rfl ?_ | refine W.app 5 (.t rfl) rfl (.arr 1 (.t rfl) rfl (by first | (simp [AV.okc, shV]; done) | (intro e he; rw [List.mem_singleton.1 he]; rfl))) Tryd.underlying41 ni41 ty39 rfl rfl (by rw [List.length_map]; simp only [List.length_cons, List.length_nil]; omega) rfl ?_ | refine W.app 5 (.t rfl) rfl (.arr 2 (.t rfl) rfl (by first | (simp [AV.okc, shV]; done) | (intro e he; rw [List.mem_singleton.1 he]; rfl))) Tryd.underlying41 ni41 ty39 rfl rfl (by rw [List.length_map]; simp only [List.length_cons, List.length_nil]; omega) rfl ?_ | refine W.app 5 (.t rfl) rfl (.arr 3 (.t rfl) rfl (by first | (simp [AV.okc, shV]; done) | (intro e he; rw [List.mem_singleton.1 he]; rfl))) Tryd.underlying41 ni41 ty39 rfl rfl (by rw [List.length_map]; simp only [List.length_cons, List.length_nil]; omega) rfl ?_ | refine W.app 5 (.t rfl) rfl (.arr 4 (.t rfl) rfl (by first | (simp [AV.okc, shV]; done) | (intro e he; rw [List.mem_singleton.1 he]; rfl))) Tryd.underlying41 ni41 ty39 rfl rfl (by rw [List.length_map]; simp only [List.length_cons, List.length_nil]; omega) rfl ?_ | refine W.app 5 (.t rfl) rfl (.arr 5 (.t rfl) rfl (by first | (simp [AV.okc, shV]; done) | (intro e he; rw [List.mem_singleton.1 he]; rfl))) Tryd.underlying41 ni41 ty39 rfl rfl (by rw [List.length_map]; simp only [List.length_cons, List.length_nil]; omega) rfl ?_
  intro v88
  refine W.arr_inv 4 rfl (fun a8 n8 c8 h8 => ?_)
  subst h8
  refine W.q (Ev.nilc (.t rfl)) rfl ?_
  first | refine W.q (Ev.fae (.t rfl) fa43_1 rfl) rfl ?_ | refine W.q (Ev.fab (.t rfl) fa43_1) rfl ?_ | refine W.q (Ev.faa (.t rfl) fa43_1) rfl ?_
  first | refine W.stb 0 (.t rfl) (.t rfl) rfl ty41 rfl rfl rfl ?_ | refine W.stb 1 (.t rfl) (.t rfl) rfl ty41 rfl rfl rfl ?_ | refine W.stb 2 (.t rfl) (.t rfl) rfl ty41 rfl rfl rfl ?_ | refine W.stb 3 (.t rfl) (.t rfl) rfl ty41 rfl rfl rfl ?_ | refine W.stb 4 (.t rfl) (.t rfl) rfl ty41 rfl rfl rfl ?_ | refine W.stb 5 (.t rfl) (.t rfl) rfl ty41 rfl rfl rfl ?_
  refine W.nil ?_
  refine W.then ?_
  refine W.region ?_
  refine W.q (Ev.move (.t rfl)) rfl ?_
  refine W.q (Ev.nilc (.t rfl)) rfl ?_
  first | refine W.q (Ev.fae (.t rfl) fa45_2 rfl) rfl ?_ | refine W.q (Ev.fab (.t rfl) fa45_2) rfl ?_ | refine W.q (Ev.faa (.t rfl) fa45_2) rfl ?_
  first | refine W.q (Ev.lde1 (.t rfl) ag3) rfl ?_ | refine W.q (Ev.ldb1 0 (.t rfl) rfl ag3 rfl) rfl ?_ | refine W.q (Ev.ldb1 1 (.t rfl) rfl ag3 rfl) rfl ?_ | refine W.q (Ev.ldb1 2 (.t rfl) rfl ag3 rfl) rfl ?_ | refine W.q (Ev.ldb1 3 (.t rfl) rfl ag3 rfl) rfl ?_ | refine W.q (Ev.ldb1 4 (.t rfl) rfl ag3 rfl) rfl ?_ | refine W.q (Ev.ldb1 5 (.t rfl) rfl ag3 rfl) rfl ?_
  first | refine W.q (Ev.add (.t rfl) .k (fun _ => by omega)) rfl ?_ | refine W.q (Ev.addw (.t rfl) .k) rfl ?_
  refine W.q (Ev.nilc (.t rfl)) rfl ?_
  first | refine W.q (Ev.fae (.t rfl) fa45_2 rfl) rfl ?_ | refine W.q (Ev.fab (.t rfl) fa45_2) rfl ?_ | refine W.q (Ev.faa (.t rfl) fa45_2) rfl ?_
  first | refine W.stb 0 (.t rfl) (.t rfl) rfl ty3 rfl rfl rfl ?_ | refine W.stb 1 (.t rfl) (.t rfl) rfl ty3 rfl rfl rfl ?_ | refine W.stb 2 (.t rfl) (.t rfl) rfl ty3 rfl rfl rfl ?_ | refine W.stb 3 (.t rfl) (.t rfl) rfl ty3 rfl rfl rfl ?_ | refine W.stb 4 (.t rfl) (.t rfl) rfl ty3 rfl rfl rfl ?_ | refine W.stb 5 (.t rfl) (.t rfl) rfl ty3 rfl rfl rfl ?_
  refine W.nil ?_
  refine W.own_nil 39 1 ?_
  refine W.own_nil 52 4 ?_
  refine W.endn (M' := (_ :: _ :: _ :: _ :: _ :: _ :: _ :: _ :: _)) (D := []) (rs := []) (avs := []) Tryd.results11 trivial rfl (by rw [List.append_nil]; exact ((List.perm_middle (l₁ := [_, _, _])).trans <| List.Perm.cons _ <| (List.perm_middle (l₁ := [_, _, _])).trans <| List.Perm.cons _ <| (List.perm_middle (l₁ := [_, _])).trans <| List.Perm.cons _ <| (List.perm_middle (l₁ := [_])).trans <| List.Perm.cons _ <| List.Perm.cons _ <| List.Perm.cons _ <| List.Perm.cons _ <| List.Perm.cons _ <| .refl _)) ?_
  exact ⟨rfl, b86, .slice a8 n8 c8, rfl⟩

theorem c_charsN10 (b r : Nat) (bs : Nat → Nat) (vs : Value) (cnt : Int) (sk : List Nat) (hsk : 0 < sk.length) (hs1 : sk.length ≤ 1000) (cs : List Opn.Oc) (c : Opn.Oc) (a : Nat) (ha : sk.getD (sk.length - 1) 0 = a) (hc : cs[a]? = some c) (hcb : bs a = c.b) (hpl2 : c.o.parts.length ≤ 1000) (s : List UInt8) (hs : s ≠ []) (hcnt : 0 ≤ cnt) (hcn2 : cnt ≤ 1000) (he : c.o.elem = true) (hm1 : c.o.name ≠ [115, 99, 114, 105, 112, 116]) (hm2 : c.o.name ≠ [115, 116, 121, 108, 101]) (hpl : c.o.parts.length = 0) : FnC Tryd.prog 11 [.lit (.pointer (some ⟨b, 0, none⟩)), .str s] (.box b 45 [.lit (.pointer (some ⟨r, 0, none⟩)), .lit vs, .int cnt, .str []] :: .arr vs 39 1 (sk.map fun i => Opn.ptr (bs i)) :: Opn.mem 43 52 39 bs cs) (fun rr M => rr = .tup [] ∧ ∃ (b8 : Nat) (v8 : Value), M = .box b 45 [.lit (.pointer (some ⟨r, 0, none⟩)), .lit vs, .int (cnt + 1), .str []] :: .arr vs 39 1 (sk.map fun i => Opn.ptr (bs i)) :: (Opn.ents 43 52 39 bs ⟨⟨false, [], [], s, []⟩, b8, 0, .slice none 0 0⟩ ++ ([Opn.obox 43 { c with v := v8 }, .arr v8 39 1 ((c.o.parts.map fun i => Opn.ptr (bs i)) ++ [Opn.ptr b8]), Opn.onode 52 c] ++ Opn.mem 43 52 39 bs (cs.eraseIdx a)))) :=  by
  refine FnC.mk Tryd.func11 (by kernel_rfl) rfl Tryd.ntmps11 rfl (fun w0 F => ?_)
  have hml : (c.o.parts.map fun i => Opn.ptr (bs i)).length = c.o.parts.length := List.length_map ..
  refine W.seq ?_
  refine W.region ?_
  refine W.q (Ev.move (.t rfl)) rfl ?_
  refine W.call (WOLast.c_last b r bs vs cnt [] sk hsk hs1) ⟨(.t rfl), trivial⟩ (.refl _) rfl ?_
  rintro _ _ ⟨rfl, rfl⟩
  rw [ha, hcb]
  refine W.q (Ev.assign (.t rfl)) rfl ?_
  refine W.nil ?_
  refine W.then ?_
  refine W.seq ?_
  refine W.seq ?_
  refine W.region ?_
  refine W.q (Ev.move (.t rfl)) rfl ?_
  refine W.q (Ev.nilc (.t rfl)) rfl ?_
  first | refine W.q (Ev.fae (.t rfl) fa43_3 rfl) rfl ?_ | refine W.q (Ev.fab (.t rfl) fa43_3) rfl ?_ | refine W.q (Ev.faa (.t rfl) fa43_3) rfl ?_
  refine W.q (Ev.ldb1 (3 * a + 2) (.t rfl) (Opn.mem_get0 cs a c hc) ag4 rfl) rfl ?_
  rw [he]
  refine W.q (Ev.move (.t rfl)) rfl ?_
  refine W.gyes rfl rfl ?_
  refine W.q (Ev.move (.t rfl)) rfl ?_
  refine W.gyes rfl rfl ?_
  refine W.q (Ev.nilc (.t rfl)) rfl ?_
  refine W.gyes rfl rfl ?_
  first | refine W.q (Ev.fae (.t rfl) fa43_0 rfl) rfl ?_ | refine W.q (Ev.fab (.t rfl) fa43_0) rfl ?_ | refine W.q (Ev.faa (.t rfl) fa43_0) rfl ?_
  refine W.gyes rfl rfl ?_
  refine W.q (Ev.ldb1 (3 * a + 2) (.t rfl) (Opn.mem_get0 cs a c hc) ag40 rfl) rfl ?_
  rw [if_pos he]
  refine W.gyes rfl rfl ?_
  refine W.q (Ev.nilc (.t rfl)) rfl ?_
  refine W.gyes rfl rfl ?_
  first | refine W.q (Ev.fae (.t rfl) fa52_0 rfl) rfl ?_ | refine W.q (Ev.fab (.t rfl) fa52_0) rfl ?_ | refine W.q (Ev.faa (.t rfl) fa52_0) rfl ?_
  refine W.gyes rfl rfl ?_
  refine W.q (Ev.ldb1 (3 * a + 4) (.t rfl) ((Opn.mem_get2 cs a c hc).trans (congrArg some (if_pos he))) ag9 rfl) rfl ?_
  refine W.gyes rfl rfl ?_
  refine W.q (Ev.eqs (.t rfl) .k) rfl ?_
  refine W.is (t := 20) (g := true) (av' := .bool false) rfl (congrArg AV.bool (by simp [hm1])) ?_
  refine W.gyes rfl rfl ?_
  refine W.q (Ev.move (.t rfl)) rfl ?_
  refine W.gyes rfl rfl ?_
  refine W.q (Ev.move (.t rfl)) rfl ?_
  refine W.gyes rfl rfl ?_
  refine W.q (Ev.nilc (.t rfl)) rfl ?_
  refine W.gyes rfl rfl ?_
  first | refine W.q (Ev.fae (.t rfl) fa43_0 rfl) rfl ?_ | refine W.q (Ev.fab (.t rfl) fa43_0) rfl ?_ | refine W.q (Ev.faa (.t rfl) fa43_0) rfl ?_
  refine W.gyes rfl rfl ?_
  refine W.q (Ev.ldb1 (3 * a + 2) (.t rfl) (Opn.mem_get0 cs a c hc) ag40 rfl) rfl ?_
  rw [if_pos he]
  refine W.gyes rfl rfl ?_
  refine W.q (Ev.nilc (.t rfl)) rfl ?_
  refine W.gyes rfl rfl ?_
  first | refine W.q (Ev.fae (.t rfl) fa52_0 rfl) rfl ?_ | refine W.q (Ev.fab (.t rfl) fa52_0) rfl ?_ | refine W.q (Ev.faa (.t rfl) fa52_0) rfl ?_
  refine W.gyes rfl rfl ?_
  refine W.q (Ev.ldb1 (3 * a + 4) (.t rfl) ((Opn.mem_get2 cs a c hc).trans (congrArg some (if_pos he))) ag9 rfl) rfl ?_
  refine W.gyes rfl rfl ?_
  refine W.q (Ev.eqs (.t rfl) .k) rfl ?_
  refine W.is (t := 29) (g := true) (av' := .bool false) rfl (congrArg AV.bool (by simp [hm2])) ?_
  refine W.gyes rfl rfl ?_
  refine W.q (Ev.or (.t rfl) ⟨_, _, rfl, rfl, by first | (simp; done) | (intro hg_ hp_; simp [hp_]; done) | (simp <;> omega; done) | (simp_all; done) | grind⟩) rfl ?_
  refine W.q (Ev.and (.t rfl) ⟨_, _, rfl, rfl, by first | (simp; done) | (intro hg_ hp_; simp [hp_]; done) | (simp <;> omega; done) | (simp_all; done) | grind⟩) rfl ?_
  refine W.q (Ev.move (.t rfl)) rfl ?_
  refine W.gyes rfl rfl ?_
  refine W.q (Ev.move (.t rfl)) rfl ?_
  refine W.gyes rfl rfl ?_
  refine W.q (Ev.eqs (.t rfl) .k) rfl ?_
  refine W.q (Ev.or (.t rfl) ⟨_, _, rfl, rfl, by first | (simp; done) | (intro hg_ hp_; simp [hp_]; done) | (simp <;> omega; done) | (simp_all; done) | grind⟩) rfl ?_
  refine W.q (Ev.move (.t rfl)) rfl ?_
  refine W.is (t := 36) (g := true) (av' := .bool false) rfl (congrArg AV.bool (by simp [hs])) ?_
  refine W.gyes rfl rfl ?_
  refine W.q (Ev.move (.t rfl)) rfl ?_
  refine W.gyes rfl rfl ?_
  refine W.q (Ev.nilc (.t rfl)) rfl ?_
  refine W.gyes rfl rfl ?_
  first | refine W.q (Ev.fae (.t rfl) fa45_3 rfl) rfl ?_ | refine W.q (Ev.fab (.t rfl) fa45_3) rfl ?_ | refine W.q (Ev.faa (.t rfl) fa45_3) rfl ?_
  refine W.gyes rfl rfl ?_
  first | refine W.q (Ev.lde1 (.t rfl) ag9) rfl ?_ | refine W.q (Ev.ldb1 0 (.t rfl) rfl ag9 rfl) rfl ?_ | refine W.q (Ev.ldb1 1 (.t rfl) rfl ag9 rfl) rfl ?_ | refine W.q (Ev.ldb1 2 (.t rfl) rfl ag9 rfl) rfl ?_ | refine W.q (Ev.ldb1 3 (.t rfl) rfl ag9 rfl) rfl ?_ | refine W.q (Ev.ldb1 4 (.t rfl) rfl ag9 rfl) rfl ?_ | refine W.q (Ev.ldb1 5 (.t rfl) rfl ag9 rfl) rfl ?_
  refine W.gyes rfl rfl ?_
  refine W.q (Ev.nes (.t rfl) .k) rfl ?_
  refine W.q (Ev.or (.t rfl) ⟨_, _, rfl, rfl, by first | (simp; done) | (intro hg_ hp_; simp [hp_]; done) | (simp <;> omega; done) | (simp_all; done) | grind⟩) rfl ?_
  refine W.nil ?_
  refine W.then ?_
  refine W.is (t := 42) (g := true) (av' := .lit (.bool false)) rfl (congrArg (fun b => AV.lit (.bool b)) (by simp [hs])) ?_
  refine W.condF (.t rfl) ?_
  refine W.skip ?_
  refine W.then ?_
  refine W.seq ?_
  refine W.seq ?_
  refine W.region ?_
  refine W.q (Ev.move (.t rfl)) rfl ?_
  refine W.q (Ev.nilc (.t rfl)) rfl ?_
  first | refine W.q (Ev.fae (.t rfl) fa43_1 rfl) rfl ?_ | refine W.q (Ev.fab (.t rfl) fa43_1) rfl ?_ | refine W.q (Ev.faa (.t rfl) fa43_1) rfl ?_
  refine W.q (Ev.ldb1 (3 * a + 2) (.t rfl) (Opn.mem_get0 cs a c hc) ag41 rfl) rfl ?_
  refine W.q (Ev.lenar (i := 3 * a + 3) (.t rfl) (Opn.mem_get1 cs a c hc) Tryd.underlying41) rfl ?_
  refine W.q (Ev.assign (.t rfl)) rfl ?_
  refine W.nil ?_
  refine W.then ?_
  refine W.seq ?_
  refine W.region ?_
  refine W.q (Ev.move (.t rfl)) rfl ?_
  refine W.q (Ev.gti (.t rfl) .k) rfl ?_
  refine W.q (Ev.move (.t rfl)) rfl ?_
  refine W.is (t := 50) (g := true) (av' := .bool false) rfl (congrArg AV.bool (by simp [hpl])) ?_
  refine W.gnob rfl rfl (by simp) rfl ?_
  refine W.gnob rfl rfl (by simp) rfl ?_
  refine W.gnob rfl rfl (by simp) rfl ?_
  refine W.gnob rfl rfl (by simp) rfl ?_
  refine W.gnob rfl rfl (by simp) rfl ?_
  refine W.gnob rfl rfl (by simp) rfl ?_
  refine W.gnob rfl rfl (by simp) rfl ?_
  refine W.gnob rfl rfl (by simp) rfl ?_
  refine W.gnob rfl rfl (by simp) rfl ?_
  refine W.gnob rfl rfl (by simp) rfl ?_
  refine W.gnob rfl rfl (by simp) rfl ?_
  refine W.gnob rfl rfl (by simp) rfl ?_
  refine W.q (Ev.and (.t rfl) ⟨_, _, rfl, rfl, by first | (simp; done) | (intro hg_ hp_; simp [hp_]; done) | (simp <;> omega; done) | (simp_all; done) | grind⟩) rfl ?_
  refine W.nil ?_
  refine W.then ?_
  refine W.is (t := 63) (g := true) (av' := .lit (.bool false)) rfl (congrArg (fun b => AV.lit (.bool b)) (by first | rfl | simp)) ?_
  refine W.condF (.t rfl) ?_
  refine W.skip ?_
  refine W.then ?_
  refine W.seq ?_
  refine W.region ?_
  refine W.perm (M' := .box b 45 [.lit (.pointer (some ⟨r, 0, none⟩)), .lit vs, .int cnt, .str []] :: .arr vs 39 1 (sk.map fun i => Opn.ptr (bs i)) :: (Opn.ents 43 52 39 bs c ++ Opn.mem 43 52 39 bs (cs.eraseIdx a))) (List.Perm.cons _ (List.Perm.cons _ (Opn.mem_front cs a c hc))) ?_
  refine W.q (Ev.move (.t rfl)) rfl ?_
  refine W.q (Ev.move (.t rfl)) rfl ?_
  refine W.q (Ev.nilc (.t rfl)) rfl ?_
  first | refine W.q (Ev.fae (.t rfl) fa43_1 rfl) rfl ?_ | refine W.q (Ev.fab (.t rfl) fa43_1) rfl ?_ | refine W.q (Ev.faa (.t rfl) fa43_1) rfl ?_
  first | refine W.q (Ev.lde1 (.t rfl) ag41) rfl ?_ | refine W.q (Ev.ldb1 0 (.t rfl) rfl ag41 rfl) rfl ?_ | refine W.q (Ev.ldb1 1 (.t rfl) rfl ag41 rfl) rfl ?_ | refine W.q (Ev.ldb1 2 (.t rfl) rfl ag41 rfl) rfl ?_ | refine W.q (Ev.ldb1 3 (.t rfl) rfl ag41 rfl) rfl ?_ | refine W.q (Ev.ldb1 4 (.t rfl) rfl ag41 rfl) rfl ?_ | refine W.q (Ev.ldb1 5 (.t rfl) rfl ag41 rfl) rfl ?_
  refine W.q (Ev.move (.t rfl)) rfl ?_
  refine W.q (Ev.build ty43 st43 rfl (fun hg => ⟨_, _, _, rfl, (.t rfl), rfl, rfl, rfl, rfl⟩)) rfl ?_
  refine W.box (.t rfl) rfl rfl ?_
  intro b86
  refine W.bs (es := [_]) Tryd.underlying41 ty39 ⟨rfl, (.t rfl), rfl, rfl, trivial⟩ rfl (by decide) rfl rfl ?_
  first | refine W.app 0 (.t rfl) rfl (.sl (.t rfl) (by first | (simp [AV.okc, shV]; done) | (intro e he; rw [List.mem_singleton.1 he]; rfl))) Tryd.underlying41 ni41 ty39 rfl rfl (by rw [List.length_map]; simp only [List.length_cons, List.length_nil]; omega) rfl ?_ | refine W.app 1 (.t rfl) rfl (.sl (.t rfl) (by first | (simp [AV.okc, shV]; done) | (intro e he; rw [List.mem_singleton.1 he]; rfl))) Tryd.underlying41 ni41 ty39 rfl rfl (by rw [List.length_map]; simp only [List.length_cons, List.length_nil]; omega) rfl ?_ | refine W.app 2 (.t rfl) rfl (.sl (.t rfl) (by first | (simp [AV.okc, shV]; done) | (intro e he; rw [List.mem_singleton.1 he]; rfl))) Tryd.underlying41 ni41 ty39 rfl rfl (by rw [List.length_map]; simp only [List.length_cons, List.length_nil]; omega) rfl ?_ | refine W.app 3 (.t rfl) rfl (.sl (.t rfl) (by first | (simp [AV.okc, shV]; done) | (intro e he; rw [List.mem_singleton.1 he]; rfl))) Tryd.underlying41 ni41 ty39 rfl rfl (by rw [List.length_map]; simp only [List.length_cons, List.length_nil]; omega) rfl ?_ | refine W.app 4 (.t rfl) rfl (.sl (.t rfl) (by first | (simp [AV.okc, shV]; done) | (intro e he; rw [List.mem_singleton.1 he]; rfl))) Tryd.underlying41 ni41 ty39 rfl rfl (by rw [List.length_map]; simp only [List.length_cons, List.length_nil]; omega) rfl ?_ | refine W.app 5 (.t rfl) rfl (.sl (.t rfl) (by first | (simp [AV.okc, shV]; done) | (intro e he; rw [List.mem_singleton.1 he]; rfl))) Tryd.underlying41 ni41 ty39 rfl rfl (by rw [List.length_map]; simp only [List.length_cons, List.length_nil]; omega) rfl ?_ | refine W.app 0 (.t rfl) rfl (.arr 0 (.t rfl) rfl (by first | (simp [AV.okc, shV]; done) | (intro e he; rw [List.mem_singleton.1 he]; rfl))) Tryd.underlying41 ni41 ty39 rfl rfl (by rw [List.length_map]; simp only [List.length_cons, List.length_nil]; omega) rfl ?_ | refine W.app 0 (.t rfl) rfl (.arr 1 (.t rfl) rfl (by first | (simp [AV.okc, shV]; done) | (intro e he; rw [List.mem_singleton.1 he]; rfl))) Tryd.underlying41 ni41 ty39 rfl rfl (by rw [List.length_map]; simp only [List.length_cons, List.length_nil]; omega) rfl ?_ | refine W.app 0 (.t rfl) rfl (.arr 2 (.t rfl) rfl (by first | (simp [AV.okc, shV]; done) | (intro e he; rw [List.mem_singleton.1 he]; rfl))) Tryd.underlying41 ni41 ty39 rfl rfl (by rw [List.length_map]; simp only [List.length_cons, List.length_nil]; omega) rfl ?_ | refine W.app 0 (.t rfl) rfl (.arr 3 (.t rfl) rfl (by first | (simp [AV.okc, shV]; done) | (intro e he; rw [List.mem_singleton.1 he]; rfl))) Tryd.underlying41 ni41 ty39 rfl rfl (by rw [List.length_map]; simp only [List.length_cons, List.length_nil]; omega) rfl ?_ | refine W.app 0 (.t rfl) rfl (.arr 4 (.t rfl) rfl (by first | (simp [AV.okc, shV]; done) | (intro e he; rw [List.mem_singleton.1 he]; rfl))) Tryd.underlying41 ni41 ty39 rfl rfl (by rw [List.length_map]; simp only [List.length_cons, List.length_nil]; omega) rfl ?_ | refine W.app 0 (.t rfl) rfl (.arr 5 (.t rfl) rfl (by first | (simp [AV.okc, shV]; done) | (intro e he; rw [List.mem_singleton.1 he]; rfl))) Tryd.underlying41 ni41 ty39 rfl rfl (by rw [List.length_map]; simp only [List.length_cons, List.length_nil]; omega) rfl ?_ | refine W.app 1 (.t rfl) rfl (.arr 0 (.t rfl) rfl (by first | (simp [AV.okc, shV]; done) | (intro e he; rw [List.mem_singleton.1 he]; rfl))) Tryd.underlying41 ni41 ty39 rfl rfl (by rw [List.length_map]; simp only [List.length_cons, List.length_nil]; omega) rfl ?_ | refine W.app 1 (.t rfl) rfl (.arr 1 (.t rfl) rfl (by first | (simp [AV.okc, shV]; done) | (intro e he; rw [List.mem_singleton.1 he]; rfl))) Tryd.underlying41 ni41 ty39 rfl rfl (by rw [List.length_map]; simp only [List.length_cons, List.length_nil]; omega) rfl ?_ | refine W.app 1 (.t rfl) rfl (.arr 2 (.t rfl) rfl (by first | (simp [AV.okc, shV]; done) | (intro e he; rw [List.mem_singleton.1 he]; rfl))) Tryd.underlying41 ni41 ty39 rfl rfl (by rw [List.length_map]; simp only [List.length_cons, List.length_nil]; omega) rfl ?_ | refine W.app 1 (.t rfl) rfl (.arr 3 (.t rfl) rfl (by first | (simp [AV.okc, shV]; done) | (intro e he; rw [List.mem_singleton.1 he]; rfl))) Tryd.underlying41 ni41 ty39 rfl rfl (by rw [List.length_map]; simp only [List.length_cons, List.length_nil]; omega) rfl ?_ | refine W.app 1 (.t rfl) rfl (.arr 4 (.t rfl) rfl (by first | (simp [AV.okc, shV]; done) | (intro e he; rw [List.mem_singleton.1 he]; rfl))) Tryd.underlying41 ni41 ty39 rfl rfl (by rw [List.length_map]; simp only [List.length_cons, List.length_nil]; omega) rfl ?_ | refine W.app 1 (.t rfl) rfl (.arr 5 (.t rfl) rfl (by first | (simp [AV.okc, shV]; done) | (intro e he; rw [List.mem_singleton.1 he]; rfl))) Tryd.underlying41 ni41 ty39 rfl rfl (by rw [List.length_map]; simp only [List.length_cons, List.length_nil]; omega) rfl ?_ | refine W.app 2 (.t rfl) rfl (.arr 0 (.t rfl) rfl (by first | (simp [AV.okc, shV]; done) | (intro e he; rw [List.mem_singleton.1 he]; rfl))) Tryd.underlying41 ni41 ty39 rfl rfl (by rw [List.length_map]; simp only [List.length_cons, List.length_nil]; omega) rfl ?_ | refine W.app 2 (.t rfl) rfl (.arr 1 (.t rfl) rfl (by first | (simp [AV.okc, shV]; done) | (intro e he; rw [List.mem_singleton.1 he]; rfl))) Tryd.underlying41 ni41 ty39 rfl rfl (by rw [List.length_map]; simp only [List.length_cons, List.length_nil]; omega) rfl ?_ | refine W.app 2 (.t rfl) rfl (.arr 2 (.t rfl) rfl (by first | (simp [AV.okc, shV]; done) | (intro e he; rw [List.mem_singleton.1 he]; rfl))) Tryd.underlying41 ni41 ty39 rfl rfl (by rw [List.length_map]; simp only [List.length_cons, List.length_nil]; omega) rfl ?_ | refine W.app 2 (.t rfl) rfl (.arr 3 (.t rfl) rfl (by first | (simp [AV.okc, shV]; done) | (intro e he; rw [List.mem_singleton.1 he]; rfl))) Tryd.underlying41 ni41 ty39 rfl rfl (by rw [List.length_map]; simp only [List.length_cons, List.length_nil]; omega) rfl ?_ | refine W.app 2 (.t rfl) rfl (.arr 4 (.t rfl) rfl (by first | (simp [AV.okc, shV]; done) | (intro e he; rw [List.mem_singleton.1 he]; rfl))) Tryd.underlying41 ni41 ty39 rfl rfl (by rw [List.length_map]; simp only [List.length_cons, List.length_nil]; omega) rfl ?_ | refine W.app 2 (.t rfl) rfl (.arr 5 (.t rfl) rfl (by first | (simp [AV.okc, shV]; done) | (intro e he; rw [List.mem_singleton.1 he]; rfl))) Tryd.underlying41 ni41 ty39 rfl rfl (by rw [List.length_map]; simp only [List.length_cons, List.length_nil]; omega) rfl ?_ | refine W.app 3 (.t rfl) rfl (.arr 0 (.t rfl) rfl (by first | (simp [AV.okc, shV]; done) | (intro e he; rw [List.mem_singleton.1 he]; rfl))) Tryd.underlying41 ni41 ty39 rfl rfl (by rw [List.length_map]; simp only [List.length_cons, List.length_nil]; omega) rfl ?_ | refine W.app 3 (.t rfl) rfl (.arr 1 (.t rfl) rfl (by first | (simp [AV.okc, shV]; done) | (intro e he; rw [List.mem_singleton.1 he]; rfl))) Tryd.underlying41 ni41 ty39 rfl rfl (by rw [List.length_map]; simp only [List.length_cons, List.length_nil]; omega) rfl ?_ | refine W.app 3 (.t rfl) rfl (.arr 2 (.t rfl) rfl (by first | (simp [AV.okc, shV]; done) | (intro e he; rw [List.mem_singleton.1 he]; rfl))) Tryd.underlying41 ni41 ty39 rfl rfl (by rw [List.length_map]; simp only [List.length_cons, List.length_nil]; omega) rfl ?_ | refine W.app 3 (.t rfl) rfl (.arr 3 (.t rfl) rfl (by first | (simp [AV.okc, shV]; done) | (intro e he; rw [List.mem_singleton.1 he]; rfl))) Tryd.underlying41 ni41 ty39 rfl rfl (by rw [List.length_map]; simp only [List.length_cons, List.length_nil]; omega) rfl ?_ | refine W.app 3 (.t rfl) rfl (.arr 4 (.t rfl) rfl (by first | (simp [AV.okc, shV]; done) | (intro e he; rw [List.mem_singleton.1 he]; rfl))) Tryd.underlying41 ni41 ty39 rfl rfl (by rw [List.length_map]; simp only [List.length_cons, List.length_nil]; omega) rfl ?_ | refine W.app 3 (.t rfl) rfl (.arr 5 (.t rfl) rfl (by first | (simp [AV.okc, shV]; done) | (intro e he; rw [List.mem_singleton.1 he]; rfl))) Tryd.underlying41 ni41 ty39 rfl rfl (by rw [List.length_map]; simp only [List.length_cons, List.length_nil]; omega) rfl ?_ | refine W.app 4 (.t rfl) rfl (.arr 0 (.t rfl) rfl (by first | (simp [AV.okc, shV]; done) | (intro e he; rw [List.mem_singleton.1 he]; rfl))) Tryd.underlying41 ni41 ty39 rfl rfl (by rw [List.length_map]; simp only [List.length_cons, List.length_nil]; omega) rfl ?_ | refine W.app 4 (.t rfl) rfl (.arr 1 (.t rfl) rfl (by first | (simp [AV.okc, shV]; done) | (intro e he; rw [List.mem_singleton.1 he]; rfl))) Tryd.underlying41 ni41 ty39 rfl rfl (by rw [List.length_map]; simp only [List.length_cons, List.length_nil]; omega) rfl ?_ | refine W.app 4 (.t rfl) rfl (.arr 2 (.t rfl) rfl (by first | (simp [AV.okc, shV]; done) | (intro e he; rw [List.mem_singleton.1 he]; rfl))) Tryd.underlying41 ni41 ty39 rfl rfl (by rw [List.length_map]; simp only [List.length_cons, List.length_nil]; omega) rfl ?_ | refine W.app 4 (.t rfl) rfl (.arr 3 (.t rfl) rfl (by first | (simp [AV.okc, shV]; done) | (intro e he; rw [List.mem_singleton.1 he]; rfl))) Tryd.underlying41 ni41 ty39 rfl rfl (by rw [List.length_map]; simp only [List.length_cons, List.length_nil]; omega) rfl ?_ | refine W.app 4 (.t rfl) rfl (.arr 4 (.t rfl) rfl (by first | (simp [AV.okc, shV]; done) | (intro e he; rw [List.mem_singleton.1 he]; rfl))) Tryd.underlying41 ni41 ty39 rfl rfl (by rw [List.length_map]; simp only [List.length_cons, List.length_nil]; omega) rfl ?_ | refine W.app 4 (.t rfl) rfl (.arr 5 (.t rfl) rfl (by first | (simp [AV.okc, shV]; done) | (intro e he; rw [List.mem_singleton.1 he]; rfl))) Tryd.underlying41 ni41 ty39 rfl rfl (by rw [List.length_map]; simp only [List.length_cons, List.length_nil]; omega) rfl ?_ | refine W.app 5 (.t rfl) rfl (.arr 0 (.t rfl) rfl (by first | (simp [AV.okc, shV]; done) | (intro e he; rw [List.mem_singleton.1 he]; rfl))) Tryd.underlying41 ni41 ty39 rfl rfl (by rw [List.length_map]; simp only [List.length_cons, List.length_nil]; omega) rfl ?_ | refine W.app 5 (.t rfl) rfl (.arr 1 (.t rfl) rfl (by first | (simp [AV.okc, shV]; done) | (intro e he; rw [List.mem_singleton.1 he]; rfl))) Tryd.underlying41 ni41 ty39 rfl rfl (by rw [List.length_map]; simp only [List.length_cons, List.length_nil]; omega) rfl ?_ | refine W.app 5 (.t rfl) rfl (.arr 2 (.t rfl) rfl (by first | (simp [AV.okc, shV]; done) | (intro e he; rw [List.mem_singleton.1 he]; rfl))) Tryd.underlying41 ni41 ty39 rfl rfl (by rw [List.length_map]; simp only [List.length_cons, List.length_nil]; omega) rfl ?_ | refine W.app 5 (.t rfl) rfl (.arr 3 (.t rfl) rfl (by first | (simp [AV.okc, shV]; done) | (intro e he; rw [List.mem_singleton.1 he]; rfl))) Tryd.underlying41 ni41 ty39 rfl rfl (by rw [List.length_map]; simp only [List.length_cons, List.length_nil]; omega) rfl ?_ | refine W.app 5 (.t rfl) rfl (.arr 4 (.t rfl) rfl (by first | (simp [AV.okc, shV]; done) | (intro e he; rw [List.mem_singleton.1 he]; rfl))) Tryd.underlying41 ni41 ty39 rfl rfl (by rw [List.length_map]; simp only [List.length_cons, List.length_nil]; omega) rfl ?_ | refine W.app 5 (.t rfl) rfl (.arr 5 (.t rfl) rfl (by first | (simp [AV.okc, shV]; done) | (intro e he; rw [List.mem_singleton.1 he]; rfl))) Tryd.underlying41 ni41 ty39 rfl rfl (by rw [List.length_map]; simp only [List.length_cons, List.length_nil]; omega) rfl ?_
  intro v88
  refine W.arr_inv 4 rfl (fun a8 n8 c8 h8 => ?_)
  subst h8
  refine W.q (Ev.nilc (.t rfl)) rfl ?_
  first | refine W.q (Ev.fae (.t rfl) fa43_1 rfl) rfl ?_ | refine W.q (Ev.fab (.t rfl) fa43_1) rfl ?_ | refine W.q (Ev.faa (.t rfl) fa43_1) rfl ?_
  first | refine W.stb 0 (.t rfl) (.t rfl) rfl ty41 rfl rfl rfl ?_ | refine W.stb 1 (.t rfl) (.t rfl) rfl ty41 rfl rfl rfl ?_ | refine W.stb 2 (.t rfl) (.t rfl) rfl ty41 rfl rfl rfl ?_ | refine W.stb 3 (.t rfl) (.t rfl) rfl ty41 rfl rfl rfl ?_ | refine W.stb 4 (.t rfl) (.t rfl) rfl ty41 rfl rfl rfl ?_ | refine W.stb 5 (.t rfl) (.t rfl) rfl ty41 rfl rfl rfl ?_
  refine W.nil ?_
  refine W.then ?_
  refine W.region ?_
  refine W.q (Ev.move (.t rfl)) rfl ?_
  refine W.q (Ev.nilc (.t rfl)) rfl ?_
  first | refine W.q (Ev.fae (.t rfl) fa45_2 rfl) rfl ?_ | refine W.q (Ev.fab (.t rfl) fa45_2) rfl ?_ | refine W.q (Ev.faa (.t rfl) fa45_2) rfl ?_
  first | refine W.q (Ev.lde1 (.t rfl) ag3) rfl ?_ | refine W.q (Ev.ldb1 0 (.t rfl) rfl ag3 rfl) rfl ?_ | refine W.q (Ev.ldb1 1 (.t rfl) rfl ag3 rfl) rfl ?_ | refine W.q (Ev.ldb1 2 (.t rfl) rfl ag3 rfl) rfl ?_ | refine W.q (Ev.ldb1 3 (.t rfl) rfl ag3 rfl) rfl ?_ | refine W.q (Ev.ldb1 4 (.t rfl) rfl ag3 rfl) rfl ?_ | refine W.q (Ev.ldb1 5 (.t rfl) rfl ag3 rfl) rfl ?_
  first | refine W.q (Ev.add (.t rfl) .k (fun _ => by omega)) rfl ?_ | refine W.q (Ev.addw (.t rfl) .k) rfl ?_
  refine W.q (Ev.nilc (.t rfl)) rfl ?_
  first | refine W.q (Ev.fae (.t rfl) fa45_2 rfl) rfl ?_ | refine W.q (Ev.fab (.t rfl) fa45_2) rfl ?_ | refine W.q (Ev.faa (.t rfl) fa45_2) rfl ?_
  first | refine W.stb 0 (.t rfl) (.t rfl) rfl ty3 rfl rfl rfl ?_ | refine W.stb 1 (.t rfl) (.t rfl) rfl ty3 rfl rfl rfl ?_ | refine W.stb 2 (.t rfl) (.t rfl) rfl ty3 rfl rfl rfl ?_ | refine W.stb 3 (.t rfl) (.t rfl) rfl ty3 rfl rfl rfl ?_ | refine W.stb 4 (.t rfl) (.t rfl) rfl ty3 rfl rfl rfl ?_ | refine W.stb 5 (.t rfl) (.t rfl) rfl ty3 rfl rfl rfl ?_
  refine W.nil ?_
  refine W.own_nil 39 1 ?_
  refine W.own_nil 52 4 ?_
  refine W.endn (M' := (_ :: _ :: _ :: _ :: _ :: _ :: _ :: _ :: _)) (D := []) (rs := []) (avs := []) Tryd.results11 trivial rfl (by rw [List.append_nil]; exact ((List.perm_middle (l₁ := [_, _, _])).trans <| List.Perm.cons _ <| (List.perm_middle (l₁ := [_, _, _])).trans <| List.Perm.cons _ <| (List.perm_middle (l₁ := [_, _])).trans <| List.Perm.cons _ <| (List.perm_middle (l₁ := [_])).trans <| List.Perm.cons _ <| List.Perm.cons _ <| List.Perm.cons _ <| List.Perm.cons _ <| List.Perm.cons _ <| .refl _)) ?_
  exact ⟨rfl, b86, .slice a8 n8 c8, rfl⟩

theorem c_charsN11 (b r : Nat) (bs : Nat → Nat) (vs : Value) (cnt : Int) (sk : List Nat) (hsk : 0 < sk.length) (hs1 : sk.length ≤ 1000) (cs : List Opn.Oc) (c : Opn.Oc) (a : Nat) (ha : sk.getD (sk.length - 1) 0 = a) (hc : cs[a]? = some c) (hcb : bs a = c.b) (hpl2 : c.o.parts.length ≤ 1000) (s : List UInt8) (hs : s ≠ []) (hcnt : 0 ≤ cnt) (hcn2 : cnt ≤ 1000) (he : c.o.elem = true) (hm1 : c.o.name ≠ [115, 99, 114, 105, 112, 116]) (hm2 : c.o.name ≠ [115, 116, 121, 108, 101]) (cp : Opn.Oc) (q : Nat) (hp : cs[q]? = some cp) (hpb : bs q = cp.b) (hpl : 0 < c.o.parts.length) (hpq : c.o.parts.getD (c.o.parts.length - 1) 0 = q) (hpe : cp.o.elem = true) : FnC Tryd.prog 11 [.lit (.pointer (some ⟨b, 0, none⟩)), .str s] (.box b 45 [.lit (.pointer (some ⟨r, 0, none⟩)), .lit vs, .int cnt, .str []] :: .arr vs 39 1 (sk.map fun i => Opn.ptr (bs i)) :: Opn.mem 43 52 39 bs cs) (fun rr M => rr = .tup [] ∧ ∃ (b8 : Nat) (v8 : Value), M = .box b 45 [.lit (.pointer (some ⟨r, 0, none⟩)), .lit vs, .int (cnt + 1), .str []] :: .arr vs 39 1 (sk.map fun i => Opn.ptr (bs i)) :: (Opn.ents 43 52 39 bs ⟨⟨false, [], [], s, []⟩, b8, 0, .slice none 0 0⟩ ++ ([Opn.obox 43 { c with v := v8 }, .arr v8 39 1 ((c.o.parts.map fun i => Opn.ptr (bs i)) ++ [Opn.ptr b8]), Opn.onode 52 c] ++ Opn.mem 43 52 39 bs (cs.eraseIdx a)))) :=  by
  refine FnC.mk Tryd.func11 (by kernel_rfl) rfl Tryd.ntmps11 rfl (fun w0 F => ?_)
  have hml : (c.o.parts.map fun i => Opn.ptr (bs i)).length = c.o.parts.length := List.length_map ..
  have hga := getD_mapG (fun i => Opn.ptr (bs i)) 0 c.o.parts (c.o.parts.length - 1) (by omega)
  rw [hpq, hpb] at hga
  refine W.seq ?_
  refine W.region ?_
  refine W.q (Ev.move (.t rfl)) rfl ?_
  refine W.call (WOLast.c_last b r bs vs cnt [] sk hsk hs1) ⟨(.t rfl), trivial⟩ (.refl _) rfl ?_
  rintro _ _ ⟨rfl, rfl⟩
  rw [ha, hcb]
  refine W.q (Ev.assign (.t rfl)) rfl ?_
  refine W.nil ?_
  refine W.then ?_
  refine W.seq ?_
  refine W.seq ?_
  refine W.region ?_
  refine W.q (Ev.move (.t rfl)) rfl ?_
  refine W.q (Ev.nilc (.t rfl)) rfl ?_
  first | refine W.q (Ev.fae (.t rfl) fa43_3 rfl) rfl ?_ | refine W.q (Ev.fab (.t rfl) fa43_3) rfl ?_ | refine W.q (Ev.faa (.t rfl) fa43_3) rfl ?_
  refine W.q (Ev.ldb1 (3 * a + 2) (.t rfl) (Opn.mem_get0 cs a c hc) ag4 rfl) rfl ?_
  rw [he]
  refine W.q (Ev.move (.t rfl)) rfl ?_
  refine W.gyes rfl rfl ?_
  refine W.q (Ev.move (.t rfl)) rfl ?_
  refine W.gyes rfl rfl ?_
  refine W.q (Ev.nilc (.t rfl)) rfl ?_
  refine W.gyes rfl rfl ?_
  first | refine W.q (Ev.fae (.t rfl) fa43_0 rfl) rfl ?_ | refine W.q (Ev.fab (.t rfl) fa43_0) rfl ?_ | refine W.q (Ev.faa (.t rfl) fa43_0) rfl ?_
  refine W.gyes rfl rfl ?_
  refine W.q (Ev.ldb1 (3 * a + 2) (.t rfl) (Opn.mem_get0 cs a c hc) ag40 rfl) rfl ?_
  rw [if_pos he]
  refine W.gyes rfl rfl ?_
  refine W.q (Ev.nilc (.t rfl)) rfl ?_
  refine W.gyes rfl rfl ?_
  first | refine W.q (Ev.fae (.t rfl) fa52_0 rfl) rfl ?_ | refine W.q (Ev.fab (.t rfl) fa52_0) rfl ?_ | refine W.q (Ev.faa (.t rfl) fa52_0) rfl ?_
  refine W.gyes rfl rfl ?_
  refine W.q (Ev.ldb1 (3 * a + 4) (.t rfl) ((Opn.mem_get2 cs a c hc).trans (congrArg some (if_pos he))) ag9 rfl) rfl ?_
  refine W.gyes rfl rfl ?_
  refine W.q (Ev.eqs (.t rfl) .k) rfl ?_
  refine W.is (t := 20) (g := true) (av' := .bool false) rfl (congrArg AV.bool (by simp [hm1])) ?_
  refine W.gyes rfl rfl ?_
  refine W.q (Ev.move (.t rfl)) rfl ?_
  refine W.gyes rfl rfl ?_
  refine W.q (Ev.move (.t rfl)) rfl ?_
  refine W.gyes rfl rfl ?_
  refine W.q (Ev.nilc (.t rfl)) rfl ?_
  refine W.gyes rfl rfl ?_
  first | refine W.q (Ev.fae (.t rfl) fa43_0 rfl) rfl ?_ | refine W.q (Ev.fab (.t rfl) fa43_0) rfl ?_ | refine W.q (Ev.faa (.t rfl) fa43_0) rfl ?_
  refine W.gyes rfl rfl ?_
  refine W.q (Ev.ldb1 (3 * a + 2) (.t rfl) (Opn.mem_get0 cs a c hc) ag40 rfl) rfl ?_
  rw [if_pos he]
  refine W.gyes rfl rfl ?_
  refine W.q (Ev.nilc (.t rfl)) rfl ?_
  refine W.gyes rfl rfl ?_
  first | refine W.q (Ev.fae (.t rfl) fa52_0 rfl) rfl ?_ | refine W.q (Ev.fab (.t rfl) fa52_0) rfl ?_ | refine W.q (Ev.faa (.t rfl) fa52_0) rfl ?_
  refine W.gyes rfl rfl ?_
  refine W.q (Ev.ldb1 (3 * a + 4) (.t rfl) ((Opn.mem_get2 cs a c hc).trans (congrArg some (if_pos he))) ag9 rfl) rfl ?_
  refine W.gyes rfl rfl ?_
  refine W.q (Ev.eqs (.t rfl) .k) rfl ?_
  refine W.is (t := 29) (g := true) (av' := .bool false) rfl (congrArg AV.bool (by simp [hm2])) ?_
  refine W.gyes rfl rfl ?_
  refine W.q (Ev.or (.t rfl) ⟨_, _, rfl, rfl, by first | (simp; done) | (intro hg_ hp_; simp [hp_]; done) | (simp <;> omega; done) | (simp_all; done) | grind⟩) rfl ?_
  refine W.q (Ev.and (.t rfl) ⟨_, _, rfl, rfl, by first | (simp; done) | (intro hg_ hp_; simp [hp_]; done) | (simp <;> omega; done) | (simp_all; done) | grind⟩) rfl ?_
  refine W.q (Ev.move (.t rfl)) rfl ?_
  refine W.gyes rfl rfl ?_
  refine W.q (Ev.move (.t rfl)) rfl ?_
  refine W.gyes rfl rfl ?_
  refine W.q (Ev.eqs (.t rfl) .k) rfl ?_
  refine W.q (Ev.or (.t rfl) ⟨_, _, rfl, rfl, by first | (simp; done) | (intro hg_ hp_; simp [hp_]; done) | (simp <;> omega; done) | (simp_all; done) | grind⟩) rfl ?_
  refine W.q (Ev.move (.t rfl)) rfl ?_
  refine W.is (t := 36) (g := true) (av' := .bool false) rfl (congrArg AV.bool (by simp [hs])) ?_
  refine W.gyes rfl rfl ?_
  refine W.q (Ev.move (.t rfl)) rfl ?_
  refine W.gyes rfl rfl ?_
  refine W.q (Ev.nilc (.t rfl)) rfl ?_
  refine W.gyes rfl rfl ?_
  first | refine W.q (Ev.fae (.t rfl) fa45_3 rfl) rfl ?_ | refine W.q (Ev.fab (.t rfl) fa45_3) rfl ?_ | refine W.q (Ev.faa (.t rfl) fa45_3) rfl ?_
  refine W.gyes rfl rfl ?_
  first | refine W.q (Ev.lde1 (.t rfl) ag9) rfl ?_ | refine W.q (Ev.ldb1 0 (.t rfl) rfl ag9 rfl) rfl ?_ | refine W.q (Ev.ldb1 1 (.t rfl) rfl ag9 rfl) rfl ?_ | refine W.q (Ev.ldb1 2 (.t rfl) rfl ag9 rfl) rfl ?_ | refine W.q (Ev.ldb1 3 (.t rfl) rfl ag9 rfl) rfl ?_ | refine W.q (Ev.ldb1 4 (.t rfl) rfl ag9 rfl) rfl ?_ | refine W.q (Ev.ldb1 5 (.t rfl) rfl ag9 rfl) rfl ?_
  refine W.gyes rfl rfl ?_
  refine W.q (Ev.nes (.t rfl) .k) rfl ?_
  refine W.q (Ev.or (.t rfl) ⟨_, _, rfl, rfl, by first | (simp; done) | (intro hg_ hp_; simp [hp_]; done) | (simp <;> omega; done) | (simp_all; done) | grind⟩) rfl ?_
  refine W.nil ?_
  refine W.then ?_
  refine W.is (t := 42) (g := true) (av' := .lit (.bool false)) rfl (congrArg (fun b => AV.lit (.bool b)) (by simp [hs])) ?_
  refine W.condF (.t rfl) ?_
  refine W.skip ?_
  refine W.then ?_
  refine W.seq ?_
  refine W.seq ?_
  refine W.region ?_
  refine W.q (Ev.move (.t rfl)) rfl ?_
  refine W.q (Ev.nilc (.t rfl)) rfl ?_
  first | refine W.q (Ev.fae (.t rfl) fa43_1 rfl) rfl ?_ | refine W.q (Ev.fab (.t rfl) fa43_1) rfl ?_ | refine W.q (Ev.faa (.t rfl) fa43_1) rfl ?_
  refine W.q (Ev.ldb1 (3 * a + 2) (.t rfl) (Opn.mem_get0 cs a c hc) ag41 rfl) rfl ?_
  refine W.q (Ev.lenar (i := 3 * a + 3) (.t rfl) (Opn.mem_get1 cs a c hc) Tryd.underlying41) rfl ?_
  refine W.q (Ev.assign (.t rfl)) rfl ?_
  refine W.nil ?_
  refine W.then ?_
  refine W.seq ?_
  refine W.region ?_
  refine W.q (Ev.move (.t rfl)) rfl ?_
  refine W.q (Ev.gti (.t rfl) .k) rfl ?_
  refine W.q (Ev.move (.t rfl)) rfl ?_
  refine W.is (t := 50) (g := true) (av' := .bool true) rfl (congrArg AV.bool (by simp; omega)) ?_
  refine W.gyes rfl rfl ?_
  refine W.q (Ev.move (.t rfl)) rfl ?_
  refine W.gyes rfl rfl ?_
  refine W.q (Ev.nilc (.t rfl)) rfl ?_
  refine W.gyes rfl rfl ?_
  first | refine W.q (Ev.fae (.t rfl) fa43_1 rfl) rfl ?_ | refine W.q (Ev.fab (.t rfl) fa43_1) rfl ?_ | refine W.q (Ev.faa (.t rfl) fa43_1) rfl ?_
  refine W.gyes rfl rfl ?_
  refine W.q (Ev.ldb1 (3 * a + 2) (.t rfl) (Opn.mem_get0 cs a c hc) ag41 rfl) rfl ?_
  refine W.gyes rfl rfl ?_
  refine W.q (Ev.move (.t rfl)) rfl ?_
  refine W.gyes rfl rfl ?_
  first | refine W.q (Ev.sub (.t rfl) .k (fun _ => by omega)) rfl ?_ | refine W.q (Ev.subw (.t rfl) .k) rfl ?_
  refine W.gyes rfl rfl ?_
  refine W.q (Ev.ata (3 * a + 3) (.t rfl) (Opn.mem_get1 cs a c hc) (.t rfl) Tryd.underlying41 ty39 (fun _ => by rw [List.length_map]; omega)) rfl ?_
  refine W.gyes rfl rfl ?_
  refine W.q (Ev.lda1 (3 * a + 3) (c.o.parts.length - 1) 0 (.t rfl) (Opn.mem_get1 cs a c hc) hga (by omega) rfl rfl rfl ag39) rfl ?_
  refine W.gyes rfl rfl ?_
  refine W.q (Ev.nilc (.t rfl)) rfl ?_
  refine W.gyes rfl rfl ?_
  first | refine W.q (Ev.fae (.t rfl) fa43_3 rfl) rfl ?_ | refine W.q (Ev.fab (.t rfl) fa43_3) rfl ?_ | refine W.q (Ev.faa (.t rfl) fa43_3) rfl ?_
  refine W.gyes rfl rfl ?_
  refine W.q (Ev.ldb1 (3 * q + 2) (.t rfl) (Opn.mem_get0 cs q cp hp) ag4 rfl) rfl ?_
  rw [hpe]
  refine W.gyes rfl rfl ?_
  refine W.q (Ev.not (.t rfl)) rfl ?_
  refine W.q (Ev.and (.t rfl) ⟨_, _, rfl, rfl, by first | (simp; done) | (intro hg_ hp_; simp [hp_]; done) | (simp <;> omega; done) | (simp_all; done) | grind⟩) rfl ?_
  refine W.nil ?_
  refine W.then ?_
  refine W.is (t := 63) (g := true) (av' := .lit (.bool false)) rfl (congrArg (fun b => AV.lit (.bool b)) (by first | rfl | simp)) ?_
  refine W.condF (.t rfl) ?_
  refine W.skip ?_
  refine W.then ?_
  refine W.seq ?_
  refine W.region ?_
  refine W.perm (M' := .box b 45 [.lit (.pointer (some ⟨r, 0, none⟩)), .lit vs, .int cnt, .str []] :: .arr vs 39 1 (sk.map fun i => Opn.ptr (bs i)) :: (Opn.ents 43 52 39 bs c ++ Opn.mem 43 52 39 bs (cs.eraseIdx a))) (List.Perm.cons _ (List.Perm.cons _ (Opn.mem_front cs a c hc))) ?_
  refine W.q (Ev.move (.t rfl)) rfl ?_
  refine W.q (Ev.move (.t rfl)) rfl ?_
  refine W.q (Ev.nilc (.t rfl)) rfl ?_
  first | refine W.q (Ev.fae (.t rfl) fa43_1 rfl) rfl ?_ | refine W.q (Ev.fab (.t rfl) fa43_1) rfl ?_ | refine W.q (Ev.faa (.t rfl) fa43_1) rfl ?_
  first | refine W.q (Ev.lde1 (.t rfl) ag41) rfl ?_ | refine W.q (Ev.ldb1 0 (.t rfl) rfl ag41 rfl) rfl ?_ | refine W.q (Ev.ldb1 1 (.t rfl) rfl ag41 rfl) rfl ?_ | refine W.q (Ev.ldb1 2 (.t rfl) rfl ag41 rfl) rfl ?_ | refine W.q (Ev.ldb1 3 (.t rfl) rfl ag41 rfl) rfl ?_ | refine W.q (Ev.ldb1 4 (.t rfl) rfl ag41 rfl) rfl ?_ | refine W.q (Ev.ldb1 5 (.t rfl) rfl ag41 rfl) rfl ?_
  refine W.q (Ev.move (.t rfl)) rfl ?_
  refine W.q (Ev.build ty43 st43 rfl (fun hg => ⟨_, _, _, rfl, (.t rfl), rfl, rfl, rfl, rfl⟩)) rfl ?_
  refine W.box (.t rfl) rfl rfl ?_
  intro b86
  refine W.bs (es := [_]) Tryd.underlying41 ty39 ⟨rfl, (.t rfl), rfl, rfl, trivial⟩ rfl (by decide) rfl rfl ?_
  first | refine W.app 0 (.t rfl) rfl (.sl (.t rfl) (by first | (simp [AV.okc, shV]; done) | (intro e he; rw [List.mem_singleton.1 he]; rfl))) Tryd.underlying41 ni41 ty39 rfl rfl (by rw [List.length_map]; simp only [List.length_cons, List.length_nil]; omega) rfl ?_ | refine W.app 1 (.t rfl) rfl (.sl (.t rfl) (by first | (simp [AV.okc, shV]; done) | (intro e he; rw [List.mem_singleton.1 he]; rfl))) Tryd.underlying41 ni41 ty39 rfl rfl (by rw [List.length_map]; simp only [List.length_cons, List.length_nil]; omega) rfl ?_ | refine W.app 2 (.t rfl) rfl (.sl (.t rfl) (by first | (simp [AV.okc, shV]; done) | (intro e he; rw [List.mem_singleton.1 he]; rfl))) Tryd.underlying41 ni41 ty39 rfl rfl (by rw [List.length_map]; simp only [List.length_cons, List.length_nil]; omega) rfl ?_ | refine W.app 3 (.t rfl) rfl (.sl (.t rfl) (by first | (simp [AV.okc, shV]; done) | (intro e he; rw [List.mem_singleton.1 he]; rfl))) Tryd.underlying41 ni41 ty39 rfl rfl (by rw [List.length_map]; simp only [List.length_cons, List.length_nil]; omega) rfl ?_ | refine W.app 4 (.t rfl) rfl (.sl (.t rfl) (by first | (simp [AV.okc, shV]; done) | (intro e he; rw [List.mem_singleton.1 he]; rfl))) Tryd.underlying41 ni41 ty39 rfl rfl (by rw [List.length_map]; simp only [List.length_cons, List.length_nil]; omega) rfl ?_ | refine W.app 5 (.t rfl) rfl (.sl (.t rfl) (by first | (simp [AV.okc, shV]; done) | (intro e he; rw [List.mem_singleton.1 he]; rfl))) Tryd.underlying41 ni41 ty39 rfl rfl (by rw [List.length_map]; simp only [List.length_cons, List.length_nil]; omega) rfl ?_ | refine W.app 0 (.t rfl) rfl (.arr 0 (.t rfl) rfl (by first | (simp [AV.okc, shV]; done) | (intro e he; rw [List.mem_singleton.1 he]; rfl))) Tryd.underlying41 ni41 ty39 rfl rfl (by rw [List.length_map]; simp only [List.length_cons, List.length_nil]; omega) rfl ?_ | refine W.app 0 (.t rfl) rfl (.arr 1 (.t rfl) rfl (by first | (simp [AV.okc, shV]; done) | (intro e he; rw [List.mem_singleton.1 he]; rfl))) Tryd.underlying41 ni41 ty39 rfl rfl (by rw [List.length_map]; simp only [List.length_cons, List.length_nil]; omega) rfl ?_ | refine W.app 0 (.t rfl) rfl (.arr 2 (.t rfl) rfl (by first | (simp [AV.okc, shV]; done) | (intro e he; rw [List.mem_singleton.1 he]; rfl))) Tryd.underlying41 ni41 ty39 rfl rfl (by rw [List.length_map]; simp only [List.length_cons, List.length_nil]; omega) rfl ?_ | refine W.app 0 (.t rfl) rfl (.arr 3 (.t rfl) rfl (by first | (simp [AV.okc, shV]; done) | (intro e he; rw [List.mem_singleton.1 he]; rfl))) Tryd.underlying41 ni41 ty39 rfl rfl (by rw [List.length_map]; simp only [List.length_cons, List.length_nil]; omega) rfl ?_ | refine W.app 0 (.t rfl) rfl (.arr 4 (.t rfl) rfl (by first | (simp [AV.okc, shV]; done) | (intro e he; rw [List.mem_singleton.1 he]; rfl))) Tryd.underlying41 ni41 ty39 rfl rfl (by rw [List.length_map]; simp only [List.length_cons, List.length_nil]; omega) rfl ?_ | refine W.app 0 (.t rfl) rfl (.arr 5 (.t rfl) rfl (by first | (simp [AV.okc, shV]; done) | (intro e he; rw [List.mem_singleton.1 he]; rfl))) Tryd.underlying41 ni41 ty39 rfl rfl (by rw [List.length_map]; simp only [List.length_cons, List.length_nil]; omega) rfl ?_ | refine W.app 1 (.t rfl) rfl (.arr 0 (.t rfl) rfl (by first | (simp [AV.okc, shV]; done) | (intro e he; rw [List.mem_singleton.1 he]; rfl))) Tryd.underlying41 ni41 ty39 rfl rfl (by rw [List.length_map]; simp only [List.length_cons, List.length_nil]; omega) rfl ?_ | refine W.app 1 (.t rfl) rfl (.arr 1 (.t rfl) rfl (by first | (simp [AV.okc, shV]; done) | (intro e he; rw [List.mem_singleton.1 he]; rfl))) Tryd.underlying41 ni41 ty39 rfl rfl (by rw [List.length_map]; simp only [List.length_cons, List.length_nil]; omega) rfl ?_ | refine W.app 1 (.t rfl) rfl (.arr 2 (.t rfl) rfl (by first | (simp [AV.okc, shV]; done) | (intro e he; rw [List.mem_singleton.1 he]; rfl))) Tryd.underlying41 ni41 ty39 rfl rfl (by rw [List.length_map]; simp only [List.length_cons, List.length_nil]; omega) rfl ?_ | refine W.app 1 (.t rfl) rfl (.arr 3 (.t rfl) rfl (by first | (simp [AV.okc, shV]; done) | (intro e he; rw [List.mem_singleton.1 he]; rfl))) Tryd.underlying41 ni41 ty39 rfl rfl (by rw [List.length_map]; simp only [List.length_cons, List.length_nil]; omega) rfl ?_ | refine W.app 1 (.t rfl) rfl (.arr 4 (.t rfl) rfl (by first | (simp [AV.okc, shV]; done) | (intro e he; rw [List.mem_singleton.1 he]; rfl))) Tryd.underlying41 ni41 ty39 rfl rfl (by rw [List.length_map]; simp only [List.length_cons, List.length_nil]; omega) rfl ?_ | refine W.app 1 (.t rfl) rfl (.arr 5 (.t rfl) rfl (by first | (simp [AV.okc, shV]; done) | (intro e he; rw [List.mem_singleton.1 he]; rfl))) Tryd.underlying41 ni41 ty39 rfl rfl (by rw [List.length_map]; simp only [List.length_cons, List.length_nil]; omega) rfl ?_ | refine W.app 2 (.t rfl) rfl (.arr 0 (.t rfl) rfl (by first | (simp [AV.okc, shV]; done) | (intro e he; rw [List.mem_singleton.1 he]; rfl))) Tryd.underlying41 ni41 ty39 rfl rfl (by rw [List.length_map]; simp only [List.length_cons, List.length_nil]; omega) rfl ?_ | refine W.app 2 (.t rfl) rfl (.arr 1 (.t rfl) rfl (by first | (simp [AV.okc, shV]; done) | (intro e he; rw [List.mem_singleton.1 he]; rfl))) Tryd.underlying41 ni41 ty39 rfl rfl (by rw [List.length_map]; simp only [List.length_cons, List.length_nil]; omega) rfl ?_ | refine W.app 2 (.t rfl) rfl (.arr 2 (.t rfl) rfl (by first | (simp [AV.okc, shV]; done) | (intro e he; rw [List.mem_singleton.1 he]; rfl))) Tryd.underlying41 ni41 ty39 rfl rfl (by rw [List.length_map]; simp only [List.length_cons, List.length_nil]; omega) rfl ?_ | refine W.app 2 (.t rfl) rfl (.arr 3 (.t rfl) rfl (by first | (simp [AV.okc, shV]; done) | (intro e he; rw [List.mem_singleton.1 he]; rfl))) Tryd.underlying41 ni41 ty39 rfl rfl (by rw [List.length_map]; simp only [List.length_cons, List.length_nil]; omega) rfl ?_ | refine W.app 2 (.t rfl) rfl (.arr 4 (.t rfl) rfl (by first | (simp [AV.okc, shV]; done) | (intro e he; rw [List.mem_singleton.1 he]; rfl))) Tryd.underlying41 ni41 ty39 rfl rfl (by rw [List.length_map]; simp only [List.length_cons, List.length_nil]; omega) rfl ?_ | refine W.app 2 (.t rfl) rfl (.arr 5 (.t rfl) rfl (by first | (simp [AV.okc, shV]; done) | (intro e he; rw [List.mem_singleton.1 he]; rfl))) Tryd.underlying41 ni41 ty39 rfl rfl (by rw [List.length_map]; simp only [List.length_cons, List.length_nil]; omega) rfl ?_ | refine W.app 3 (.t rfl) rfl (.arr 0 (.t rfl) rfl (by first | (simp [AV.okc, shV]; done) | (intro e he; rw [List.mem_singleton.1 he]; rfl))) Tryd.underlying41 ni41 ty39 rfl rfl (by rw [List.length_map]; simp only [List.length_cons, List.length_nil]; omega) rfl ?_ | refine W.app 3 (.t rfl) rfl (.arr 1 (.t rfl) rfl (by first | (simp [AV.okc, shV]; done) | (intro e he; rw [List.mem_singleton.1 he]; rfl))) Tryd.underlying41 ni41 ty39 rfl rfl (by rw [List.length_map]; simp only [List.length_cons, List.length_nil]; omega) rfl ?_ | refine W.app 3 (.t rfl) rfl (.arr 2 (.t rfl) rfl (by first | (simp [AV.okc, shV]; done) | (intro e he; rw [List.mem_singleton.1 he]; rfl))) Tryd.underlying41 ni41 ty39 rfl rfl (by rw [List.length_map]; simp only [List.length_cons, List.length_nil]; omega) rfl ?_ | refine W.app 3 (.t rfl) rfl (.arr 3 (.t rfl) rfl (by first | (simp [AV.okc, shV]; done) | (intro e he; rw [List.mem_singleton.1 he]; rfl))) Tryd.underlying41 ni41 ty39 rfl rfl (by rw [List.length_map]; simp only [List.length_cons, List.length_nil]; omega) rfl ?_ | refine W.app 3 (.t rfl) rfl (.arr 4 (.t rfl) rfl (by first | (simp [AV.okc, shV]; done) | (intro e he; rw [List.mem_singleton.1 he]; rfl))) Tryd.underlying41 ni41 ty39 rfl rfl (by rw [List.length_map]; simp only [List.length_cons, List.length_nil]; omega) rfl ?_ | refine W.app 3 (.t rfl) rfl (.arr 5 (.t rfl) rfl (by first | (simp [AV.okc, shV]; done) | (intro e he; rw [List.mem_singleton.1 he]; rfl))) Tryd.underlying41 ni41 ty39 rfl rfl (by rw [List.length_map]; simp only [List.length_cons, List.length_nil]; omega) rfl ?_ | refine W.app 4 (.t rfl) rfl (.arr 0 (.t rfl) rfl (by first | (simp [AV.okc, shV]; done) | (intro e he; rw [List.mem_singleton.1 he]; rfl))) Tryd.underlying41 ni41 ty39 rfl rfl (by rw [List.length_map]; simp only [List.length_cons, List.length_nil]; omega) rfl ?_ | refine W.app 4 (.t rfl) rfl (.arr 1 (.t rfl) rfl (by first | (simp [AV.okc, shV]; done) | (intro e he; rw [List.mem_singleton.1 he]; rfl))) Tryd.underlying41 ni41 ty39 rfl rfl (by rw [List.length_map]; simp only [List.length_cons, List.length_nil]; omega) rfl ?_ | refine W.app 4 (.t rfl) rfl (.arr 2 (.t rfl) rfl (by first | (simp [AV.okc, shV]; done) | (intro e he; rw [List.mem_singleton.1 he]; rfl))) Tryd.underlying41 ni41 ty39 rfl rfl (by rw [List.length_map]; simp only [List.length_cons, List.length_nil]; omega) rfl ?_ | refine W.app 4 (.t rfl) rfl (.arr 3 (.t rfl) rfl (by first | (simp [AV.okc, shV]; done) | (intro e he; rw [List.mem_singleton.1 he]; rfl))) Tryd.underlying41 ni41 ty39 rfl rfl (by rw [List.length_map]; simp only [List.length_cons, List.length_nil]; omega) rfl ?_ | refine W.app 4 (.t rfl) rfl (.arr 4 (.t rfl) rfl (by first | (simp [AV.okc, shV]; done) | (intro e he; rw [List.mem_singleton.1 he]; rfl))) Tryd.underlying41 ni41 ty39 rfl rfl (by rw [List.length_map]; simp only [List.length_cons, List.length_nil]; omega) rfl ?_ | refine W.app 4 (.t rfl) rfl (.arr 5 (.t rfl) rfl (by first | (simp [AV.okc, shV]; done) | (intro e he; rw [List.mem_singleton.1 he]; rfl))) Tryd.underlying41 ni41 ty39 rfl rfl (by rw [List.length_map]; simp only [List.length_cons, List.length_nil]; omega) rfl ?_ | refine W.app 5 (.t rfl) rfl (.arr 0 (.t rfl) rfl (by first | (simp [AV.okc, shV]; done) | (intro e he; rw [List.mem_singleton.1 he]; rfl))) Tryd.underlying41 ni41 ty39 rfl rfl (by rw [List.length_map]; simp only [List.length_cons, List.length_nil]; omega) rfl ?_ | refine W.app 5 (.t rfl) rfl (.arr 1 (.t rfl) rfl (by first | (simp [AV.okc, shV]; done) | (intro e he; rw [List.mem_singleton.1 he]; rfl))) Tryd.underlying41 ni41 ty39 rfl rfl (by rw [List.length_map]; simp only [List.length_cons, List.length_nil]; omega) rfl ?_ | refine W.app 5 (.t rfl) rfl (.arr 2 (.t rfl) rfl (by first | (simp [AV.okc, shV]; done) | (intro e he; rw [List.mem_singleton.1 he]; rfl))) Tryd.underlying41 ni41 ty39 rfl rfl (by rw [List.length_map]; simp only [List.length_cons, List.length_nil]; omega) rfl ?_ | refine W.app 5 (.t rfl) rfl (.arr 3 (.t rfl) rfl (by first | (simp [AV.okc, shV]; done) | (intro e he; rw [List.mem_singleton.1 he]; rfl))) Tryd.underlying41 ni41 ty39 rfl rfl (by rw [List.length_map]; simp only [List.length_cons, List.length_nil]; omega) rfl ?_ | refine W.app 5 (.t rfl) rfl (.arr 4 (.t rfl) rfl (by first | (simp [AV.okc, shV]; done) | (intro e he; rw [List.mem_singleton.1 he]; rfl))) Tryd.underlying41 ni41 ty39 rfl rfl (by rw [List.length_map]; simp only [List.length_cons, List.length_nil]; omega) rfl ?_ | refine W.app 5 (.t rfl) rfl (.arr 5 (.t rfl) rfl (by first | (simp [AV.okc, shV]; done) | (intro e he; rw [List.mem_singleton.1 he]; rfl))) Tryd.underlying41 ni41 ty39 rfl rfl (by rw [List.length_map]; simp only [List.length_cons, List.length_nil]; omega) rfl ?_
  intro v88
  refine W.arr_inv 4 rfl (fun a8 n8 c8 h8 => ?_)
  subst h8
  refine W.q (Ev.nilc (.t rfl)) rfl ?_
  first | refine W.q (Ev.fae (.t rfl) fa43_1 rfl) rfl ?_ | refine W.q (Ev.fab (.t rfl) fa43_1) rfl ?_ | refine W.q (Ev.faa (.t rfl) fa43_1) rfl ?_
  first | refine W.stb 0 (.t rfl) (.t rfl) rfl ty41 rfl rfl rfl ?_ | refine W.stb 1 (.t rfl) (.t rfl) rfl ty41 rfl rfl rfl ?_ | refine W.stb 2 (.t rfl) (.t rfl) rfl ty41 rfl rfl rfl ?_ | refine W.stb 3 (.t rfl) (.t rfl) rfl ty41 rfl rfl rfl ?_ | refine W.stb 4 (.t rfl) (.t rfl) rfl ty41 rfl rfl rfl ?_ | refine W.stb 5 (.t rfl) (.t rfl) rfl ty41 rfl rfl rfl ?_
  refine W.nil ?_
  refine W.then ?_
  refine W.region ?_
  refine W.q (Ev.move (.t rfl)) rfl ?_
  refine W.q (Ev.nilc (.t rfl)) rfl ?_
  first | refine W.q (Ev.fae (.t rfl) fa45_2 rfl) rfl ?_ | refine W.q (Ev.fab (.t rfl) fa45_2) rfl ?_ | refine W.q (Ev.faa (.t rfl) fa45_2) rfl ?_
  first | refine W.q (Ev.lde1 (.t rfl) ag3) rfl ?_ | refine W.q (Ev.ldb1 0 (.t rfl) rfl ag3 rfl) rfl ?_ | refine W.q (Ev.ldb1 1 (.t rfl) rfl ag3 rfl) rfl ?_ | refine W.q (Ev.ldb1 2 (.t rfl) rfl ag3 rfl) rfl ?_ | refine W.q (Ev.ldb1 3 (.t rfl) rfl ag3 rfl) rfl ?_ | refine W.q (Ev.ldb1 4 (.t rfl) rfl ag3 rfl) rfl ?_ | refine W.q (Ev.ldb1 5 (.t rfl) rfl ag3 rfl) rfl ?_
  first | refine W.q (Ev.add (.t rfl) .k (fun _ => by omega)) rfl ?_ | refine W.q (Ev.addw (.t rfl) .k) rfl ?_
  refine W.q (Ev.nilc (.t rfl)) rfl ?_
  first | refine W.q (Ev.fae (.t rfl) fa45_2 rfl) rfl ?_ | refine W.q (Ev.fab (.t rfl) fa45_2) rfl ?_ | refine W.q (Ev.faa (.t rfl) fa45_2) rfl ?_
  first | refine W.stb 0 (.t rfl) (.t rfl) rfl ty3 rfl rfl rfl ?_ | refine W.stb 1 (.t rfl) (.t rfl) rfl ty3 rfl rfl rfl ?_ | refine W.stb 2 (.t rfl) (.t rfl) rfl ty3 rfl rfl rfl ?_ | refine W.stb 3 (.t rfl) (.t rfl) rfl ty3 rfl rfl rfl ?_ | refine W.stb 4 (.t rfl) (.t rfl) rfl ty3 rfl rfl rfl ?_ | refine W.stb 5 (.t rfl) (.t rfl) rfl ty3 rfl rfl rfl ?_
  refine W.nil ?_
  refine W.own_nil 39 1 ?_
  refine W.own_nil 52 4 ?_
  refine W.endn (M' := (_ :: _ :: _ :: _ :: _ :: _ :: _ :: _ :: _)) (D := []) (rs := []) (avs := []) Tryd.results11 trivial rfl (by rw [List.append_nil]; exact ((List.perm_middle (l₁ := [_, _, _])).trans <| List.Perm.cons _ <| (List.perm_middle (l₁ := [_, _, _])).trans <| List.Perm.cons _ <| (List.perm_middle (l₁ := [_, _])).trans <| List.Perm.cons _ <| (List.perm_middle (l₁ := [_])).trans <| List.Perm.cons _ <| List.Perm.cons _ <| List.Perm.cons _ <| List.Perm.cons _ <| List.Perm.cons _ <| .refl _)) ?_
  exact ⟨rfl, b86, .slice a8 n8 c8, rfl⟩

end WOCharsN

end Go.Proofs.YtbdfeolffigdoaaDoor
end

section
set_option linter.unusedVariables false
set_option linter.unusedSimpArgs false
set_option maxRecDepth 100000
namespace Go.Proofs.YtbdfeolffigdoaaDoor
open Go.Vl

namespace WOStep

theorem row_new (bs : Nat → Nat) (sk : List Nat) (m b : Nat) (push : Bool) (h : ∀ i, i < sk.length → sk.getD i 0 < m) : ((if push then sk ++ [m] else sk).map fun i => Opn.ptr (Opn.bsn bs m b i)) = (sk.map fun i => Opn.ptr (bs i)) ++ (if push then [Opn.ptr b] else []) := by
  have e : (sk.map fun i => Opn.ptr (Opn.bsn bs m b i)) = sk.map fun i => Opn.ptr (bs i) := List.map_congr_left fun i hi => by
    obtain ⟨j, hj⟩ := List.getElem?_of_mem hi
    have h1 := h j (List.getElem?_eq_some_iff.1 hj).1
    rw [List.getD_eq_getElem?_getD, hj] at h1
    have h2 : i < m := h1
    show Opn.ptr (if i = m then b else bs i) = _
    rw [if_neg (by omega)]
  cases push with
  | false => simp only [Bool.false_eq_true, if_false, ite_false, List.append_nil]; exact e
  | true =>
    rw [if_pos rfl, if_pos rfl, List.map_append, e, List.map_cons, List.map_nil]
    show _ ++ [Opn.ptr (if m = m then b else bs m)] = _
    rw [if_pos rfl]
theorem c_startI (bs : Nat → Nat) (cs : List Opn.Oc) (sk : List Nat) (r k n b : Nat) (vs : Value) (h : Opn.Inv bs cs sk r k n) (hk : k ≤ 900) (t : Tk) (hn : t.name ≠ Opn.nm_script ∧ t.name ≠ Opn.nm_style) (ht : t.attrs.length ≤ 3) : FnC Tryd.prog 8 [.lit (.pointer (some ⟨b, 0, none⟩)), tav t] (.shr 0 54 (Opn.blocks.map AV.str) :: .shr 1 57 (Opn.voids.map AV.str) :: .box b 45 [.lit (.pointer (some ⟨r, 0, none⟩)), .lit vs, .int (n : Nat), .str []] :: .arr vs 39 1 (sk.map fun i => Opn.ptr (bs i)) :: Opn.mem 43 52 39 bs cs) (fun rr M => rr = .tup [] ∧ ∃ (bs' : Nat → Nat) (cs' : List Opn.Oc) (sk' : List Nat) (vs' : Value) (n' : Nat), List.Perm M (.shr 0 54 (Opn.blocks.map AV.str) :: .shr 1 57 (Opn.voids.map AV.str) :: .box b 45 [.lit (.pointer (some ⟨r, 0, none⟩)), .lit vs', .int (n' : Nat), .str []] :: .arr vs' 39 1 (sk'.map fun i => Opn.ptr (bs' i)) :: Opn.mem 43 52 39 bs' cs') ∧ Opn.Inv bs' cs' sk' r (k + 1) n' ∧ Opn.bd cs' sk' n' = (Opn.bd cs sk n).start t) := by
  have hcut : Opn.Cut sk (((Opn.bd cs ((Opn.bd cs sk 0).start1 t.name).stk 0).start2 t.name).stk) := (Opn.Cut.start1 h.good.pos 0 t.name).trans (Opn.Cut.start2 ((Opn.Cut.start1 h.good.pos 0 t.name).pos h.good.pos) 0 t.name)
  have hI := h.cut hcut
  obtain ⟨c, hc, hcb⟩ := hI.last
  have hnum := h.num
  have hlen := h.len
  refine (WOStart.c_start b r bs vs (n : Nat) sk h.good.pos h.good.len cs h.good t.kind t.name t.attrs t.self t.text hn.1 hn.2 (by omega) _ _ rfl rfl c _ rfl hc hcb (by have := (h.par _ _ hc).1; omega) (by omega) (by omega)).mono ?_
  generalize hS2 : ((Opn.bd cs ((Opn.bd cs sk 0).start1 t.name).stk 0).start2 t.name).stk = SK2 at hcut hI hc hcb ⊢
  rintro _ _ ⟨rfl, ⟨hd, vs', rfl⟩ | ⟨hd, b68, b70, v8, vs', rfl⟩⟩
  · exact ⟨rfl, bs, cs, SK2, vs', n, .refl _, hI.mono, by rw [Opn.start_eq t rfl rfl, hS2, if_pos hd]⟩
  · refine ⟨rfl, Opn.bsn bs cs.length b70, cs.set (SK2.getD (SK2.length - 1) 0) (Opn.wpart c cs.length v8) ++ [⟨⟨true, t.name, t.attrs, [], []⟩, b70, b68, .slice none 0 0⟩], if (!t.self && !(Opn.voids.any fun b => t.name == b)) then SK2 ++ [cs.length] else SK2, vs', n + 1, ?_, hI.new hk hc ⟨⟨true, t.name, t.attrs, [], []⟩, b70, b68, .slice none 0 0⟩ rfl (Nat.zero_le _) hn ht v8 _ (fun _ => rfl), ?_⟩
    · rw [row_new bs SK2 cs.length b70 _ hI.ski]
      refine List.Perm.cons _ (List.Perm.cons _ (List.Perm.append (l₁ := [_, _]) (l₂ := [_, _]) (List.Perm.of_eq ?_) (Opn.mem_new hc (fun j e he i hi => ((h.par j e he).2 i hi).2) rfl v8)))
      rfl
    · rw [Opn.start_eq t rfl rfl, hS2, if_neg hd, Opn.bd_new (d := ⟨⟨true, t.name, t.attrs, [], []⟩, b70, b68, .slice none 0 0⟩) rfl hc v8]
      split <;> rfl
theorem c_charsI (bs : Nat → Nat) (cs : List Opn.Oc) (sk : List Nat) (r k n b : Nat) (vs : Value) (h : Opn.Inv bs cs sk r k n) (hk : k ≤ 900) (s : List UInt8) (hs : s ≠ []) (hs2 : s.length ≤ 100) : FnC Tryd.prog 11 [.lit (.pointer (some ⟨b, 0, none⟩)), .str s] (.box b 45 [.lit (.pointer (some ⟨r, 0, none⟩)), .lit vs, .int (n : Nat), .str []] :: .arr vs 39 1 (sk.map fun i => Opn.ptr (bs i)) :: Opn.mem 43 52 39 bs cs) (fun rr M => rr = .tup [] ∧ ∃ (bs' : Nat → Nat) (cs' : List Opn.Oc) (sk' : List Nat) (vs' : Value) (n' : Nat), List.Perm M (.box b 45 [.lit (.pointer (some ⟨r, 0, none⟩)), .lit vs', .int (n' : Nat), .str []] :: .arr vs' 39 1 (sk'.map fun i => Opn.ptr (bs' i)) :: Opn.mem 43 52 39 bs' cs') ∧ Opn.Inv bs' cs' sk' r (k + 1) n' ∧ Opn.bd cs' sk' n' = (Opn.bd cs sk n).chars s) := by
  obtain ⟨c, hc, hcb⟩ := h.last
  have hnum := h.num
  have hlen := h.len
  have hn := h.nms _ _ hc
  have hnew : ∀ b8 v8, Opn.Inv (Opn.bsn bs cs.length b8) (cs.set (sk.getD (sk.length - 1) 0) (Opn.wpart c cs.length v8) ++ [⟨⟨false, [], [], s, []⟩, b8, 0, .slice none 0 0⟩]) sk r (k + 1) (n + 1) := fun b8 v8 => h.new hk hc ⟨⟨false, [], [], s, []⟩, b8, 0, .slice none 0 0⟩ rfl (by show s.length ≤ _; omega) (by constructor <;> (intro e; cases e)) (Nat.zero_le _) v8 false (fun h => by cases h)
  have hrow : ∀ b8, (sk.map fun i => Opn.ptr (Opn.bsn bs cs.length b8 i)) = sk.map fun i => Opn.ptr (bs i) := fun b8 => by
    have := row_new bs sk cs.length b8 false h.ski
    simpa using this
  cases he : c.o.elem
  · rcases Nat.eq_zero_or_pos c.o.parts.length with hp | hp
    · refine (WOCharsN.c_charsN00 b r bs vs (n : Nat) sk h.good.pos h.good.len cs c _ rfl hc hcb (by have := (h.par _ _ hc).1; omega) s hs (by omega) (by omega) he hp).mono ?_
      rintro _ _ ⟨rfl, b8, v8, rfl⟩
      refine ⟨rfl, Opn.bsn bs cs.length b8, cs.set (sk.getD (sk.length - 1) 0) (Opn.wpart c cs.length v8) ++ [⟨⟨false, [], [], s, []⟩, b8, 0, .slice none 0 0⟩], sk, vs, n + 1, ?_, hnew b8 v8, ?_⟩
      · rw [hrow b8]
        refine (List.Perm.append (l₁ := [_, _]) (l₂ := [_, _]) (List.Perm.of_eq ?_) (Opn.mem_new hc (fun j e he i hi => ((h.par j e he).2 i hi).2) rfl v8))
        rfl
      · rw [Opn.chars_new0 rfl hc hn hp s hs, Opn.bd_new (d := ⟨⟨false, [], [], s, []⟩, b8, 0, .slice none 0 0⟩) rfl hc v8]
    · obtain ⟨cp, hcp, hpb⟩ := Opn.last_part h hc hp
      cases hpe : cp.o.elem with
      | true =>
      refine (WOCharsN.c_charsN01 b r bs vs (n : Nat) sk h.good.pos h.good.len cs c _ rfl hc hcb (by have := (h.par _ _ hc).1; omega) s hs (by omega) (by omega) he cp _ hcp hpb hp rfl hpe).mono ?_
      rintro _ _ ⟨rfl, b8, v8, rfl⟩
      refine ⟨rfl, Opn.bsn bs cs.length b8, cs.set (sk.getD (sk.length - 1) 0) (Opn.wpart c cs.length v8) ++ [⟨⟨false, [], [], s, []⟩, b8, 0, .slice none 0 0⟩], sk, vs, n + 1, ?_, hnew b8 v8, ?_⟩
      · rw [hrow b8]
        refine (List.Perm.append (l₁ := [_, _]) (l₂ := [_, _]) (List.Perm.of_eq ?_) (Opn.mem_new hc (fun j e he i hi => ((h.par j e he).2 i hi).2) rfl v8))
        rfl
      · rw [Opn.chars_new1 rfl hc hn rfl hcp hpe s hs, Opn.bd_new (d := ⟨⟨false, [], [], s, []⟩, b8, 0, .slice none 0 0⟩) rfl hc v8]
      | false =>
      refine (WOChars.c_charsT0 b r bs vs (n : Nat) sk h.good.pos h.good.len cs c cp _ _ rfl hc hcb hcp hpb hp (by have := (h.par _ _ hc).1; omega) rfl hpe s hs (by have := h.txt _ _ hcp; omega) he).mono ?_
      rintro _ _ ⟨rfl, rfl⟩
      exact ⟨rfl, bs, _, sk, vs, n, .refl _, h.grow hcp s hs2, (Opn.chars_grow rfl hc hn hp rfl hcp hpe s hs).symm⟩
  · rcases Nat.eq_zero_or_pos c.o.parts.length with hp | hp
    · refine (WOCharsN.c_charsN10 b r bs vs (n : Nat) sk h.good.pos h.good.len cs c _ rfl hc hcb (by have := (h.par _ _ hc).1; omega) s hs (by omega) (by omega) he hn.1 hn.2 hp).mono ?_
      rintro _ _ ⟨rfl, b8, v8, rfl⟩
      refine ⟨rfl, Opn.bsn bs cs.length b8, cs.set (sk.getD (sk.length - 1) 0) (Opn.wpart c cs.length v8) ++ [⟨⟨false, [], [], s, []⟩, b8, 0, .slice none 0 0⟩], sk, vs, n + 1, ?_, hnew b8 v8, ?_⟩
      · rw [hrow b8]
        refine (List.Perm.append (l₁ := [_, _]) (l₂ := [_, _]) (List.Perm.of_eq ?_) (Opn.mem_new hc (fun j e he i hi => ((h.par j e he).2 i hi).2) rfl v8))
        rfl
      · rw [Opn.chars_new0 rfl hc hn hp s hs, Opn.bd_new (d := ⟨⟨false, [], [], s, []⟩, b8, 0, .slice none 0 0⟩) rfl hc v8]
    · obtain ⟨cp, hcp, hpb⟩ := Opn.last_part h hc hp
      cases hpe : cp.o.elem with
      | true =>
      refine (WOCharsN.c_charsN11 b r bs vs (n : Nat) sk h.good.pos h.good.len cs c _ rfl hc hcb (by have := (h.par _ _ hc).1; omega) s hs (by omega) (by omega) he hn.1 hn.2 cp _ hcp hpb hp rfl hpe).mono ?_
      rintro _ _ ⟨rfl, b8, v8, rfl⟩
      refine ⟨rfl, Opn.bsn bs cs.length b8, cs.set (sk.getD (sk.length - 1) 0) (Opn.wpart c cs.length v8) ++ [⟨⟨false, [], [], s, []⟩, b8, 0, .slice none 0 0⟩], sk, vs, n + 1, ?_, hnew b8 v8, ?_⟩
      · rw [hrow b8]
        refine (List.Perm.append (l₁ := [_, _]) (l₂ := [_, _]) (List.Perm.of_eq ?_) (Opn.mem_new hc (fun j e he i hi => ((h.par j e he).2 i hi).2) rfl v8))
        rfl
      · rw [Opn.chars_new1 rfl hc hn rfl hcp hpe s hs, Opn.bd_new (d := ⟨⟨false, [], [], s, []⟩, b8, 0, .slice none 0 0⟩) rfl hc v8]
      | false =>
      refine (WOChars.c_charsT1 b r bs vs (n : Nat) sk h.good.pos h.good.len cs c cp _ _ rfl hc hcb hcp hpb hp (by have := (h.par _ _ hc).1; omega) rfl hpe s hs (by have := h.txt _ _ hcp; omega) he hn.1 hn.2).mono ?_
      rintro _ _ ⟨rfl, rfl⟩
      exact ⟨rfl, bs, _, sk, vs, n, .refl _, h.grow hcp s hs2, (Opn.chars_grow rfl hc hn hp rfl hcp hpe s hs).symm⟩
end WOStep

end Go.Proofs.YtbdfeolffigdoaaDoor
end

section
set_option linter.unusedVariables false
set_option linter.unusedSimpArgs false
set_option maxRecDepth 100000
namespace Go.Proofs.YtbdfeolffigdoaaDoor
open Go.Vl

namespace WONodes
theorem ty4 : Ty Tryd.prog 4 1 1 (.bool false) := Ty.of (by kernel_rfl)
theorem ty9 : Ty Tryd.prog 9 1 16 (.string ⟨#[]⟩) := Ty.of (by kernel_rfl)
theorem ty26 : Ty Tryd.prog 26 1 24 (.slice none 0 0) := Ty.of (by kernel_rfl)
theorem ty29 : Ty Tryd.prog 29 1 24 (.slice none 0 0) := Ty.of (by kernel_rfl)
theorem ty39 : Ty Tryd.prog 39 1 8 (.pointer none) := Ty.of (by kernel_rfl)
theorem ty40 : Ty Tryd.prog 40 1 8 (.pointer none) := Ty.of (by kernel_rfl)
theorem ty41 : Ty Tryd.prog 41 1 24 (.slice none 0 0) := Ty.of (by kernel_rfl)
theorem ty52 : Ty Tryd.prog 52 4 80 (.agg #[.string ⟨#[]⟩, .slice none 0 0, .string ⟨#[]⟩, .slice none 0 0]) := Ty.of (by kernel_rfl)
theorem ag4 : IsAgg Tryd.prog 4 false := ⟨_, Tryd.underlying4, rfl⟩
theorem ag9 : IsAgg Tryd.prog 9 false := ⟨_, Tryd.underlying9, rfl⟩
theorem ag29 : IsAgg Tryd.prog 29 false := ⟨_, Tryd.underlying29, rfl⟩
theorem ag39 : IsAgg Tryd.prog 39 false := ⟨_, Tryd.underlying39, rfl⟩
theorem ag40 : IsAgg Tryd.prog 40 false := ⟨_, Tryd.underlying40, rfl⟩
theorem ag41 : IsAgg Tryd.prog 41 false := ⟨_, Tryd.underlying41, rfl⟩
theorem ag52 : IsAgg Tryd.prog 52 true := ⟨_, Tryd.underlying52, rfl⟩
theorem fa43_0 : FieldAt Tryd.prog 43 0 0 1 false := ⟨_, _, Tryd.underlying43, rfl, rfl, ty40.size, ag40, by decide⟩
theorem fa43_1 : FieldAt Tryd.prog 43 1 1 1 false := ⟨_, _, Tryd.underlying43, rfl, rfl, ty41.size, ag41, by decide⟩
theorem fa43_2 : FieldAt Tryd.prog 43 2 2 1 false := ⟨_, _, Tryd.underlying43, rfl, rfl, ty9.size, ag9, by decide⟩
theorem fa43_3 : FieldAt Tryd.prog 43 3 3 1 false := ⟨_, _, Tryd.underlying43, rfl, rfl, ty4.size, ag4, by decide⟩
theorem fa52_3 : FieldAt Tryd.prog 52 3 3 1 false := ⟨_, _, Tryd.underlying52, rfl, rfl, ty29.size, ag29, by decide⟩
theorem st52 : StructAt Tryd.prog 52 [(0, 1), (1, 1), (2, 1), (3, 1)] := ⟨_, Tryd.underlying52, rfl, ty9.size, rfl, ty26.size, rfl, ty9.size, rfl, ty29.size, trivial⟩
theorem ni29 : NotInt Tryd.prog 29 := .inl ⟨_, Tryd.underlying29⟩
theorem obs_at {cs : List Opn.Oc} {i : Nat} {c : Opn.Oc} (h : cs[i]? = some c) : (cs.map Opn.Oc.o).getD i Opn.dO = c.o := by rw [List.getD_eq_getElem?_getD, List.getElem?_map, h]; rfl
def nd1 (cs : List Opn.Oc) (f i : Nat) : Nd := let o := (cs.map Opn.Oc.o).getD i Opn.dO; if o.elem then Nd.mk o.name o.attrs [] (Opn.Bd.nds (cs.map Opn.Oc.o) f i) else Nd.mk [] [] o.text []
theorem nds_succ (cs : List Opn.Oc) (f j : Nat) (c : Opn.Oc) (h : cs[j]? = some c) : Opn.Bd.nds (cs.map Opn.Oc.o) (f + 1) j = c.o.parts.map (nd1 cs f) := by
  rw [Opn.Bd.nds, obs_at h]; rfl
theorem c_nodes_step (bs : Nat → Nat) (cs : List Opn.Oc) (hbs : ∀ i c, cs[i]? = some c → bs i = c.b) (hpar : ∀ j c, cs[j]? = some c → c.o.parts.length ≤ 1000 ∧ ∀ i ∈ c.o.parts, j < i ∧ i < cs.length) (f : Nat) (ih : ∀ j c, cs[j]? = some c → cs.length ≤ f + j → FnC Tryd.prog 12 [Opn.ptr c.b] (Opn.mem 43 52 39 bs cs) (fun rr M => ∃ v, rr = .lit v ∧ M = .arr v 52 4 ((Opn.Bd.nds (cs.map Opn.Oc.o) f j).map Nd.av) :: Opn.mem 43 52 39 bs cs)) (j : Nat) (c : Opn.Oc) (hc : cs[j]? = some c) (hf : cs.length ≤ f + 1 + j) : FnC Tryd.prog 12 [Opn.ptr c.b] (Opn.mem 43 52 39 bs cs) (fun rr M => ∃ v, rr = .lit v ∧ M = .arr v 52 4 ((Opn.Bd.nds (cs.map Opn.Oc.o) (f + 1) j).map Nd.av) :: Opn.mem 43 52 39 bs cs) :=  by
  refine FnC.mk Tryd.func12 (by kernel_rfl) rfl Tryd.ntmps12 rfl (fun w0 F => ?_)
  have hml : (c.o.parts.map fun i => Opn.ptr (bs i)).length = c.o.parts.length := List.length_map ..
  obtain ⟨hpl, hpi⟩ := hpar j c hc
  rw [nds_succ cs f j c hc]
  refine W.seq ?_
  refine W.region ?_
  refine W.q (Ev.assign .k) rfl ?_
  refine W.nil ?_
  refine W.then ?_
  refine W.seq ?_
  refine W.region ?_
  refine W.q (Ev.assign .k) rfl ?_
  refine W.nil ?_
  refine W.then ?_
  refine W.seq ?_
  refine W.seq ?_
  refine W.region ?_
  refine W.q (Ev.move (.t rfl)) rfl ?_
  refine W.q (Ev.nilc (.t rfl)) rfl ?_
  first | refine W.q (Ev.fae (.t rfl) fa43_1 rfl) rfl ?_ | refine W.q (Ev.fab (.t rfl) fa43_1) rfl ?_ | refine W.q (Ev.faa (.t rfl) fa43_1) rfl ?_
  refine W.q (Ev.ldb1 (3 * j) (.t rfl) (Opn.mem_get0 cs j c hc) ag41 rfl) rfl ?_
  refine W.q (Ev.lenar (i := 3 * j + 1) (.t rfl) (Opn.mem_get1 cs j c hc) Tryd.underlying41) rfl ?_
  refine W.q (Ev.move .k) rfl ?_
  refine W.nil ?_
  refine W.then ?_
  refine W.block ?_
  refine W.own_nil 52 4 ?_
  refine W.loop (D := []) (ι := Nat × Value) (fun z => [(12, true, .int (z.1 : Int)), (11, true, .int ((c.o.parts.map fun i => Opn.ptr (bs i)).length : Int)), (10, true, .lit c.v), (3, true, .lit z.2)]) (fun z => .arr z.2 52 4 (((c.o.parts.take z.1).map (nd1 cs f)).map Nd.av) :: Opn.mem 43 52 39 bs cs) (fun z => z.1 ≤ c.o.parts.length) (fun z => c.o.parts.length - z.1) (0, .slice none 0 0) ⟨rfl, rfl, rfl, rfl, trivial⟩ (by rw [List.append_nil]; exact .refl _) (Nat.zero_le _) ?_
  rintro ⟨i, v⟩ hi
  dsimp only at hi ⊢
  rcases (show i < c.o.parts.length ∨ i = c.o.parts.length from by omega) with hlt | hend
  · have hga := getD_mapG (fun i => Opn.ptr (bs i)) 0 c.o.parts i hlt
    have htk := take_getDG 0 c.o.parts i hlt
    have hpm := hpi _ (getD_memG 0 c.o.parts i hlt)
    generalize c.o.parts.getD i 0 = p at hga htk hpm
    obtain ⟨cp, hp⟩ : ∃ cp, cs[p]? = some cp := ⟨_, List.getElem?_eq_getElem hpm.2⟩
    have hpb := hbs p cp hp
    refine W.seq ?_
    refine W.region ?_
    refine W.q (Ev.lti (.t rfl) (.t rfl)) rfl ?_
    refine W.nil ?_
    refine W.then ?_
    refine W.seq ?_
    refine W.is (t := 13) (g := true) (av' := .lit (.bool true)) rfl (congrArg (fun b => AV.lit (.bool b)) (by exact decide_eq_true (by omega))) ?_
    refine W.condT (.t rfl) ?_
    refine W.skip ?_
    refine W.then ?_
    refine W.seq ?_
    refine W.block ?_
    refine W.seq ?_
    refine W.region ?_
    refine W.q (Ev.ata (3 * j + 2) (.t rfl) (Opn.mem_get1 cs j c hc) (.t rfl) Tryd.underlying41 ty39 (fun _ => by rw [List.length_map]; omega)) rfl ?_
    refine W.q (Ev.lda1 (3 * j + 2) i 0 (.t rfl) (Opn.mem_get1 cs j c hc) hga (by omega) rfl rfl rfl ag39) rfl ?_
    rw [hpb]
    refine W.q (Ev.assign (.t rfl)) rfl ?_
    refine W.nil ?_
    refine W.then ?_
    refine W.seq ?_
    refine W.seq ?_
    refine W.region ?_
    refine W.q (Ev.move (.t rfl)) rfl ?_
    refine W.q (Ev.nilc (.t rfl)) rfl ?_
    first | refine W.q (Ev.fae (.t rfl) fa43_3 rfl) rfl ?_ | refine W.q (Ev.fab (.t rfl) fa43_3) rfl ?_ | refine W.q (Ev.faa (.t rfl) fa43_3) rfl ?_
    refine W.q (Ev.ldb1 (3 * p + 1) (.t rfl) (Opn.mem_get0 cs p cp hp) ag4 rfl) rfl ?_
    refine W.q (Ev.not (.t rfl)) rfl ?_
    refine W.nil ?_
    refine W.then ?_
    refine W.cond (.t rfl) (fun hc_t20 => ?_) (fun hc_t20 => ?_)
    · have hpe : cp.o.elem = false := by simpa using hc_t20
      refine W.seq ?_
      refine W.region ?_
      refine W.q (Ev.move (.t rfl)) rfl ?_
      refine W.q (Ev.move (.t rfl)) rfl ?_
      refine W.q (Ev.nilc (.t rfl)) rfl ?_
      first | refine W.q (Ev.fae (.t rfl) fa43_2 rfl) rfl ?_ | refine W.q (Ev.fab (.t rfl) fa43_2) rfl ?_ | refine W.q (Ev.faa (.t rfl) fa43_2) rfl ?_
      refine W.q (Ev.ldb1 (3 * p + 1) (.t rfl) (Opn.mem_get0 cs p cp hp) ag9 rfl) rfl ?_
      refine W.q (Ev.build ty52 st52 rfl (fun hg => ⟨_, _, _, rfl, (.t rfl), rfl, rfl, rfl, rfl⟩)) rfl ?_
      refine W.nils (t := 26) (g := true) (cs' := [.str [], .sl 2 [], .str cp.o.text, .sl 4 []]) rfl ⟨.inl rfl, .inr ⟨rfl, 2, rfl⟩, .inl rfl, .inr ⟨rfl, 4, rfl⟩, trivial⟩ ?_
      refine W.bs (es := [_]) Tryd.underlying29 ty52 ⟨rfl, (.t rfl), rfl, rfl, trivial⟩ rfl (by decide) rfl rfl ?_
      first | refine W.app 0 (.t rfl) rfl (.sl (.t rfl) (by first | (simp [AV.okc, shV]; done) | (intro e he; rw [List.mem_singleton.1 he]; rfl))) Tryd.underlying29 ni29 ty52 rfl rfl (by first | (simp; done) | (simp; omega)) rfl ?_ | refine W.app 1 (.t rfl) rfl (.sl (.t rfl) (by first | (simp [AV.okc, shV]; done) | (intro e he; rw [List.mem_singleton.1 he]; rfl))) Tryd.underlying29 ni29 ty52 rfl rfl (by first | (simp; done) | (simp; omega)) rfl ?_ | refine W.app 2 (.t rfl) rfl (.sl (.t rfl) (by first | (simp [AV.okc, shV]; done) | (intro e he; rw [List.mem_singleton.1 he]; rfl))) Tryd.underlying29 ni29 ty52 rfl rfl (by first | (simp; done) | (simp; omega)) rfl ?_ | refine W.app 3 (.t rfl) rfl (.sl (.t rfl) (by first | (simp [AV.okc, shV]; done) | (intro e he; rw [List.mem_singleton.1 he]; rfl))) Tryd.underlying29 ni29 ty52 rfl rfl (by first | (simp; done) | (simp; omega)) rfl ?_ | refine W.app 0 (.t rfl) rfl (.arr 0 (.t rfl) rfl (by first | (simp [AV.okc, shV]; done) | (intro e he; rw [List.mem_singleton.1 he]; rfl))) Tryd.underlying29 ni29 ty52 rfl rfl (by first | (simp; done) | (simp; omega)) rfl ?_ | refine W.app 0 (.t rfl) rfl (.arr 1 (.t rfl) rfl (by first | (simp [AV.okc, shV]; done) | (intro e he; rw [List.mem_singleton.1 he]; rfl))) Tryd.underlying29 ni29 ty52 rfl rfl (by first | (simp; done) | (simp; omega)) rfl ?_ | refine W.app 0 (.t rfl) rfl (.arr 2 (.t rfl) rfl (by first | (simp [AV.okc, shV]; done) | (intro e he; rw [List.mem_singleton.1 he]; rfl))) Tryd.underlying29 ni29 ty52 rfl rfl (by first | (simp; done) | (simp; omega)) rfl ?_ | refine W.app 0 (.t rfl) rfl (.arr 3 (.t rfl) rfl (by first | (simp [AV.okc, shV]; done) | (intro e he; rw [List.mem_singleton.1 he]; rfl))) Tryd.underlying29 ni29 ty52 rfl rfl (by first | (simp; done) | (simp; omega)) rfl ?_ | refine W.app 1 (.t rfl) rfl (.arr 0 (.t rfl) rfl (by first | (simp [AV.okc, shV]; done) | (intro e he; rw [List.mem_singleton.1 he]; rfl))) Tryd.underlying29 ni29 ty52 rfl rfl (by first | (simp; done) | (simp; omega)) rfl ?_ | refine W.app 1 (.t rfl) rfl (.arr 1 (.t rfl) rfl (by first | (simp [AV.okc, shV]; done) | (intro e he; rw [List.mem_singleton.1 he]; rfl))) Tryd.underlying29 ni29 ty52 rfl rfl (by first | (simp; done) | (simp; omega)) rfl ?_ | refine W.app 1 (.t rfl) rfl (.arr 2 (.t rfl) rfl (by first | (simp [AV.okc, shV]; done) | (intro e he; rw [List.mem_singleton.1 he]; rfl))) Tryd.underlying29 ni29 ty52 rfl rfl (by first | (simp; done) | (simp; omega)) rfl ?_ | refine W.app 1 (.t rfl) rfl (.arr 3 (.t rfl) rfl (by first | (simp [AV.okc, shV]; done) | (intro e he; rw [List.mem_singleton.1 he]; rfl))) Tryd.underlying29 ni29 ty52 rfl rfl (by first | (simp; done) | (simp; omega)) rfl ?_ | refine W.app 2 (.t rfl) rfl (.arr 0 (.t rfl) rfl (by first | (simp [AV.okc, shV]; done) | (intro e he; rw [List.mem_singleton.1 he]; rfl))) Tryd.underlying29 ni29 ty52 rfl rfl (by first | (simp; done) | (simp; omega)) rfl ?_ | refine W.app 2 (.t rfl) rfl (.arr 1 (.t rfl) rfl (by first | (simp [AV.okc, shV]; done) | (intro e he; rw [List.mem_singleton.1 he]; rfl))) Tryd.underlying29 ni29 ty52 rfl rfl (by first | (simp; done) | (simp; omega)) rfl ?_ | refine W.app 2 (.t rfl) rfl (.arr 2 (.t rfl) rfl (by first | (simp [AV.okc, shV]; done) | (intro e he; rw [List.mem_singleton.1 he]; rfl))) Tryd.underlying29 ni29 ty52 rfl rfl (by first | (simp; done) | (simp; omega)) rfl ?_ | refine W.app 2 (.t rfl) rfl (.arr 3 (.t rfl) rfl (by first | (simp [AV.okc, shV]; done) | (intro e he; rw [List.mem_singleton.1 he]; rfl))) Tryd.underlying29 ni29 ty52 rfl rfl (by first | (simp; done) | (simp; omega)) rfl ?_ | refine W.app 3 (.t rfl) rfl (.arr 0 (.t rfl) rfl (by first | (simp [AV.okc, shV]; done) | (intro e he; rw [List.mem_singleton.1 he]; rfl))) Tryd.underlying29 ni29 ty52 rfl rfl (by first | (simp; done) | (simp; omega)) rfl ?_ | refine W.app 3 (.t rfl) rfl (.arr 1 (.t rfl) rfl (by first | (simp [AV.okc, shV]; done) | (intro e he; rw [List.mem_singleton.1 he]; rfl))) Tryd.underlying29 ni29 ty52 rfl rfl (by first | (simp; done) | (simp; omega)) rfl ?_ | refine W.app 3 (.t rfl) rfl (.arr 2 (.t rfl) rfl (by first | (simp [AV.okc, shV]; done) | (intro e he; rw [List.mem_singleton.1 he]; rfl))) Tryd.underlying29 ni29 ty52 rfl rfl (by first | (simp; done) | (simp; omega)) rfl ?_ | refine W.app 3 (.t rfl) rfl (.arr 3 (.t rfl) rfl (by first | (simp [AV.okc, shV]; done) | (intro e he; rw [List.mem_singleton.1 he]; rfl))) Tryd.underlying29 ni29 ty52 rfl rfl (by first | (simp; done) | (simp; omega)) rfl ?_
      intro v28
      refine W.q (Ev.assign (.t rfl)) rfl ?_
      refine W.nil ?_
      refine W.then ?_
      refine W.exit ?_
      refine W.then_exit ?_
      refine W.blk_hit ?_
      refine W.then ?_
      refine W.region ?_
      first | refine W.q (Ev.add (.t rfl) .k (fun _ => by omega)) rfl ?_ | refine W.q (Ev.addw (.t rfl) .k) rfl ?_
      refine W.q (Ev.move (.t rfl)) rfl ?_
      refine W.nil ?_
      refine W.then ?_
      first
      | (refine W.reach (D := []) (i + 1, v28) ⟨rfl, rfl, rfl, rfl, trivial⟩ ?_ ⟨hlt, by show c.o.parts.length - (i + 1) < c.o.parts.length - i; omega⟩; rw [htk, List.map_append, List.map_append, List.map_cons, List.map_nil, nd1, obs_at hp]; (try dsimp only); rw [hpe, if_neg (by decide), List.map_cons, List.map_nil, Nd.av_eq]; exact List.Perm.of_eq (List.append_nil _).symm)
      | (refine W.reach (D := [_]) (i + 1, v41) ⟨rfl, rfl, rfl, rfl, trivial⟩ (List.Perm.trans (List.perm_append_comm (l₁ := [_])) (List.Perm.append (List.Perm.of_eq (congrArg (fun z => ME.arr v41 52 4 z :: Opn.mem 43 52 39 bs cs) ?_)) (List.Perm.refl [_]))) ⟨hlt, by show c.o.parts.length - (i + 1) < c.o.parts.length - i; omega⟩; rw [htk, List.map_append, List.map_append, List.map_cons, List.map_nil, nd1, obs_at hp]; (try dsimp only); rw [if_pos hpe, List.map_cons, List.map_nil, Nd.av_eq]; rfl)
    · have hpe : cp.o.elem = true := by simpa using hc_t20
      refine W.skip ?_
      refine W.then ?_
      refine W.seq ?_
      refine W.region ?_
      refine W.q (Ev.move (.t rfl)) rfl ?_
      refine W.q (Ev.nilc (.t rfl)) rfl ?_
      first | refine W.q (Ev.fae (.t rfl) fa43_0 rfl) rfl ?_ | refine W.q (Ev.fab (.t rfl) fa43_0) rfl ?_ | refine W.q (Ev.faa (.t rfl) fa43_0) rfl ?_
      refine W.q (Ev.ldb1 (3 * p + 1) (.t rfl) (Opn.mem_get0 cs p cp hp) ag40 rfl) rfl ?_
      rw [if_pos hpe]
      refine W.q (Ev.nilc (.t rfl)) rfl ?_
      refine W.q (Ev.ldbn (3 * p + 3) (.t rfl) ((Opn.mem_get2 cs p cp hp).trans (congrArg some (if_pos hpe))) ag52 ty52 rfl) rfl ?_
      refine W.alloc ty52 rfl rfl ?_
      intro b6
      first | refine W.stb 0 (.t rfl) (.t rfl) rfl ty52 rfl rfl rfl ?_ | refine W.stb 1 (.t rfl) (.t rfl) rfl ty52 rfl rfl rfl ?_ | refine W.stb 2 (.t rfl) (.t rfl) rfl ty52 rfl rfl rfl ?_ | refine W.stb 3 (.t rfl) (.t rfl) rfl ty52 rfl rfl rfl ?_
      refine W.nil ?_
      refine W.then ?_
      refine W.seq ?_
      refine W.region ?_
      refine W.q (Ev.move (.t rfl)) rfl ?_
      refine W.call (ih p cp hp (by omega)) ⟨(.t rfl), trivial⟩ ((List.perm_append_comm (l₁ := [_, _]))) rfl ?_
      rintro _ _ ⟨v36, rfl, rfl⟩
      refine W.freezeA (M1 := Opn.mem 43 52 39 bs cs ++ _) (M2 := Opn.mem 43 52 39 bs cs ++ _) (D := []) (v := v36) (L' := [(36, true, .sl 4 ((Opn.Bd.nds (cs.map Opn.Oc.o) f p).map Nd.av))]) (List.Perm.of_eq (List.append_nil _).symm) ⟨⟨_, rfl, .one .hit⟩, trivial⟩ (FrzMs.refl _) ?_
      refine W.perm (List.perm_append_comm (l₂ := [_, _])) ?_
      first | refine W.q (Ev.fae (.t rfl) fa52_3 rfl) rfl ?_ | refine W.q (Ev.fab (.t rfl) fa52_3) rfl ?_ | refine W.q (Ev.faa (.t rfl) fa52_3) rfl ?_
      first | refine W.stb 0 (.t rfl) (.t rfl) rfl ty29 rfl rfl rfl ?_ | refine W.stb 1 (.t rfl) (.t rfl) rfl ty29 rfl rfl rfl ?_ | refine W.stb 2 (.t rfl) (.t rfl) rfl ty29 rfl rfl rfl ?_ | refine W.stb 3 (.t rfl) (.t rfl) rfl ty29 rfl rfl rfl ?_
      refine W.nil ?_
      refine W.then ?_
      refine W.region ?_
      refine W.q (Ev.move (.t rfl)) rfl ?_
      first | refine W.q (Ev.lden (.t rfl) ag52 ty52 rfl rfl) rfl ?_ | refine W.q (Ev.ldbn 0 (.t rfl) rfl ag52 ty52 rfl) rfl ?_ | refine W.q (Ev.ldbn 1 (.t rfl) rfl ag52 ty52 rfl) rfl ?_ | refine W.q (Ev.ldbn 2 (.t rfl) rfl ag52 ty52 rfl) rfl ?_ | refine W.q (Ev.ldbn 3 (.t rfl) rfl ag52 ty52 rfl) rfl ?_
      refine W.bs (es := [_]) Tryd.underlying29 ty52 ⟨rfl, (.t rfl), rfl, rfl, trivial⟩ rfl (by decide) rfl rfl ?_
      first | refine W.app 0 (.t rfl) rfl (.sl (.t rfl) (by first | (simp [AV.okc, shV]; done) | (intro e he; rw [List.mem_singleton.1 he]; rfl))) Tryd.underlying29 ni29 ty52 rfl rfl (by first | (simp; done) | (simp; omega)) rfl ?_ | refine W.app 1 (.t rfl) rfl (.sl (.t rfl) (by first | (simp [AV.okc, shV]; done) | (intro e he; rw [List.mem_singleton.1 he]; rfl))) Tryd.underlying29 ni29 ty52 rfl rfl (by first | (simp; done) | (simp; omega)) rfl ?_ | refine W.app 2 (.t rfl) rfl (.sl (.t rfl) (by first | (simp [AV.okc, shV]; done) | (intro e he; rw [List.mem_singleton.1 he]; rfl))) Tryd.underlying29 ni29 ty52 rfl rfl (by first | (simp; done) | (simp; omega)) rfl ?_ | refine W.app 3 (.t rfl) rfl (.sl (.t rfl) (by first | (simp [AV.okc, shV]; done) | (intro e he; rw [List.mem_singleton.1 he]; rfl))) Tryd.underlying29 ni29 ty52 rfl rfl (by first | (simp; done) | (simp; omega)) rfl ?_ | refine W.app 0 (.t rfl) rfl (.arr 0 (.t rfl) rfl (by first | (simp [AV.okc, shV]; done) | (intro e he; rw [List.mem_singleton.1 he]; rfl))) Tryd.underlying29 ni29 ty52 rfl rfl (by first | (simp; done) | (simp; omega)) rfl ?_ | refine W.app 0 (.t rfl) rfl (.arr 1 (.t rfl) rfl (by first | (simp [AV.okc, shV]; done) | (intro e he; rw [List.mem_singleton.1 he]; rfl))) Tryd.underlying29 ni29 ty52 rfl rfl (by first | (simp; done) | (simp; omega)) rfl ?_ | refine W.app 0 (.t rfl) rfl (.arr 2 (.t rfl) rfl (by first | (simp [AV.okc, shV]; done) | (intro e he; rw [List.mem_singleton.1 he]; rfl))) Tryd.underlying29 ni29 ty52 rfl rfl (by first | (simp; done) | (simp; omega)) rfl ?_ | refine W.app 0 (.t rfl) rfl (.arr 3 (.t rfl) rfl (by first | (simp [AV.okc, shV]; done) | (intro e he; rw [List.mem_singleton.1 he]; rfl))) Tryd.underlying29 ni29 ty52 rfl rfl (by first | (simp; done) | (simp; omega)) rfl ?_ | refine W.app 1 (.t rfl) rfl (.arr 0 (.t rfl) rfl (by first | (simp [AV.okc, shV]; done) | (intro e he; rw [List.mem_singleton.1 he]; rfl))) Tryd.underlying29 ni29 ty52 rfl rfl (by first | (simp; done) | (simp; omega)) rfl ?_ | refine W.app 1 (.t rfl) rfl (.arr 1 (.t rfl) rfl (by first | (simp [AV.okc, shV]; done) | (intro e he; rw [List.mem_singleton.1 he]; rfl))) Tryd.underlying29 ni29 ty52 rfl rfl (by first | (simp; done) | (simp; omega)) rfl ?_ | refine W.app 1 (.t rfl) rfl (.arr 2 (.t rfl) rfl (by first | (simp [AV.okc, shV]; done) | (intro e he; rw [List.mem_singleton.1 he]; rfl))) Tryd.underlying29 ni29 ty52 rfl rfl (by first | (simp; done) | (simp; omega)) rfl ?_ | refine W.app 1 (.t rfl) rfl (.arr 3 (.t rfl) rfl (by first | (simp [AV.okc, shV]; done) | (intro e he; rw [List.mem_singleton.1 he]; rfl))) Tryd.underlying29 ni29 ty52 rfl rfl (by first | (simp; done) | (simp; omega)) rfl ?_ | refine W.app 2 (.t rfl) rfl (.arr 0 (.t rfl) rfl (by first | (simp [AV.okc, shV]; done) | (intro e he; rw [List.mem_singleton.1 he]; rfl))) Tryd.underlying29 ni29 ty52 rfl rfl (by first | (simp; done) | (simp; omega)) rfl ?_ | refine W.app 2 (.t rfl) rfl (.arr 1 (.t rfl) rfl (by first | (simp [AV.okc, shV]; done) | (intro e he; rw [List.mem_singleton.1 he]; rfl))) Tryd.underlying29 ni29 ty52 rfl rfl (by first | (simp; done) | (simp; omega)) rfl ?_ | refine W.app 2 (.t rfl) rfl (.arr 2 (.t rfl) rfl (by first | (simp [AV.okc, shV]; done) | (intro e he; rw [List.mem_singleton.1 he]; rfl))) Tryd.underlying29 ni29 ty52 rfl rfl (by first | (simp; done) | (simp; omega)) rfl ?_ | refine W.app 2 (.t rfl) rfl (.arr 3 (.t rfl) rfl (by first | (simp [AV.okc, shV]; done) | (intro e he; rw [List.mem_singleton.1 he]; rfl))) Tryd.underlying29 ni29 ty52 rfl rfl (by first | (simp; done) | (simp; omega)) rfl ?_ | refine W.app 3 (.t rfl) rfl (.arr 0 (.t rfl) rfl (by first | (simp [AV.okc, shV]; done) | (intro e he; rw [List.mem_singleton.1 he]; rfl))) Tryd.underlying29 ni29 ty52 rfl rfl (by first | (simp; done) | (simp; omega)) rfl ?_ | refine W.app 3 (.t rfl) rfl (.arr 1 (.t rfl) rfl (by first | (simp [AV.okc, shV]; done) | (intro e he; rw [List.mem_singleton.1 he]; rfl))) Tryd.underlying29 ni29 ty52 rfl rfl (by first | (simp; done) | (simp; omega)) rfl ?_ | refine W.app 3 (.t rfl) rfl (.arr 2 (.t rfl) rfl (by first | (simp [AV.okc, shV]; done) | (intro e he; rw [List.mem_singleton.1 he]; rfl))) Tryd.underlying29 ni29 ty52 rfl rfl (by first | (simp; done) | (simp; omega)) rfl ?_ | refine W.app 3 (.t rfl) rfl (.arr 3 (.t rfl) rfl (by first | (simp [AV.okc, shV]; done) | (intro e he; rw [List.mem_singleton.1 he]; rfl))) Tryd.underlying29 ni29 ty52 rfl rfl (by first | (simp; done) | (simp; omega)) rfl ?_
      intro v41
      refine W.q (Ev.assign (.t rfl)) rfl ?_
      refine W.nil ?_
      refine W.blk_normal ?_
      refine W.then ?_
      refine W.region ?_
      first | refine W.q (Ev.add (.t rfl) .k (fun _ => by omega)) rfl ?_ | refine W.q (Ev.addw (.t rfl) .k) rfl ?_
      refine W.q (Ev.move (.t rfl)) rfl ?_
      refine W.nil ?_
      refine W.then ?_
      first
      | (refine W.reach (D := []) (i + 1, v28) ⟨rfl, rfl, rfl, rfl, trivial⟩ ?_ ⟨hlt, by show c.o.parts.length - (i + 1) < c.o.parts.length - i; omega⟩; rw [htk, List.map_append, List.map_append, List.map_cons, List.map_nil, nd1, obs_at hp]; (try dsimp only); rw [hpe, if_neg (by decide), List.map_cons, List.map_nil, Nd.av_eq]; exact List.Perm.of_eq (List.append_nil _).symm)
      | (refine W.reach (D := [_]) (i + 1, v41) ⟨rfl, rfl, rfl, rfl, trivial⟩ (List.Perm.trans (List.perm_append_comm (l₁ := [_])) (List.Perm.append (List.Perm.of_eq (congrArg (fun z => ME.arr v41 52 4 z :: Opn.mem 43 52 39 bs cs) ?_)) (List.Perm.refl [_]))) ⟨hlt, by show c.o.parts.length - (i + 1) < c.o.parts.length - i; omega⟩; rw [htk, List.map_append, List.map_append, List.map_cons, List.map_nil, nd1, obs_at hp]; (try dsimp only); rw [if_pos hpe, List.map_cons, List.map_nil, Nd.av_eq]; rfl)
  · rw [hend, List.take_length]
    refine W.seq ?_
    refine W.region ?_
    refine W.q (Ev.lti (.t rfl) (.t rfl)) rfl ?_
    refine W.nil ?_
    refine W.then ?_
    refine W.seq ?_
    refine W.is (t := 13) (g := true) (av' := .lit (.bool false)) rfl (congrArg (fun b => AV.lit (.bool b)) (by exact decide_eq_false (by omega))) ?_
    refine W.condF (.t rfl) ?_
    refine W.exit ?_
    refine W.then_exit ?_
    refine W.then_exit ?_
    refine W.blk_hit ?_
    refine W.then ?_
    refine W.seq ?_
    refine W.region ?_
    refine W.q (Ev.move (.t rfl)) rfl ?_
    refine W.q (Ev.assign (.t rfl)) rfl ?_
    refine W.nil ?_
    refine W.then ?_
    refine W.ret ?_
    refine W.retn (M' := (.arr v 52 4 ((c.o.parts.map (nd1 cs f)).map Nd.av) :: Opn.mem 43 52 39 bs cs)) (D := []) (rs := [.tmp 2]) (avs := [_]) Tryd.results12 ⟨rfl, trivial⟩ rfl (by rw [List.append_nil]) ?_
    exact ⟨_, rfl, rfl⟩

theorem c_nodes (bs : Nat → Nat) (cs : List Opn.Oc) (hbs : ∀ i c, cs[i]? = some c → bs i = c.b) (hpar : ∀ j c, cs[j]? = some c → c.o.parts.length ≤ 1000 ∧ ∀ i ∈ c.o.parts, j < i ∧ i < cs.length) (f : Nat) : ∀ (j : Nat) (c : Opn.Oc), cs[j]? = some c → cs.length ≤ f + j → FnC Tryd.prog 12 [Opn.ptr c.b] (Opn.mem 43 52 39 bs cs) (fun rr M => ∃ v, rr = .lit v ∧ M = .arr v 52 4 ((Opn.Bd.nds (cs.map Opn.Oc.o) f j).map Nd.av) :: Opn.mem 43 52 39 bs cs) := by
  induction f with
  | zero =>
    intro j c hc hf
    have := (List.getElem?_eq_some_iff.1 hc).1
    omega
  | succ f ih => exact fun j c hc hf => c_nodes_step bs cs hbs hpar f ih j c hc hf

end WONodes

end Go.Proofs.YtbdfeolffigdoaaDoor
end

section
set_option linter.unusedVariables false
set_option linter.unusedSimpArgs false
set_option maxRecDepth 100000
namespace Go.Proofs.YtbdfeolffigdoaaDoor
open Go.Vl

namespace WOBuild
theorem ty3 : Ty Tryd.prog 3 1 8 (.int .i64 0) := Ty.of (by kernel_rfl)
theorem ty4 : Ty Tryd.prog 4 1 1 (.bool false) := Ty.of (by kernel_rfl)
theorem ty9 : Ty Tryd.prog 9 1 16 (.string ⟨#[]⟩) := Ty.of (by kernel_rfl)
theorem ty28 : Ty Tryd.prog 28 5 72 (.agg #[.int .i64 0, .string ⟨#[]⟩, .slice none 0 0, .bool false, .string ⟨#[]⟩]) := Ty.of (by kernel_rfl)
theorem ty39 : Ty Tryd.prog 39 1 8 (.pointer none) := Ty.of (by kernel_rfl)
theorem ty40 : Ty Tryd.prog 40 1 8 (.pointer none) := Ty.of (by kernel_rfl)
theorem ty41 : Ty Tryd.prog 41 1 24 (.slice none 0 0) := Ty.of (by kernel_rfl)
theorem ty43 : Ty Tryd.prog 43 4 56 (.agg #[.pointer none, .slice none 0 0, .string ⟨#[]⟩, .bool false]) := Ty.of (by kernel_rfl)
theorem ty45 : Ty Tryd.prog 45 4 56 (.agg #[.pointer none, .slice none 0 0, .int .i64 0, .string ⟨#[]⟩]) := Ty.of (by kernel_rfl)
theorem ag3 : IsAgg Tryd.prog 3 false := ⟨_, Tryd.underlying3, rfl⟩
theorem ag9 : IsAgg Tryd.prog 9 false := ⟨_, Tryd.underlying9, rfl⟩
theorem ag28 : IsAgg Tryd.prog 28 true := ⟨_, Tryd.underlying28, rfl⟩
theorem ag39 : IsAgg Tryd.prog 39 false := ⟨_, Tryd.underlying39, rfl⟩
theorem ag41 : IsAgg Tryd.prog 41 false := ⟨_, Tryd.underlying41, rfl⟩
theorem fa28_0 : FieldAt Tryd.prog 28 0 0 1 false := ⟨_, _, Tryd.underlying28, rfl, rfl, ty3.size, ag3, by decide⟩
theorem fa28_1 : FieldAt Tryd.prog 28 1 1 1 false := ⟨_, _, Tryd.underlying28, rfl, rfl, ty9.size, ag9, by decide⟩
theorem fa28_4 : FieldAt Tryd.prog 28 4 4 1 false := ⟨_, _, Tryd.underlying28, rfl, rfl, ty9.size, ag9, by decide⟩
theorem fa45_0 : FieldAt Tryd.prog 45 0 0 1 false := ⟨_, _, Tryd.underlying45, rfl, rfl, ty39.size, ag39, by decide⟩
theorem fa45_1 : FieldAt Tryd.prog 45 1 1 1 false := ⟨_, _, Tryd.underlying45, rfl, rfl, ty41.size, ag41, by decide⟩
theorem fa45_2 : FieldAt Tryd.prog 45 2 2 1 false := ⟨_, _, Tryd.underlying45, rfl, rfl, ty3.size, ag3, by decide⟩
theorem fa45_3 : FieldAt Tryd.prog 45 3 3 1 false := ⟨_, _, Tryd.underlying45, rfl, rfl, ty9.size, ag9, by decide⟩
theorem st43 : StructAt Tryd.prog 43 [(0, 1), (1, 1), (2, 1), (3, 1)] := ⟨_, Tryd.underlying43, rfl, ty40.size, rfl, ty41.size, rfl, ty9.size, rfl, ty4.size, trivial⟩
theorem st45 : StructAt Tryd.prog 45 [(0, 1), (1, 1), (2, 1), (3, 1)] := ⟨_, Tryd.underlying45, rfl, ty39.size, rfl, ty41.size, rfl, ty3.size, rfl, ty9.size, trivial⟩
theorem c_Build (ts : List Tk) (hl : ts.length ≤ 21) (hk : ∀ t ∈ ts, Opn.okt t) : FnC Tryd.prog 6 [.sl 5 (ts.map tav)] [.shr 0 54 (Opn.blocks.map AV.str), .shr 1 57 (Opn.voids.map AV.str)] (fun rr M => ∃ v, rr = .tup [.lit v, .int 0] ∧ M = [.arr v 52 4 ((Opn.Bd.nds (ts.foldl Opn.Bd.step Opn.Bd.root).obs 22 0).map Nd.av), .shr 0 54 (Opn.blocks.map AV.str), .shr 1 57 (Opn.voids.map AV.str)] ∧ Nd.szs (Opn.Bd.nds (ts.foldl Opn.Bd.step Opn.Bd.root).obs 22 0) ≤ 16777216) :=  by
  refine FnC.mk Tryd.func6 (by kernel_rfl) rfl Tryd.ntmps6 rfl (fun w0 F => ?_)
  have hml : (ts.map tav).length = ts.length := List.length_map ..
  refine W.seq ?_
  refine W.region ?_
  refine W.q (Ev.assign .k) rfl ?_
  refine W.q (Ev.assign .k) rfl ?_
  refine W.nil ?_
  refine W.then ?_
  refine W.seq ?_
  refine W.seq ?_
  refine W.region ?_
  refine W.q (Ev.move (.t rfl)) rfl ?_
  first | refine W.q (Ev.lensl (.t rfl) Tryd.underlying23) rfl ?_ | refine W.q (Ev.lenar (i := 0) (.t rfl) rfl Tryd.underlying23) rfl ?_ | refine W.q (Ev.lenar (i := 1) (.t rfl) rfl Tryd.underlying23) rfl ?_ | refine W.q (Ev.lenar (i := 2) (.t rfl) rfl Tryd.underlying23) rfl ?_ | refine W.q (Ev.lenar (i := 3) (.t rfl) rfl Tryd.underlying23) rfl ?_ | refine W.q (Ev.lenar (i := 4) (.t rfl) rfl Tryd.underlying23) rfl ?_
  refine W.q (Ev.gti (.t rfl) .k) rfl ?_
  refine W.nil ?_
  refine W.then ?_
  refine W.is (t := 9) (g := true) (av' := .lit (.bool false)) rfl (congrArg (fun b => AV.lit (.bool b)) (by simp; omega)) ?_
  refine W.condF (.t rfl) ?_
  refine W.skip ?_
  refine W.then ?_
  refine W.seq ?_
  refine W.region ?_
  refine W.q (Ev.build ty43 st43 rfl (fun hg => rfl)) rfl ?_
  refine W.box (.t rfl) rfl rfl ?_
  intro b11
  refine W.q (Ev.build ty45 st45 rfl (fun hg => ⟨_, _, _, rfl, (.t rfl), rfl, rfl, rfl, rfl⟩)) rfl ?_
  refine W.box (.t rfl) rfl rfl ?_
  intro b13
  refine W.q (Ev.assign (.t rfl)) rfl ?_
  refine W.nil ?_
  refine W.then ?_
  refine W.seq ?_
  refine W.region ?_
  refine W.q (Ev.move (.t rfl)) rfl ?_
  refine W.q (Ev.move (.t rfl)) rfl ?_
  refine W.q (Ev.nilc (.t rfl)) rfl ?_
  first | refine W.q (Ev.fae (.t rfl) fa45_0 rfl) rfl ?_ | refine W.q (Ev.fab (.t rfl) fa45_0) rfl ?_ | refine W.q (Ev.faa (.t rfl) fa45_0) rfl ?_
  first | refine W.q (Ev.lde1 (.t rfl) ag39) rfl ?_ | refine W.q (Ev.ldb1 0 (.t rfl) rfl ag39 rfl) rfl ?_ | refine W.q (Ev.ldb1 1 (.t rfl) rfl ag39 rfl) rfl ?_ | refine W.q (Ev.ldb1 2 (.t rfl) rfl ag39 rfl) rfl ?_ | refine W.q (Ev.ldb1 3 (.t rfl) rfl ag39 rfl) rfl ?_ | refine W.q (Ev.ldb1 4 (.t rfl) rfl ag39 rfl) rfl ?_
  refine W.bso (es := [_]) Tryd.underlying41 ty39 ⟨rfl, (.t rfl), rfl, rfl, trivial⟩ rfl (by decide) rfl rfl ?_
  intro v19
  refine W.arr_inv 0 rfl (fun a19 n19 c19 h19 => ?_)
  subst h19
  refine W.q (Ev.nilc (.t rfl)) rfl ?_
  first | refine W.q (Ev.fae (.t rfl) fa45_1 rfl) rfl ?_ | refine W.q (Ev.fab (.t rfl) fa45_1) rfl ?_ | refine W.q (Ev.faa (.t rfl) fa45_1) rfl ?_
  first | refine W.stb 0 (.t rfl) (.t rfl) rfl ty41 rfl rfl rfl ?_ | refine W.stb 1 (.t rfl) (.t rfl) rfl ty41 rfl rfl rfl ?_ | refine W.stb 2 (.t rfl) (.t rfl) rfl ty41 rfl rfl rfl ?_ | refine W.stb 3 (.t rfl) (.t rfl) rfl ty41 rfl rfl rfl ?_ | refine W.stb 4 (.t rfl) (.t rfl) rfl ty41 rfl rfl rfl ?_
  refine W.nil ?_
  refine W.then ?_
  refine W.seq ?_
  refine W.seq ?_
  refine W.region ?_
  refine W.q (Ev.move (.t rfl)) rfl ?_
  first | refine W.q (Ev.lensl (.t rfl) Tryd.underlying23) rfl ?_ | refine W.q (Ev.lenar (i := 0) (.t rfl) rfl Tryd.underlying23) rfl ?_ | refine W.q (Ev.lenar (i := 1) (.t rfl) rfl Tryd.underlying23) rfl ?_ | refine W.q (Ev.lenar (i := 2) (.t rfl) rfl Tryd.underlying23) rfl ?_ | refine W.q (Ev.lenar (i := 3) (.t rfl) rfl Tryd.underlying23) rfl ?_ | refine W.q (Ev.lenar (i := 4) (.t rfl) rfl Tryd.underlying23) rfl ?_
  refine W.q (Ev.move .k) rfl ?_
  refine W.nil ?_
  refine W.then ?_
  refine W.block ?_
  refine W.own_nil 52 4 ?_
  refine W.own_nil 39 1 ?_
  refine W.loop (D := []) (ι := Nat × (Nat → Nat) × List Opn.Oc × List Nat × Value × Nat) (fun z => [(24, true, .int (z.1 : Int)), (23, true, .int ((ts.map tav).length : Int)), (22, true, .sl 5 (ts.map tav)), (4, true, .lit (.pointer (some ⟨b13, 0, none⟩)))]) (fun z => .shr 0 54 (Opn.blocks.map AV.str) :: .shr 1 57 (Opn.voids.map AV.str) :: .box b13 45 [.lit (.pointer (some ⟨b11, 0, none⟩)), .lit z.2.2.2.2.1, .int (z.2.2.2.2.2 : Nat), .str []] :: .arr z.2.2.2.2.1 39 1 (z.2.2.2.1.map fun i => Opn.ptr (z.2.1 i)) :: Opn.mem 43 52 39 z.2.1 z.2.2.1) (fun z => z.1 ≤ ts.length ∧ Opn.Inv z.2.1 z.2.2.1 z.2.2.2.1 b11 z.1 z.2.2.2.2.2 ∧ Opn.bd z.2.2.1 z.2.2.2.1 z.2.2.2.2.2 = (ts.take z.1).foldl Opn.Bd.step Opn.Bd.root) (fun z => ts.length - z.1) (0, (fun _ => b11), [⟨Opn.dO, b11, 0, .slice none 0 0⟩], [0], .slice a19 n19 c19, 0) ⟨rfl, rfl, rfl, rfl, trivial⟩ ((List.perm_middle (l₁ := [_, _, _, _, _])).trans <| List.Perm.cons _ <| (List.perm_middle (l₁ := [_, _, _, _, _])).trans <| List.Perm.cons _ <| (List.perm_middle (l₁ := [_, _, _])).trans <| List.Perm.cons _ <| (List.perm_middle (l₁ := [_, _])).trans <| List.Perm.cons _ <| (List.perm_middle (l₁ := [_, _])).trans <| List.Perm.cons _ <| List.Perm.cons _ <| List.Perm.cons _ <| .refl _) ⟨Nat.zero_le _, Opn.Inv.root0 b11, rfl⟩ ?_
  rintro ⟨i, bs, cs, sk, vs, n⟩ ⟨hi, hI, hbd⟩
  dsimp only at hi hI hbd ⊢
  have h5 : (i < ts.length ∧ (ts.getD i Tk.dfl).kind = 1) ∨ (i < ts.length ∧ (ts.getD i Tk.dfl).kind = 2) ∨ (i < ts.length ∧ (ts.getD i Tk.dfl).kind = 3) ∨ (i < ts.length ∧ (ts.getD i Tk.dfl).kind = 4) ∨ i = ts.length := by
    rcases Nat.lt_or_ge i ts.length with h | h
    · have := (hk _ (getD_memG Tk.dfl ts i h)).1; omega
    · omega
  rcases h5 with ⟨hlt, hkd⟩ | ⟨hlt, hkd⟩ | ⟨hlt, hkd⟩ | ⟨hlt, hkd⟩ | hend
  · have hga := getD_mapG tav Tk.dfl ts i hlt
    have htk := take_getDG Tk.dfl ts i hlt
    have hok := hk _ (getD_memG Tk.dfl ts i hlt)
    generalize ts.getD i Tk.dfl = t at hga htk hok hkd
    refine W.seq ?_
    refine W.region ?_
    refine W.q (Ev.lti (.t rfl) (.t rfl)) rfl ?_
    refine W.nil ?_
    refine W.then ?_
    refine W.seq ?_
    refine W.is (t := 25) (g := true) (av' := .lit (.bool true)) rfl (congrArg (fun b => AV.lit (.bool b)) (by exact decide_eq_true (by omega))) ?_
    refine W.condT (.t rfl) ?_
    refine W.skip ?_
    refine W.then ?_
    refine W.seq ?_
    refine W.block ?_
    refine W.seq ?_
    refine W.region ?_
    refine W.q (Ev.at (E := 28) (.t rfl) (.t rfl) Tryd.underlying23 ty28 (fun _ => ⟨by omega, hga⟩) rfl rfl) rfl ?_
    first | refine W.q (Ev.lden (.t rfl) ag28 ty28 rfl rfl) rfl ?_ | refine W.q (Ev.ldbn 0 (.t rfl) rfl ag28 ty28 rfl) rfl ?_ | refine W.q (Ev.ldbn 1 (.t rfl) rfl ag28 ty28 rfl) rfl ?_ | refine W.q (Ev.ldbn 2 (.t rfl) rfl ag28 ty28 rfl) rfl ?_ | refine W.q (Ev.ldbn 3 (.t rfl) rfl ag28 ty28 rfl) rfl ?_ | refine W.q (Ev.ldbn 4 (.t rfl) rfl ag28 ty28 rfl) rfl ?_
    refine W.alloc ty28 rfl rfl ?_
    intro b6
    first | refine W.stb 0 (.t rfl) (.t rfl) rfl ty28 rfl rfl rfl ?_ | refine W.stb 1 (.t rfl) (.t rfl) rfl ty28 rfl rfl rfl ?_ | refine W.stb 2 (.t rfl) (.t rfl) rfl ty28 rfl rfl rfl ?_ | refine W.stb 3 (.t rfl) (.t rfl) rfl ty28 rfl rfl rfl ?_ | refine W.stb 4 (.t rfl) (.t rfl) rfl ty28 rfl rfl rfl ?_
    refine W.nil ?_
    refine W.then ?_
    refine W.seq ?_
    refine W.seq ?_
    refine W.region ?_
    first | refine W.q (Ev.fae (.t rfl) fa28_0 rfl) rfl ?_ | refine W.q (Ev.fab (.t rfl) fa28_0) rfl ?_ | refine W.q (Ev.faa (.t rfl) fa28_0) rfl ?_
    first | refine W.q (Ev.lde1 (.t rfl) ag3) rfl ?_ | refine W.q (Ev.ldb1 0 (.t rfl) rfl ag3 rfl) rfl ?_ | refine W.q (Ev.ldb1 1 (.t rfl) rfl ag3 rfl) rfl ?_ | refine W.q (Ev.ldb1 2 (.t rfl) rfl ag3 rfl) rfl ?_ | refine W.q (Ev.ldb1 3 (.t rfl) rfl ag3 rfl) rfl ?_ | refine W.q (Ev.ldb1 4 (.t rfl) rfl ag3 rfl) rfl ?_
    refine W.nil ?_
    refine W.then ?_
    refine W.block ?_
    refine W.seq ?_
    refine W.region ?_
    refine W.q (Ev.eqi (.t rfl) .k) rfl ?_
    refine W.q (Ev.assign (.t rfl)) rfl ?_
    refine W.nil ?_
    refine W.then ?_
    refine W.is (t := 30) (g := true) (av' := .lit (.bool true)) rfl (congrArg (fun b => AV.lit (.bool b)) (by simp [hkd])) ?_
    refine W.condT (.t rfl) ?_
    refine W.region ?_
    refine W.q (Ev.move (.t rfl)) rfl ?_
    first | refine W.q (Ev.lden (.t rfl) ag28 ty28 rfl rfl) rfl ?_ | refine W.q (Ev.ldbn 0 (.t rfl) rfl ag28 ty28 rfl) rfl ?_ | refine W.q (Ev.ldbn 1 (.t rfl) rfl ag28 ty28 rfl) rfl ?_ | refine W.q (Ev.ldbn 2 (.t rfl) rfl ag28 ty28 rfl) rfl ?_ | refine W.q (Ev.ldbn 3 (.t rfl) rfl ag28 ty28 rfl) rfl ?_ | refine W.q (Ev.ldbn 4 (.t rfl) rfl ag28 ty28 rfl) rfl ?_
    refine W.call (WOStep.c_startI bs cs sk b11 i n b13 vs hI (by omega) t (hok.2.1 hkd).1 (hok.2.1 hkd).2) ⟨(.t rfl), (.t rfl), trivial⟩ ((List.perm_append_comm (l₁ := [_]))) rfl ?_
    rintro _ M1 ⟨rfl, bs', cs', sk', vs', n', hp1, hI1, he1⟩
    refine W.perm (M' := (.shr 0 54 (Opn.blocks.map AV.str) :: .shr 1 57 (Opn.voids.map AV.str) :: .box b13 45 [.lit (.pointer (some ⟨b11, 0, none⟩)), .lit vs', .int (n' : Nat), .str []] :: .arr vs' 39 1 (sk'.map fun i => Opn.ptr (bs' i)) :: Opn.mem 43 52 39 bs' cs') ++ [.box b6 28 (tav t).cells]) (hp1.append_right _) ?_
    have hnn : n' ≤ 150 := by have := hI1.num; have := hI1.len; omega
    refine W.nil ?_
    refine W.blk_normal ?_
    refine W.then ?_
    refine W.seq ?_
    refine W.region ?_
    refine W.q (Ev.move (.t rfl)) rfl ?_
    refine W.q (Ev.nilc (.t rfl)) rfl ?_
    first | refine W.q (Ev.fae (.t rfl) fa45_2 rfl) rfl ?_ | refine W.q (Ev.fab (.t rfl) fa45_2) rfl ?_ | refine W.q (Ev.faa (.t rfl) fa45_2) rfl ?_
    first | refine W.q (Ev.lde1 (.t rfl) ag3) rfl ?_ | refine W.q (Ev.ldb1 0 (.t rfl) rfl ag3 rfl) rfl ?_ | refine W.q (Ev.ldb1 1 (.t rfl) rfl ag3 rfl) rfl ?_ | refine W.q (Ev.ldb1 2 (.t rfl) rfl ag3 rfl) rfl ?_ | refine W.q (Ev.ldb1 3 (.t rfl) rfl ag3 rfl) rfl ?_ | refine W.q (Ev.ldb1 4 (.t rfl) rfl ag3 rfl) rfl ?_
    refine W.q (Ev.gti (.t rfl) .k) rfl ?_
    refine W.nil ?_
    refine W.then ?_
    refine W.is (t := 65) (g := true) (av' := .lit (.bool false)) rfl (congrArg (fun b => AV.lit (.bool b)) (by simp; omega)) ?_
    refine W.condF (.t rfl) ?_
    refine W.skip ?_
    refine W.blk_normal ?_
    refine W.then ?_
    refine W.region ?_
    first | refine W.q (Ev.add (.t rfl) .k (fun _ => by omega)) rfl ?_ | refine W.q (Ev.addw (.t rfl) .k) rfl ?_
    refine W.q (Ev.move (.t rfl)) rfl ?_
    refine W.nil ?_
    refine W.then ?_
    refine W.reach (D := [_]) (i + 1, bs', cs', sk', vs', n') ⟨rfl, rfl, rfl, rfl, trivial⟩ (.refl _) ⟨⟨hlt, hI1, by rw [htk, List.foldl_append, ← hbd]; show _ = Opn.Bd.step _ t; rw [Opn.step1 _ hkd]; exact he1⟩, by show ts.length - (i + 1) < ts.length - i; omega⟩
  · have hga := getD_mapG tav Tk.dfl ts i hlt
    have htk := take_getDG Tk.dfl ts i hlt
    have hok := hk _ (getD_memG Tk.dfl ts i hlt)
    generalize ts.getD i Tk.dfl = t at hga htk hok hkd
    refine W.seq ?_
    refine W.region ?_
    refine W.q (Ev.lti (.t rfl) (.t rfl)) rfl ?_
    refine W.nil ?_
    refine W.then ?_
    refine W.seq ?_
    refine W.is (t := 25) (g := true) (av' := .lit (.bool true)) rfl (congrArg (fun b => AV.lit (.bool b)) (by exact decide_eq_true (by omega))) ?_
    refine W.condT (.t rfl) ?_
    refine W.skip ?_
    refine W.then ?_
    refine W.seq ?_
    refine W.block ?_
    refine W.seq ?_
    refine W.region ?_
    refine W.q (Ev.at (E := 28) (.t rfl) (.t rfl) Tryd.underlying23 ty28 (fun _ => ⟨by omega, hga⟩) rfl rfl) rfl ?_
    first | refine W.q (Ev.lden (.t rfl) ag28 ty28 rfl rfl) rfl ?_ | refine W.q (Ev.ldbn 0 (.t rfl) rfl ag28 ty28 rfl) rfl ?_ | refine W.q (Ev.ldbn 1 (.t rfl) rfl ag28 ty28 rfl) rfl ?_ | refine W.q (Ev.ldbn 2 (.t rfl) rfl ag28 ty28 rfl) rfl ?_ | refine W.q (Ev.ldbn 3 (.t rfl) rfl ag28 ty28 rfl) rfl ?_ | refine W.q (Ev.ldbn 4 (.t rfl) rfl ag28 ty28 rfl) rfl ?_
    refine W.alloc ty28 rfl rfl ?_
    intro b6
    first | refine W.stb 0 (.t rfl) (.t rfl) rfl ty28 rfl rfl rfl ?_ | refine W.stb 1 (.t rfl) (.t rfl) rfl ty28 rfl rfl rfl ?_ | refine W.stb 2 (.t rfl) (.t rfl) rfl ty28 rfl rfl rfl ?_ | refine W.stb 3 (.t rfl) (.t rfl) rfl ty28 rfl rfl rfl ?_ | refine W.stb 4 (.t rfl) (.t rfl) rfl ty28 rfl rfl rfl ?_
    refine W.nil ?_
    refine W.then ?_
    refine W.seq ?_
    refine W.seq ?_
    refine W.region ?_
    first | refine W.q (Ev.fae (.t rfl) fa28_0 rfl) rfl ?_ | refine W.q (Ev.fab (.t rfl) fa28_0) rfl ?_ | refine W.q (Ev.faa (.t rfl) fa28_0) rfl ?_
    first | refine W.q (Ev.lde1 (.t rfl) ag3) rfl ?_ | refine W.q (Ev.ldb1 0 (.t rfl) rfl ag3 rfl) rfl ?_ | refine W.q (Ev.ldb1 1 (.t rfl) rfl ag3 rfl) rfl ?_ | refine W.q (Ev.ldb1 2 (.t rfl) rfl ag3 rfl) rfl ?_ | refine W.q (Ev.ldb1 3 (.t rfl) rfl ag3 rfl) rfl ?_ | refine W.q (Ev.ldb1 4 (.t rfl) rfl ag3 rfl) rfl ?_
    refine W.nil ?_
    refine W.then ?_
    refine W.block ?_
    refine W.seq ?_
    refine W.region ?_
    refine W.q (Ev.eqi (.t rfl) .k) rfl ?_
    refine W.q (Ev.assign (.t rfl)) rfl ?_
    refine W.nil ?_
    refine W.then ?_
    refine W.is (t := 30) (g := true) (av' := .lit (.bool false)) rfl (congrArg (fun b => AV.lit (.bool b)) (by simp [hkd])) ?_
    refine W.condF (.t rfl) ?_
    refine W.seq ?_
    refine W.region ?_
    refine W.q (Ev.eqi (.t rfl) .k) rfl ?_
    refine W.q (Ev.assign (.t rfl)) rfl ?_
    refine W.nil ?_
    refine W.then ?_
    refine W.is (t := 35) (g := true) (av' := .lit (.bool true)) rfl (congrArg (fun b => AV.lit (.bool b)) (by simp [hkd])) ?_
    refine W.condT (.t rfl) ?_
    refine W.seq ?_
    refine W.region ?_
    refine W.q (Ev.move (.t rfl)) rfl ?_
    refine W.q (Ev.move (.t rfl)) rfl ?_
    first | refine W.q (Ev.fae (.t rfl) fa28_1 rfl) rfl ?_ | refine W.q (Ev.fab (.t rfl) fa28_1) rfl ?_ | refine W.q (Ev.faa (.t rfl) fa28_1) rfl ?_
    first | refine W.q (Ev.lde1 (.t rfl) ag9) rfl ?_ | refine W.q (Ev.ldb1 0 (.t rfl) rfl ag9 rfl) rfl ?_ | refine W.q (Ev.ldb1 1 (.t rfl) rfl ag9 rfl) rfl ?_ | refine W.q (Ev.ldb1 2 (.t rfl) rfl ag9 rfl) rfl ?_ | refine W.q (Ev.ldb1 3 (.t rfl) rfl ag9 rfl) rfl ?_ | refine W.q (Ev.ldb1 4 (.t rfl) rfl ag9 rfl) rfl ?_
    refine W.call (WOFind.c_find b13 b11 bs vs (n : Nat) [] sk hI.good.pos hI.good.len cs hI.good.opn t.name) ⟨(.t rfl), (.t rfl), trivial⟩ ((List.perm_append_comm (l₁ := [_, _, _]))) rfl ?_
    rintro _ _ ⟨rfl, rfl⟩
    refine W.perm (M' := .box b6 28 (tav t).cells :: .shr 0 54 (Opn.blocks.map AV.str) :: .shr 1 57 (Opn.voids.map AV.str) :: .box b13 45 [.lit (.pointer (some ⟨b11, 0, none⟩)), .lit vs, .int (n : Nat), .str []] :: .arr vs 39 1 (sk.map fun i => Opn.ptr (bs i)) :: Opn.mem 43 52 39 bs cs) (List.perm_append_comm (l₂ := [_, _, _])) ?_
    refine W.call (WOClose.c_closeAt b13 b11 bs vs (n : Nat) [] sk hI.good.pos hI.good.len _ (Opn.find_lt (Opn.bd cs sk 0) t.name hI.good.pos)) ⟨(.t rfl), (.t rfl), trivial⟩ (((List.perm_middle (l₁ := [_, _, _])).trans <| List.Perm.cons _ <| (List.perm_middle (l₁ := [_, _, _])).trans <| List.Perm.cons _ <| List.Perm.cons _ <| List.Perm.cons _ <| List.Perm.cons _ <| .refl _)) rfl ?_
    rintro _ _ ⟨rfl, vs', rfl⟩
    refine W.perm (M' := .box b6 28 (tav t).cells :: .shr 0 54 (Opn.blocks.map AV.str) :: .shr 1 57 (Opn.voids.map AV.str) :: .box b13 45 [.lit (.pointer (some ⟨b11, 0, none⟩)), .lit vs', .int (n : Nat), .str []] :: .arr vs' 39 1 ((if 0 < (Opn.bd cs sk 0).find t.name then sk.take ((Opn.bd cs sk 0).find t.name) else sk).map fun i => Opn.ptr (bs i)) :: Opn.mem 43 52 39 bs cs) ((List.perm_middle (l₁ := [_, _])).trans <| List.Perm.cons _ <| (List.perm_middle (l₁ := [_, _])).trans <| List.Perm.cons _ <| (List.perm_middle (l₁ := [_, _])).trans <| List.Perm.cons _ <| List.Perm.cons _ <| List.Perm.cons _ <| .refl _) ?_
    have hI1 := hI.close t.name
    have hnn : n ≤ 150 := by have := hI1.num; have := hI1.len; omega
    refine W.nil ?_
    refine W.then ?_
    refine W.seq ?_
    refine W.drawn (by kernel_rfl) (by kernel_rfl) ?_
    first | refine DP.q (Ev.fae (.t rfl) fa28_1 rfl) rfl ?_ | refine DP.q (Ev.fab (.t rfl) fa28_1) rfl ?_ | refine DP.q (Ev.faa (.t rfl) fa28_1) rfl ?_
    first | refine DP.q (Ev.lde1 (.t rfl) ag9) rfl ?_ | refine DP.q (Ev.ldb1 0 (.t rfl) rfl ag9 rfl) rfl ?_ | refine DP.q (Ev.ldb1 1 (.t rfl) rfl ag9 rfl) rfl ?_ | refine DP.q (Ev.ldb1 2 (.t rfl) rfl ag9 rfl) rfl ?_ | refine DP.q (Ev.ldb1 3 (.t rfl) rfl ag9 rfl) rfl ?_ | refine DP.q (Ev.ldb1 4 (.t rfl) rfl ag9 rfl) rfl ?_
    refine DP.q (Ev.move (.t rfl)) rfl ?_
    refine DP.q (Ev.nilc (.t rfl)) rfl ?_
    first | refine DP.q (Ev.fae (.t rfl) fa45_3 rfl) rfl ?_ | refine DP.q (Ev.fab (.t rfl) fa45_3) rfl ?_ | refine DP.q (Ev.faa (.t rfl) fa45_3) rfl ?_
    first | refine DP.q (Ev.lde1 (.t rfl) ag9) rfl ?_ | refine DP.q (Ev.ldb1 0 (.t rfl) rfl ag9 rfl) rfl ?_ | refine DP.q (Ev.ldb1 1 (.t rfl) rfl ag9 rfl) rfl ?_ | refine DP.q (Ev.ldb1 2 (.t rfl) rfl ag9 rfl) rfl ?_ | refine DP.q (Ev.ldb1 3 (.t rfl) rfl ag9 rfl) rfl ?_ | refine DP.q (Ev.ldb1 4 (.t rfl) rfl ag9 rfl) rfl ?_
    refine DP.q (Ev.eqs (.t rfl) (.t rfl)) rfl ?_
    refine DP.nil ?_
    refine W.then ?_
    refine W.cond (.t rfl) (fun hc_t49 => ?_) (fun hc_t49 => ?_)
    · refine W.region ?_
      refine W.q (Ev.move (.t rfl)) rfl ?_
      refine W.q (Ev.nilc (.t rfl)) rfl ?_
      first | refine W.q (Ev.fae (.t rfl) fa45_3 rfl) rfl ?_ | refine W.q (Ev.fab (.t rfl) fa45_3) rfl ?_ | refine W.q (Ev.faa (.t rfl) fa45_3) rfl ?_
      first | refine W.stb 0 (.t rfl) .k rfl ty9 rfl rfl rfl ?_ | refine W.stb 1 (.t rfl) .k rfl ty9 rfl rfl rfl ?_ | refine W.stb 2 (.t rfl) .k rfl ty9 rfl rfl rfl ?_ | refine W.stb 3 (.t rfl) .k rfl ty9 rfl rfl rfl ?_ | refine W.stb 4 (.t rfl) .k rfl ty9 rfl rfl rfl ?_
      refine W.nil ?_
      refine W.blk_normal ?_
      refine W.then ?_
      refine W.seq ?_
      refine W.region ?_
      refine W.q (Ev.move (.t rfl)) rfl ?_
      refine W.q (Ev.nilc (.t rfl)) rfl ?_
      first | refine W.q (Ev.fae (.t rfl) fa45_2 rfl) rfl ?_ | refine W.q (Ev.fab (.t rfl) fa45_2) rfl ?_ | refine W.q (Ev.faa (.t rfl) fa45_2) rfl ?_
      first | refine W.q (Ev.lde1 (.t rfl) ag3) rfl ?_ | refine W.q (Ev.ldb1 0 (.t rfl) rfl ag3 rfl) rfl ?_ | refine W.q (Ev.ldb1 1 (.t rfl) rfl ag3 rfl) rfl ?_ | refine W.q (Ev.ldb1 2 (.t rfl) rfl ag3 rfl) rfl ?_ | refine W.q (Ev.ldb1 3 (.t rfl) rfl ag3 rfl) rfl ?_ | refine W.q (Ev.ldb1 4 (.t rfl) rfl ag3 rfl) rfl ?_
      refine W.q (Ev.gti (.t rfl) .k) rfl ?_
      refine W.nil ?_
      refine W.then ?_
      refine W.is (t := 65) (g := true) (av' := .lit (.bool false)) rfl (congrArg (fun b => AV.lit (.bool b)) (by simp; omega)) ?_
      refine W.condF (.t rfl) ?_
      refine W.skip ?_
      refine W.blk_normal ?_
      refine W.then ?_
      refine W.region ?_
      first | refine W.q (Ev.add (.t rfl) .k (fun _ => by omega)) rfl ?_ | refine W.q (Ev.addw (.t rfl) .k) rfl ?_
      refine W.q (Ev.move (.t rfl)) rfl ?_
      refine W.nil ?_
      refine W.then ?_
      refine W.reach (D := [_]) (i + 1, bs, cs, _, vs', n) ⟨rfl, rfl, rfl, rfl, trivial⟩ (List.perm_append_comm (l₁ := [_])) ⟨⟨hlt, hI1, by rw [htk, List.foldl_append, ← hbd]; show _ = Opn.Bd.step _ t; rw [Opn.step2 _ hkd]; exact (Opn.close_eq cs sk n t.name)⟩, by show ts.length - (i + 1) < ts.length - i; omega⟩
    · refine W.skip ?_
      refine W.blk_normal ?_
      refine W.then ?_
      refine W.seq ?_
      refine W.region ?_
      refine W.q (Ev.move (.t rfl)) rfl ?_
      refine W.q (Ev.nilc (.t rfl)) rfl ?_
      first | refine W.q (Ev.fae (.t rfl) fa45_2 rfl) rfl ?_ | refine W.q (Ev.fab (.t rfl) fa45_2) rfl ?_ | refine W.q (Ev.faa (.t rfl) fa45_2) rfl ?_
      first | refine W.q (Ev.lde1 (.t rfl) ag3) rfl ?_ | refine W.q (Ev.ldb1 0 (.t rfl) rfl ag3 rfl) rfl ?_ | refine W.q (Ev.ldb1 1 (.t rfl) rfl ag3 rfl) rfl ?_ | refine W.q (Ev.ldb1 2 (.t rfl) rfl ag3 rfl) rfl ?_ | refine W.q (Ev.ldb1 3 (.t rfl) rfl ag3 rfl) rfl ?_ | refine W.q (Ev.ldb1 4 (.t rfl) rfl ag3 rfl) rfl ?_
      refine W.q (Ev.gti (.t rfl) .k) rfl ?_
      refine W.nil ?_
      refine W.then ?_
      refine W.is (t := 65) (g := true) (av' := .lit (.bool false)) rfl (congrArg (fun b => AV.lit (.bool b)) (by simp; omega)) ?_
      refine W.condF (.t rfl) ?_
      refine W.skip ?_
      refine W.blk_normal ?_
      refine W.then ?_
      refine W.region ?_
      first | refine W.q (Ev.add (.t rfl) .k (fun _ => by omega)) rfl ?_ | refine W.q (Ev.addw (.t rfl) .k) rfl ?_
      refine W.q (Ev.move (.t rfl)) rfl ?_
      refine W.nil ?_
      refine W.then ?_
      refine W.reach (D := [_]) (i + 1, bs, cs, _, vs', n) ⟨rfl, rfl, rfl, rfl, trivial⟩ (List.perm_append_comm (l₁ := [_])) ⟨⟨hlt, hI1, by rw [htk, List.foldl_append, ← hbd]; show _ = Opn.Bd.step _ t; rw [Opn.step2 _ hkd]; exact (Opn.close_eq cs sk n t.name)⟩, by show ts.length - (i + 1) < ts.length - i; omega⟩
  · have hga := getD_mapG tav Tk.dfl ts i hlt
    have htk := take_getDG Tk.dfl ts i hlt
    have hok := hk _ (getD_memG Tk.dfl ts i hlt)
    generalize ts.getD i Tk.dfl = t at hga htk hok hkd
    refine W.seq ?_
    refine W.region ?_
    refine W.q (Ev.lti (.t rfl) (.t rfl)) rfl ?_
    refine W.nil ?_
    refine W.then ?_
    refine W.seq ?_
    refine W.is (t := 25) (g := true) (av' := .lit (.bool true)) rfl (congrArg (fun b => AV.lit (.bool b)) (by exact decide_eq_true (by omega))) ?_
    refine W.condT (.t rfl) ?_
    refine W.skip ?_
    refine W.then ?_
    refine W.seq ?_
    refine W.block ?_
    refine W.seq ?_
    refine W.region ?_
    refine W.q (Ev.at (E := 28) (.t rfl) (.t rfl) Tryd.underlying23 ty28 (fun _ => ⟨by omega, hga⟩) rfl rfl) rfl ?_
    first | refine W.q (Ev.lden (.t rfl) ag28 ty28 rfl rfl) rfl ?_ | refine W.q (Ev.ldbn 0 (.t rfl) rfl ag28 ty28 rfl) rfl ?_ | refine W.q (Ev.ldbn 1 (.t rfl) rfl ag28 ty28 rfl) rfl ?_ | refine W.q (Ev.ldbn 2 (.t rfl) rfl ag28 ty28 rfl) rfl ?_ | refine W.q (Ev.ldbn 3 (.t rfl) rfl ag28 ty28 rfl) rfl ?_ | refine W.q (Ev.ldbn 4 (.t rfl) rfl ag28 ty28 rfl) rfl ?_
    refine W.alloc ty28 rfl rfl ?_
    intro b6
    first | refine W.stb 0 (.t rfl) (.t rfl) rfl ty28 rfl rfl rfl ?_ | refine W.stb 1 (.t rfl) (.t rfl) rfl ty28 rfl rfl rfl ?_ | refine W.stb 2 (.t rfl) (.t rfl) rfl ty28 rfl rfl rfl ?_ | refine W.stb 3 (.t rfl) (.t rfl) rfl ty28 rfl rfl rfl ?_ | refine W.stb 4 (.t rfl) (.t rfl) rfl ty28 rfl rfl rfl ?_
    refine W.nil ?_
    refine W.then ?_
    refine W.seq ?_
    refine W.seq ?_
    refine W.region ?_
    first | refine W.q (Ev.fae (.t rfl) fa28_0 rfl) rfl ?_ | refine W.q (Ev.fab (.t rfl) fa28_0) rfl ?_ | refine W.q (Ev.faa (.t rfl) fa28_0) rfl ?_
    first | refine W.q (Ev.lde1 (.t rfl) ag3) rfl ?_ | refine W.q (Ev.ldb1 0 (.t rfl) rfl ag3 rfl) rfl ?_ | refine W.q (Ev.ldb1 1 (.t rfl) rfl ag3 rfl) rfl ?_ | refine W.q (Ev.ldb1 2 (.t rfl) rfl ag3 rfl) rfl ?_ | refine W.q (Ev.ldb1 3 (.t rfl) rfl ag3 rfl) rfl ?_ | refine W.q (Ev.ldb1 4 (.t rfl) rfl ag3 rfl) rfl ?_
    refine W.nil ?_
    refine W.then ?_
    refine W.block ?_
    refine W.seq ?_
    refine W.region ?_
    refine W.q (Ev.eqi (.t rfl) .k) rfl ?_
    refine W.q (Ev.assign (.t rfl)) rfl ?_
    refine W.nil ?_
    refine W.then ?_
    refine W.is (t := 30) (g := true) (av' := .lit (.bool false)) rfl (congrArg (fun b => AV.lit (.bool b)) (by simp [hkd])) ?_
    refine W.condF (.t rfl) ?_
    refine W.seq ?_
    refine W.region ?_
    refine W.q (Ev.eqi (.t rfl) .k) rfl ?_
    refine W.q (Ev.assign (.t rfl)) rfl ?_
    refine W.nil ?_
    refine W.then ?_
    refine W.is (t := 35) (g := true) (av' := .lit (.bool false)) rfl (congrArg (fun b => AV.lit (.bool b)) (by simp [hkd])) ?_
    refine W.condF (.t rfl) ?_
    refine W.seq ?_
    refine W.region ?_
    refine W.q (Ev.eqi (.t rfl) .k) rfl ?_
    refine W.q (Ev.assign (.t rfl)) rfl ?_
    refine W.nil ?_
    refine W.then ?_
    refine W.is (t := 53) (g := true) (av' := .lit (.bool true)) rfl (congrArg (fun b => AV.lit (.bool b)) (by simp [hkd])) ?_
    refine W.condT (.t rfl) ?_
    refine W.region ?_
    refine W.q (Ev.move (.t rfl)) rfl ?_
    first | refine W.q (Ev.fae (.t rfl) fa28_4 rfl) rfl ?_ | refine W.q (Ev.fab (.t rfl) fa28_4) rfl ?_ | refine W.q (Ev.faa (.t rfl) fa28_4) rfl ?_
    first | refine W.q (Ev.lde1 (.t rfl) ag9) rfl ?_ | refine W.q (Ev.ldb1 0 (.t rfl) rfl ag9 rfl) rfl ?_ | refine W.q (Ev.ldb1 1 (.t rfl) rfl ag9 rfl) rfl ?_ | refine W.q (Ev.ldb1 2 (.t rfl) rfl ag9 rfl) rfl ?_ | refine W.q (Ev.ldb1 3 (.t rfl) rfl ag9 rfl) rfl ?_ | refine W.q (Ev.ldb1 4 (.t rfl) rfl ag9 rfl) rfl ?_
    refine W.call (WOStep.c_charsI bs cs sk b11 i n b13 vs hI (by omega) t.text (hok.2.2 hkd).1 (hok.2.2 hkd).2) ⟨(.t rfl), (.t rfl), trivial⟩ ((List.perm_append_comm (l₁ := [_, _, _]))) rfl ?_
    rintro _ M1 ⟨rfl, bs', cs', sk', vs', n', hp1, hI1, he1⟩
    refine W.perm (M' := .box b6 28 (tav t).cells :: .shr 0 54 (Opn.blocks.map AV.str) :: .shr 1 57 (Opn.voids.map AV.str) :: .box b13 45 [.lit (.pointer (some ⟨b11, 0, none⟩)), .lit vs', .int (n' : Nat), .str []] :: .arr vs' 39 1 (sk'.map fun i => Opn.ptr (bs' i)) :: Opn.mem 43 52 39 bs' cs') ((hp1.append_right _).trans (List.perm_append_comm (l₂ := [_, _, _]))) ?_
    have hnn : n' ≤ 150 := by have := hI1.num; have := hI1.len; omega
    refine W.nil ?_
    refine W.blk_normal ?_
    refine W.then ?_
    refine W.seq ?_
    refine W.region ?_
    refine W.q (Ev.move (.t rfl)) rfl ?_
    refine W.q (Ev.nilc (.t rfl)) rfl ?_
    first | refine W.q (Ev.fae (.t rfl) fa45_2 rfl) rfl ?_ | refine W.q (Ev.fab (.t rfl) fa45_2) rfl ?_ | refine W.q (Ev.faa (.t rfl) fa45_2) rfl ?_
    first | refine W.q (Ev.lde1 (.t rfl) ag3) rfl ?_ | refine W.q (Ev.ldb1 0 (.t rfl) rfl ag3 rfl) rfl ?_ | refine W.q (Ev.ldb1 1 (.t rfl) rfl ag3 rfl) rfl ?_ | refine W.q (Ev.ldb1 2 (.t rfl) rfl ag3 rfl) rfl ?_ | refine W.q (Ev.ldb1 3 (.t rfl) rfl ag3 rfl) rfl ?_ | refine W.q (Ev.ldb1 4 (.t rfl) rfl ag3 rfl) rfl ?_
    refine W.q (Ev.gti (.t rfl) .k) rfl ?_
    refine W.nil ?_
    refine W.then ?_
    refine W.is (t := 65) (g := true) (av' := .lit (.bool false)) rfl (congrArg (fun b => AV.lit (.bool b)) (by simp; omega)) ?_
    refine W.condF (.t rfl) ?_
    refine W.skip ?_
    refine W.blk_normal ?_
    refine W.then ?_
    refine W.region ?_
    first | refine W.q (Ev.add (.t rfl) .k (fun _ => by omega)) rfl ?_ | refine W.q (Ev.addw (.t rfl) .k) rfl ?_
    refine W.q (Ev.move (.t rfl)) rfl ?_
    refine W.nil ?_
    refine W.then ?_
    refine W.reach (D := [_]) (i + 1, bs', cs', sk', vs', n') ⟨rfl, rfl, rfl, rfl, trivial⟩ (List.perm_append_comm (l₁ := [_])) ⟨⟨hlt, hI1, by rw [htk, List.foldl_append, ← hbd]; show _ = Opn.Bd.step _ t; rw [Opn.step3 _ hkd]; exact he1⟩, by show ts.length - (i + 1) < ts.length - i; omega⟩
  · have hga := getD_mapG tav Tk.dfl ts i hlt
    have htk := take_getDG Tk.dfl ts i hlt
    have hok := hk _ (getD_memG Tk.dfl ts i hlt)
    generalize ts.getD i Tk.dfl = t at hga htk hok hkd
    have hI1 := hI.mono
    have hnn : n ≤ 150 := by have := hI1.num; have := hI1.len; omega
    refine W.seq ?_
    refine W.region ?_
    refine W.q (Ev.lti (.t rfl) (.t rfl)) rfl ?_
    refine W.nil ?_
    refine W.then ?_
    refine W.seq ?_
    refine W.is (t := 25) (g := true) (av' := .lit (.bool true)) rfl (congrArg (fun b => AV.lit (.bool b)) (by exact decide_eq_true (by omega))) ?_
    refine W.condT (.t rfl) ?_
    refine W.skip ?_
    refine W.then ?_
    refine W.seq ?_
    refine W.block ?_
    refine W.seq ?_
    refine W.region ?_
    refine W.q (Ev.at (E := 28) (.t rfl) (.t rfl) Tryd.underlying23 ty28 (fun _ => ⟨by omega, hga⟩) rfl rfl) rfl ?_
    first | refine W.q (Ev.lden (.t rfl) ag28 ty28 rfl rfl) rfl ?_ | refine W.q (Ev.ldbn 0 (.t rfl) rfl ag28 ty28 rfl) rfl ?_ | refine W.q (Ev.ldbn 1 (.t rfl) rfl ag28 ty28 rfl) rfl ?_ | refine W.q (Ev.ldbn 2 (.t rfl) rfl ag28 ty28 rfl) rfl ?_ | refine W.q (Ev.ldbn 3 (.t rfl) rfl ag28 ty28 rfl) rfl ?_ | refine W.q (Ev.ldbn 4 (.t rfl) rfl ag28 ty28 rfl) rfl ?_
    refine W.alloc ty28 rfl rfl ?_
    intro b6
    first | refine W.stb 0 (.t rfl) (.t rfl) rfl ty28 rfl rfl rfl ?_ | refine W.stb 1 (.t rfl) (.t rfl) rfl ty28 rfl rfl rfl ?_ | refine W.stb 2 (.t rfl) (.t rfl) rfl ty28 rfl rfl rfl ?_ | refine W.stb 3 (.t rfl) (.t rfl) rfl ty28 rfl rfl rfl ?_ | refine W.stb 4 (.t rfl) (.t rfl) rfl ty28 rfl rfl rfl ?_
    refine W.nil ?_
    refine W.then ?_
    refine W.seq ?_
    refine W.seq ?_
    refine W.region ?_
    first | refine W.q (Ev.fae (.t rfl) fa28_0 rfl) rfl ?_ | refine W.q (Ev.fab (.t rfl) fa28_0) rfl ?_ | refine W.q (Ev.faa (.t rfl) fa28_0) rfl ?_
    first | refine W.q (Ev.lde1 (.t rfl) ag3) rfl ?_ | refine W.q (Ev.ldb1 0 (.t rfl) rfl ag3 rfl) rfl ?_ | refine W.q (Ev.ldb1 1 (.t rfl) rfl ag3 rfl) rfl ?_ | refine W.q (Ev.ldb1 2 (.t rfl) rfl ag3 rfl) rfl ?_ | refine W.q (Ev.ldb1 3 (.t rfl) rfl ag3 rfl) rfl ?_ | refine W.q (Ev.ldb1 4 (.t rfl) rfl ag3 rfl) rfl ?_
    refine W.nil ?_
    refine W.then ?_
    refine W.block ?_
    refine W.seq ?_
    refine W.region ?_
    refine W.q (Ev.eqi (.t rfl) .k) rfl ?_
    refine W.q (Ev.assign (.t rfl)) rfl ?_
    refine W.nil ?_
    refine W.then ?_
    refine W.is (t := 30) (g := true) (av' := .lit (.bool false)) rfl (congrArg (fun b => AV.lit (.bool b)) (by simp [hkd])) ?_
    refine W.condF (.t rfl) ?_
    refine W.seq ?_
    refine W.region ?_
    refine W.q (Ev.eqi (.t rfl) .k) rfl ?_
    refine W.q (Ev.assign (.t rfl)) rfl ?_
    refine W.nil ?_
    refine W.then ?_
    refine W.is (t := 35) (g := true) (av' := .lit (.bool false)) rfl (congrArg (fun b => AV.lit (.bool b)) (by simp [hkd])) ?_
    refine W.condF (.t rfl) ?_
    refine W.seq ?_
    refine W.region ?_
    refine W.q (Ev.eqi (.t rfl) .k) rfl ?_
    refine W.q (Ev.assign (.t rfl)) rfl ?_
    refine W.nil ?_
    refine W.then ?_
    refine W.is (t := 53) (g := true) (av' := .lit (.bool false)) rfl (congrArg (fun b => AV.lit (.bool b)) (by simp [hkd])) ?_
    refine W.condF (.t rfl) ?_
    refine W.seq ?_
    refine W.region ?_
    refine W.q (Ev.eqi (.t rfl) .k) rfl ?_
    refine W.q (Ev.assign (.t rfl)) rfl ?_
    refine W.nil ?_
    refine W.then ?_
    refine W.is (t := 59) (g := true) (av' := .lit (.bool true)) rfl (congrArg (fun b => AV.lit (.bool b)) (by simp [hkd])) ?_
    refine W.condT (.t rfl) ?_
    refine W.skip ?_
    refine W.blk_normal ?_
    refine W.then ?_
    refine W.seq ?_
    refine W.region ?_
    refine W.q (Ev.move (.t rfl)) rfl ?_
    refine W.q (Ev.nilc (.t rfl)) rfl ?_
    first | refine W.q (Ev.fae (.t rfl) fa45_2 rfl) rfl ?_ | refine W.q (Ev.fab (.t rfl) fa45_2) rfl ?_ | refine W.q (Ev.faa (.t rfl) fa45_2) rfl ?_
    first | refine W.q (Ev.lde1 (.t rfl) ag3) rfl ?_ | refine W.q (Ev.ldb1 0 (.t rfl) rfl ag3 rfl) rfl ?_ | refine W.q (Ev.ldb1 1 (.t rfl) rfl ag3 rfl) rfl ?_ | refine W.q (Ev.ldb1 2 (.t rfl) rfl ag3 rfl) rfl ?_ | refine W.q (Ev.ldb1 3 (.t rfl) rfl ag3 rfl) rfl ?_ | refine W.q (Ev.ldb1 4 (.t rfl) rfl ag3 rfl) rfl ?_
    refine W.q (Ev.gti (.t rfl) .k) rfl ?_
    refine W.nil ?_
    refine W.then ?_
    refine W.is (t := 65) (g := true) (av' := .lit (.bool false)) rfl (congrArg (fun b => AV.lit (.bool b)) (by simp; omega)) ?_
    refine W.condF (.t rfl) ?_
    refine W.skip ?_
    refine W.blk_normal ?_
    refine W.then ?_
    refine W.region ?_
    first | refine W.q (Ev.add (.t rfl) .k (fun _ => by omega)) rfl ?_ | refine W.q (Ev.addw (.t rfl) .k) rfl ?_
    refine W.q (Ev.move (.t rfl)) rfl ?_
    refine W.nil ?_
    refine W.then ?_
    refine W.reach (D := [_]) (i + 1, bs, cs, sk, vs, n) ⟨rfl, rfl, rfl, rfl, trivial⟩ (List.perm_append_comm (l₁ := [_])) ⟨⟨hlt, hI1, by rw [htk, List.foldl_append, ← hbd]; show _ = Opn.Bd.step _ t; rw [Opn.step4 _ hkd]⟩, by show ts.length - (i + 1) < ts.length - i; omega⟩
  · rw [hend, List.take_length] at hbd
    have hobs : (ts.foldl Opn.Bd.step Opn.Bd.root).obs = cs.map Opn.Oc.o := by rw [← hbd]
    obtain ⟨c0, hc0, he0, hb0⟩ := hI.root
    have hN : FnC Tryd.prog 12 [Opn.ptr b11] (Opn.mem 43 52 39 bs cs) (fun rr M => ∃ v, rr = .lit v ∧ M = .arr v 52 4 ((Opn.Bd.nds (cs.map Opn.Oc.o) 22 0).map Nd.av) :: Opn.mem 43 52 39 bs cs) := by rw [← hb0]; exact WONodes.c_nodes bs cs hI.bsb (fun j c hc => ⟨by have := (hI.par j c hc).1; omega, (hI.par j c hc).2⟩) 22 0 c0 hc0 (by have := hI.len; omega)
    refine W.seq ?_
    refine W.region ?_
    refine W.q (Ev.lti (.t rfl) (.t rfl)) rfl ?_
    refine W.nil ?_
    refine W.then ?_
    refine W.seq ?_
    refine W.is (t := 25) (g := true) (av' := .lit (.bool false)) rfl (congrArg (fun b => AV.lit (.bool b)) (by exact decide_eq_false (by omega))) ?_
    refine W.condF (.t rfl) ?_
    refine W.exit ?_
    refine W.then_exit ?_
    refine W.then_exit ?_
    refine W.blk_hit ?_
    refine W.then ?_
    refine W.seq ?_
    refine W.region ?_
    refine W.q (Ev.move (.t rfl)) rfl ?_
    refine W.q (Ev.nilc (.t rfl)) rfl ?_
    first | refine W.q (Ev.fae (.t rfl) fa45_0 rfl) rfl ?_ | refine W.q (Ev.fab (.t rfl) fa45_0) rfl ?_ | refine W.q (Ev.faa (.t rfl) fa45_0) rfl ?_
    first | refine W.q (Ev.lde1 (.t rfl) ag39) rfl ?_ | refine W.q (Ev.ldb1 0 (.t rfl) rfl ag39 rfl) rfl ?_ | refine W.q (Ev.ldb1 1 (.t rfl) rfl ag39 rfl) rfl ?_ | refine W.q (Ev.ldb1 2 (.t rfl) rfl ag39 rfl) rfl ?_ | refine W.q (Ev.ldb1 3 (.t rfl) rfl ag39 rfl) rfl ?_ | refine W.q (Ev.ldb1 4 (.t rfl) rfl ag39 rfl) rfl ?_
    refine W.call (hN) ⟨(.t rfl), trivial⟩ ((List.perm_append_comm (l₁ := [_, _, _, _]))) rfl ?_
    rintro _ _ ⟨v71, rfl, rfl⟩
    refine W.perm (M' := .arr v71 52 4 ((Opn.Bd.nds (cs.map Opn.Oc.o) 22 0).map Nd.av) :: .shr 0 54 (Opn.blocks.map AV.str) :: .shr 1 57 (Opn.voids.map AV.str) :: .box b13 45 [.lit (.pointer (some ⟨b11, 0, none⟩)), .lit vs, .int (n : Nat), .str []] :: .arr vs 39 1 (sk.map fun i => Opn.ptr (bs i)) :: Opn.mem 43 52 39 bs cs) (List.Perm.cons _ (List.perm_append_comm (l₂ := [_, _, _, _]))) ?_
    refine W.q (Ev.assign (.t rfl)) rfl ?_
    refine W.q (Ev.assign .k) rfl ?_
    refine W.nil ?_
    refine W.then ?_
    refine W.ret ?_
    refine W.retn (M' := [_, _, _]) (D := (_ :: _ :: _)) (rs := [.tmp 2, .tmp 3]) (avs := [_, _]) Tryd.results6 ⟨rfl, rfl, trivial⟩ rfl (.refl _) ?_
    exact ⟨v71, rfl, by rw [hobs], by rw [hobs]; exact hI.sizes (by omega) 22⟩

end WOBuild

end Go.Proofs.YtbdfeolffigdoaaDoor
end

section
set_option linter.unusedVariables false
set_option linter.unusedSimpArgs false
set_option maxRecDepth 100000
namespace Go.Proofs.YtbdfeolffigdoaaDoor
open Go.Vl

namespace WTokens
theorem ty3 : Ty Tryd.prog 3 1 8 (.int .i64 0) := Ty.of (by kernel_rfl)
theorem ty4 : Ty Tryd.prog 4 1 1 (.bool false) := Ty.of (by kernel_rfl)
theorem ty9 : Ty Tryd.prog 9 1 16 (.string ⟨#[]⟩) := Ty.of (by kernel_rfl)
theorem ty26 : Ty Tryd.prog 26 1 24 (.slice none 0 0) := Ty.of (by kernel_rfl)
theorem ty28 : Ty Tryd.prog 28 5 72 (.agg #[.int .i64 0, .string ⟨#[]⟩, .slice none 0 0, .bool false, .string ⟨#[]⟩]) := Ty.of (by kernel_rfl)
theorem ty37 : Ty Tryd.prog 37 2 32 (.agg #[.string ⟨#[]⟩, .string ⟨#[]⟩]) := Ty.of (by kernel_rfl)
theorem ag3 : IsAgg Tryd.prog 3 false := ⟨_, Tryd.underlying3, rfl⟩
theorem ag4 : IsAgg Tryd.prog 4 false := ⟨_, Tryd.underlying4, rfl⟩
theorem ag9 : IsAgg Tryd.prog 9 false := ⟨_, Tryd.underlying9, rfl⟩
theorem ag26 : IsAgg Tryd.prog 26 false := ⟨_, Tryd.underlying26, rfl⟩
theorem ag28 : IsAgg Tryd.prog 28 true := ⟨_, Tryd.underlying28, rfl⟩
theorem fa28_0 : FieldAt Tryd.prog 28 0 0 1 false := ⟨_, _, Tryd.underlying28, rfl, rfl, ty3.size, ag3, by decide⟩
theorem fa28_2 : FieldAt Tryd.prog 28 2 2 1 false := ⟨_, _, Tryd.underlying28, rfl, rfl, ty26.size, ag26, by decide⟩
theorem fa28_3 : FieldAt Tryd.prog 28 3 3 1 false := ⟨_, _, Tryd.underlying28, rfl, rfl, ty4.size, ag4, by decide⟩
theorem st28 : StructAt Tryd.prog 28 [(0, 1), (1, 1), (2, 1), (3, 1), (4, 1)] := ⟨_, Tryd.underlying28, rfl, ty3.size, rfl, ty9.size, rfl, ty26.size, rfl, ty4.size, rfl, ty9.size, trivial⟩
theorem st37 : StructAt Tryd.prog 37 [(0, 1), (1, 1)] := ⟨_, Tryd.underlying37, rfl, ty9.size, rfl, ty9.size, trivial⟩
theorem ni23 : NotInt Tryd.prog 23 := .inl ⟨_, Tryd.underlying23⟩
theorem ni26 : NotInt Tryd.prog 26 := .inl ⟨_, Tryd.underlying26⟩
theorem c_Tokens (l : List Int) (hl : l.length ≤ 1099511627776) (n : Nat) (hn : n ≤ 1000) : FnC Tryd.prog 4 [.sl 1 (l.map AV.int), .int (n : Int)] [] (fun r M => ∃ (v : Value) (ts : List Tk), r = .lit v ∧ M = [.arr v 28 5 (ts.map tav)] ∧ Tk.drawns false ts ∧ ts.length ≤ n) :=  by
  refine FnC.mk Tryd.func4 (by kernel_rfl) rfl Tryd.ntmps4 rfl (fun w0 F => ?_)
  have hll : (l.map AV.int).length = l.length := List.length_map ..
  refine W.seq ?_
  refine W.region ?_
  refine W.q (Ev.assign .k) rfl ?_
  refine W.nil ?_
  refine W.then ?_
  refine W.seq ?_
  refine W.region ?_
  refine W.q (Ev.assign .k) rfl ?_
  refine W.nil ?_
  refine W.then ?_
  refine W.seq ?_
  refine W.seq ?_
  refine W.region ?_
  refine W.q (Ev.assign .k) rfl ?_
  refine W.nil ?_
  refine W.then ?_
  refine W.block ?_
  refine W.own_nil 28 5 ?_
  refine W.loop (D := []) (ι := Nat × List Tk × Value) (fun z => [(6, true, .int (z.1 : Int)), (0, true, .sl 1 (l.map AV.int)), (1, true, .int (n : Int)), (5, true, .lit z.2.2)]) (fun z => [.arr z.2.2 28 5 (z.2.1.map tav)]) (fun z => z.1 ≤ l.length ∧ Tk.drawns false z.2.1 ∧ z.2.1.length ≤ n) (fun z => l.length - z.1) (0, [], .slice none 0 0) ⟨rfl, rfl, rfl, rfl, trivial⟩ (.refl _) ⟨Nat.zero_le _, trivial, Nat.zero_le _⟩ ?_
  rintro ⟨i, ts, v⟩ ⟨hi1, hi2, hi3⟩
  dsimp only at hi1 hi2 hi3 ⊢
  have htl : (ts.map tav).length = ts.length := List.length_map ..
  rcases (show (i < l.length ∧ ts.length < n) ∨ ¬ (i < l.length ∧ ts.length < n) from by omega) with hlt | hge
  · have hgx : (l.map AV.int)[i]? = some (AV.int (l.getD i 0)) := getD_map l i hlt.1
    generalize hz : l.getD i 0 = x at hgx
    refine W.seq ?_
    refine W.seq ?_
    refine W.region ?_
    refine W.q (Ev.move (.t rfl)) rfl ?_
    refine W.q (Ev.move (.t rfl)) rfl ?_
    first | refine W.q (Ev.lensl (.t rfl) Tryd.underlying22) rfl ?_ | refine W.q (Ev.lenar (i := 0) (.t rfl) rfl Tryd.underlying22) rfl ?_ | refine W.q (Ev.lenar (i := 1) (.t rfl) rfl Tryd.underlying22) rfl ?_ | refine W.q (Ev.lenar (i := 2) (.t rfl) rfl Tryd.underlying22) rfl ?_ | refine W.q (Ev.lenar (i := 3) (.t rfl) rfl Tryd.underlying22) rfl ?_
    refine W.q (Ev.lti (.t rfl) (.t rfl)) rfl ?_
    refine W.q (Ev.move (.t rfl)) rfl ?_
    refine W.qgT rfl rfl (Ev.move (.t rfl)) rfl ?_
    first | refine W.qgT rfl rfl (Ev.lensl (.c rfl) Tryd.underlying23) rfl ?_ | refine W.qgT rfl rfl (Ev.lenar (i := 0) (.c rfl) rfl Tryd.underlying23) rfl ?_ | refine W.qgT rfl rfl (Ev.lenar (i := 1) (.c rfl) rfl Tryd.underlying23) rfl ?_ | refine W.qgT rfl rfl (Ev.lenar (i := 2) (.c rfl) rfl Tryd.underlying23) rfl ?_ | refine W.qgT rfl rfl (Ev.lenar (i := 3) (.c rfl) rfl Tryd.underlying23) rfl ?_
    refine W.qgT rfl rfl (Ev.move (.t rfl)) rfl ?_
    refine W.qgT rfl rfl (Ev.lti (.c rfl) (.c rfl)) rfl ?_
    refine W.q (Ev.and (.t rfl) ⟨_, _, rfl, rfl, by first | (simp; done) | (intro hg_ hp_; simp [hp_]; done) | (simp <;> omega; done) | (simp_all; done) | grind⟩) rfl ?_
    refine W.nil ?_
    refine W.then ?_
    refine W.is (t := 20) (g := true) (av' := .lit (.bool true)) rfl (congrArg (fun b => AV.lit (.bool b)) (by simp; omega)) ?_
    refine W.condT (.t rfl) ?_
    refine W.skip ?_
    refine W.then ?_
    refine W.seq ?_
    refine W.block ?_
    refine W.seq ?_
    refine W.region ?_
    refine W.q (Ev.move (.t rfl)) rfl ?_
    refine W.q (Ev.move (.t rfl)) rfl ?_
    refine W.q (Ev.at (E := 3) (.t rfl) (.t rfl) Tryd.underlying22 ty3 (fun _ => ⟨by omega, hgx⟩) rfl rfl) rfl ?_
    first | refine W.q (Ev.lde1 (.t rfl) ag3) rfl ?_ | refine W.q (Ev.ldb1 0 (.t rfl) rfl ag3 rfl) rfl ?_ | refine W.q (Ev.ldb1 1 (.t rfl) rfl ag3 rfl) rfl ?_ | refine W.q (Ev.ldb1 2 (.t rfl) rfl ag3 rfl) rfl ?_ | refine W.q (Ev.ldb1 3 (.t rfl) rfl ag3 rfl) rfl ?_
    refine W.q (Ev.assign (.t rfl)) rfl ?_
    refine W.nil ?_
    refine W.then ?_
    refine W.seq ?_
    refine W.region ?_
    obtain ⟨nm, mnm, h31⟩ := pick_mod Tk.nm5 (IntKind.i64.wrap (x.tdiv 4)) 5 rfl (by decide)
    refine W.bs (es := [_, _, _, _, _]) Tryd.underlying35 ty9 ⟨rfl, .k, rfl, rfl, rfl, .k, rfl, rfl, rfl, .k, rfl, rfl, rfl, .k, rfl, rfl, rfl, .k, rfl, rfl, trivial⟩ rfl (by decide) rfl rfl ?_
    refine W.q (Ev.move (.t rfl)) rfl ?_
    first | refine W.q (Ev.quo (.t rfl) .k (fun _ => by decide)) rfl ?_ | refine W.q (Ev.quo (.t rfl) .k (fun _ => by omega)) rfl ?_
    refine W.callp (Base.c_Picked (IntKind.i64.wrap (x.tdiv 4)) 5 (by decide) (by decide)) ⟨(.t rfl), .k, trivial⟩ rfl ?_
    refine W.q (Ev.at (E := 9) (.t rfl) (.t rfl) Tryd.underlying35 ty9 (fun _ => ⟨Int.emod_nonneg _ (by decide), h31⟩) rfl rfl) rfl ?_
    first | refine W.q (Ev.lde1 (.t rfl) ag9) rfl ?_ | refine W.q (Ev.ldb1 0 (.t rfl) rfl ag9 rfl) rfl ?_ | refine W.q (Ev.ldb1 1 (.t rfl) rfl ag9 rfl) rfl ?_ | refine W.q (Ev.ldb1 2 (.t rfl) rfl ag9 rfl) rfl ?_ | refine W.q (Ev.ldb1 3 (.t rfl) rfl ag9 rfl) rfl ?_
    refine W.q (Ev.build ty28 st28 rfl (fun hg => ⟨_, _, _, rfl, .k, rfl, rfl, rfl, _, _, _, rfl, (.t rfl), rfl, rfl, rfl, rfl⟩)) rfl ?_
    refine W.alloc ty28 rfl rfl ?_
    intro b8
    first | refine W.stb 0 (.t rfl) (.t rfl) rfl ty28 rfl rfl rfl ?_ | refine W.stb 1 (.t rfl) (.t rfl) rfl ty28 rfl rfl rfl ?_ | refine W.stb 2 (.t rfl) (.t rfl) rfl ty28 rfl rfl rfl ?_ | refine W.stb 3 (.t rfl) (.t rfl) rfl ty28 rfl rfl rfl ?_
    refine W.nil ?_
    refine W.then ?_
    refine W.seq ?_
    refine W.seq ?_
    refine W.region ?_
    refine W.q (Ev.move (.t rfl)) rfl ?_
    refine W.callp (Base.c_Picked x 4 (by decide) (by decide)) ⟨(.t rfl), .k, trivial⟩ rfl ?_
    refine W.nil ?_
    refine W.then ?_
    refine W.block ?_
    refine W.seq ?_
    refine W.region ?_
    refine W.q (Ev.eqi (.t rfl) .k) rfl ?_
    refine W.q (Ev.assign (.t rfl)) rfl ?_
    refine W.nil ?_
    refine W.then ?_
    refine W.cond (.t rfl) (fun hc_t36 => ?_) (fun hc_t36 => ?_)
    · refine W.region ?_
      first | refine W.q (Ev.fae (.t rfl) fa28_0 rfl) rfl ?_ | refine W.q (Ev.fab (.t rfl) fa28_0) rfl ?_ | refine W.q (Ev.faa (.t rfl) fa28_0) rfl ?_
      first | refine W.stb 0 (.t rfl) .k rfl ty3 rfl rfl rfl ?_ | refine W.stb 1 (.t rfl) .k rfl ty3 rfl rfl rfl ?_ | refine W.stb 2 (.t rfl) .k rfl ty3 rfl rfl rfl ?_ | refine W.stb 3 (.t rfl) .k rfl ty3 rfl rfl rfl ?_
      refine W.nil ?_
      refine W.blk_normal ?_
      refine W.then ?_
      refine W.region ?_
      refine W.q (Ev.move (.t rfl)) rfl ?_
      first | refine W.q (Ev.lden (.t rfl) ag28 ty28 rfl rfl) rfl ?_ | refine W.q (Ev.ldbn 0 (.t rfl) rfl ag28 ty28 rfl) rfl ?_ | refine W.q (Ev.ldbn 1 (.t rfl) rfl ag28 ty28 rfl) rfl ?_ | refine W.q (Ev.ldbn 2 (.t rfl) rfl ag28 ty28 rfl) rfl ?_ | refine W.q (Ev.ldbn 3 (.t rfl) rfl ag28 ty28 rfl) rfl ?_
      first | refine W.nils (t := 94) (g := true) (cs' := [_, _, .sl 2 [], _, _]) rfl ⟨.inl rfl, .inl rfl, .inr ⟨rfl, 2, rfl⟩, .inl rfl, .inl rfl, trivial⟩ ?_ | skip
      refine W.bs (es := [_]) Tryd.underlying23 ty28 ⟨rfl, (.t rfl), rfl, rfl, trivial⟩ rfl (by decide) rfl rfl ?_
      first | refine W.app 0 (.t rfl) rfl (.sl (.t rfl) (by first | (simp [AV.okc, shV]; done) | (intro e he; rw [List.mem_singleton.1 he]; rfl))) Tryd.underlying23 ni23 ty28 rfl rfl (by simp only [List.length_map, List.length_cons, List.length_nil]; omega) rfl ?_ | refine W.app 1 (.t rfl) rfl (.sl (.t rfl) (by first | (simp [AV.okc, shV]; done) | (intro e he; rw [List.mem_singleton.1 he]; rfl))) Tryd.underlying23 ni23 ty28 rfl rfl (by simp only [List.length_map, List.length_cons, List.length_nil]; omega) rfl ?_ | refine W.app 2 (.t rfl) rfl (.sl (.t rfl) (by first | (simp [AV.okc, shV]; done) | (intro e he; rw [List.mem_singleton.1 he]; rfl))) Tryd.underlying23 ni23 ty28 rfl rfl (by simp only [List.length_map, List.length_cons, List.length_nil]; omega) rfl ?_ | refine W.app 3 (.t rfl) rfl (.sl (.t rfl) (by first | (simp [AV.okc, shV]; done) | (intro e he; rw [List.mem_singleton.1 he]; rfl))) Tryd.underlying23 ni23 ty28 rfl rfl (by simp only [List.length_map, List.length_cons, List.length_nil]; omega) rfl ?_ | refine W.app 0 (.t rfl) rfl (.arr 0 (.t rfl) rfl (by first | (simp [AV.okc, shV]; done) | (intro e he; rw [List.mem_singleton.1 he]; rfl))) Tryd.underlying23 ni23 ty28 rfl rfl (by simp only [List.length_map, List.length_cons, List.length_nil]; omega) rfl ?_ | refine W.app 0 (.t rfl) rfl (.arr 1 (.t rfl) rfl (by first | (simp [AV.okc, shV]; done) | (intro e he; rw [List.mem_singleton.1 he]; rfl))) Tryd.underlying23 ni23 ty28 rfl rfl (by simp only [List.length_map, List.length_cons, List.length_nil]; omega) rfl ?_ | refine W.app 0 (.t rfl) rfl (.arr 2 (.t rfl) rfl (by first | (simp [AV.okc, shV]; done) | (intro e he; rw [List.mem_singleton.1 he]; rfl))) Tryd.underlying23 ni23 ty28 rfl rfl (by simp only [List.length_map, List.length_cons, List.length_nil]; omega) rfl ?_ | refine W.app 0 (.t rfl) rfl (.arr 3 (.t rfl) rfl (by first | (simp [AV.okc, shV]; done) | (intro e he; rw [List.mem_singleton.1 he]; rfl))) Tryd.underlying23 ni23 ty28 rfl rfl (by simp only [List.length_map, List.length_cons, List.length_nil]; omega) rfl ?_ | refine W.app 1 (.t rfl) rfl (.arr 0 (.t rfl) rfl (by first | (simp [AV.okc, shV]; done) | (intro e he; rw [List.mem_singleton.1 he]; rfl))) Tryd.underlying23 ni23 ty28 rfl rfl (by simp only [List.length_map, List.length_cons, List.length_nil]; omega) rfl ?_ | refine W.app 1 (.t rfl) rfl (.arr 1 (.t rfl) rfl (by first | (simp [AV.okc, shV]; done) | (intro e he; rw [List.mem_singleton.1 he]; rfl))) Tryd.underlying23 ni23 ty28 rfl rfl (by simp only [List.length_map, List.length_cons, List.length_nil]; omega) rfl ?_ | refine W.app 1 (.t rfl) rfl (.arr 2 (.t rfl) rfl (by first | (simp [AV.okc, shV]; done) | (intro e he; rw [List.mem_singleton.1 he]; rfl))) Tryd.underlying23 ni23 ty28 rfl rfl (by simp only [List.length_map, List.length_cons, List.length_nil]; omega) rfl ?_ | refine W.app 1 (.t rfl) rfl (.arr 3 (.t rfl) rfl (by first | (simp [AV.okc, shV]; done) | (intro e he; rw [List.mem_singleton.1 he]; rfl))) Tryd.underlying23 ni23 ty28 rfl rfl (by simp only [List.length_map, List.length_cons, List.length_nil]; omega) rfl ?_ | refine W.app 2 (.t rfl) rfl (.arr 0 (.t rfl) rfl (by first | (simp [AV.okc, shV]; done) | (intro e he; rw [List.mem_singleton.1 he]; rfl))) Tryd.underlying23 ni23 ty28 rfl rfl (by simp only [List.length_map, List.length_cons, List.length_nil]; omega) rfl ?_ | refine W.app 2 (.t rfl) rfl (.arr 1 (.t rfl) rfl (by first | (simp [AV.okc, shV]; done) | (intro e he; rw [List.mem_singleton.1 he]; rfl))) Tryd.underlying23 ni23 ty28 rfl rfl (by simp only [List.length_map, List.length_cons, List.length_nil]; omega) rfl ?_ | refine W.app 2 (.t rfl) rfl (.arr 2 (.t rfl) rfl (by first | (simp [AV.okc, shV]; done) | (intro e he; rw [List.mem_singleton.1 he]; rfl))) Tryd.underlying23 ni23 ty28 rfl rfl (by simp only [List.length_map, List.length_cons, List.length_nil]; omega) rfl ?_ | refine W.app 2 (.t rfl) rfl (.arr 3 (.t rfl) rfl (by first | (simp [AV.okc, shV]; done) | (intro e he; rw [List.mem_singleton.1 he]; rfl))) Tryd.underlying23 ni23 ty28 rfl rfl (by simp only [List.length_map, List.length_cons, List.length_nil]; omega) rfl ?_ | refine W.app 3 (.t rfl) rfl (.arr 0 (.t rfl) rfl (by first | (simp [AV.okc, shV]; done) | (intro e he; rw [List.mem_singleton.1 he]; rfl))) Tryd.underlying23 ni23 ty28 rfl rfl (by simp only [List.length_map, List.length_cons, List.length_nil]; omega) rfl ?_ | refine W.app 3 (.t rfl) rfl (.arr 1 (.t rfl) rfl (by first | (simp [AV.okc, shV]; done) | (intro e he; rw [List.mem_singleton.1 he]; rfl))) Tryd.underlying23 ni23 ty28 rfl rfl (by simp only [List.length_map, List.length_cons, List.length_nil]; omega) rfl ?_ | refine W.app 3 (.t rfl) rfl (.arr 2 (.t rfl) rfl (by first | (simp [AV.okc, shV]; done) | (intro e he; rw [List.mem_singleton.1 he]; rfl))) Tryd.underlying23 ni23 ty28 rfl rfl (by simp only [List.length_map, List.length_cons, List.length_nil]; omega) rfl ?_ | refine W.app 3 (.t rfl) rfl (.arr 3 (.t rfl) rfl (by first | (simp [AV.okc, shV]; done) | (intro e he; rw [List.mem_singleton.1 he]; rfl))) Tryd.underlying23 ni23 ty28 rfl rfl (by simp only [List.length_map, List.length_cons, List.length_nil]; omega) rfl ?_
      intro v96
      refine W.q (Ev.assign (.t rfl)) rfl ?_
      refine W.nil ?_
      refine W.blk_normal ?_
      refine W.then ?_
      refine W.region ?_
      refine W.q (Ev.move (.t rfl)) rfl ?_
      first | refine W.q (Ev.add (.t rfl) .k (fun _ => by omega)) rfl ?_ | refine W.q (Ev.addw (.t rfl) .k) rfl ?_
      refine W.q (Ev.assign (.t rfl)) rfl ?_
      refine W.nil ?_
      refine W.then ?_
      first
      | (refine W.reach (D := [_]) (i + 1, ts, v) ⟨rfl, rfl, rfl, rfl, trivial⟩ (List.Perm.swap _ _ []) ⟨⟨by show i + 1 ≤ _; omega, hi2, hi3⟩, by show _ - (i + 1) < _; omega⟩)
      | (refine W.reach (D := [_]) (i + 1, ts ++ [⟨2, nm, [], false, []⟩], v96) ⟨rfl, rfl, rfl, rfl, trivial⟩ (by rw [List.map_append]; exact List.Perm.swap _ _ []) ⟨⟨by show i + 1 ≤ _; omega, Tk.drawns_snoc hi2 (fun (h : (2 : Int) = 3) => absurd h (by decide)) (.inr (.inl ⟨rfl, mnm, rfl, rfl, rfl⟩)), by show List.length _ ≤ n; rw [List.length_append, List.length_singleton]; omega⟩, by show _ - (i + 1) < _; omega⟩)
      | (refine W.reach (D := [_]) (i + 1, ts ++ [⟨3, [], [], false, tx⟩], v96) ⟨rfl, rfl, rfl, rfl, trivial⟩ (by rw [List.map_append]; exact List.Perm.swap _ _ []) ⟨⟨by show i + 1 ≤ _; omega, Tk.drawns_snoc hi2 (fun _ => h53) (.inr (.inr ⟨rfl, rfl, rfl, rfl, mtx⟩)), by show List.length _ ≤ n; rw [List.length_append, List.length_singleton]; omega⟩, by show _ - (i + 1) < _; omega⟩)
      | (refine W.reach (D := [_]) (i + 1, ts ++ [⟨1, nm, ats, IntKind.i64.wrap (x.tdiv 20) % 2 == 0, []⟩], v96) ⟨rfl, rfl, rfl, rfl, trivial⟩ (by rw [List.map_append]; exact List.Perm.swap _ _ []) ⟨⟨by show i + 1 ≤ _; omega, Tk.drawns_snoc hi2 (fun (h : (1 : Int) = 3) => absurd h (by decide)) (.inl ⟨rfl, mnm, ⟨by rw [hk2]; exact hk3, hk4⟩, rfl⟩), by show List.length _ ≤ n; rw [List.length_append, List.length_singleton]; omega⟩, by show _ - (i + 1) < _; omega⟩)
      | (refine W.reach (D := [_]) (i + 1, ts ++ [⟨1, nm, [], false, []⟩], v96) ⟨rfl, rfl, rfl, rfl, trivial⟩ (by rw [List.map_append]; exact List.Perm.swap _ _ []) ⟨⟨by show i + 1 ≤ _; omega, Tk.drawns_snoc hi2 (fun (h : (1 : Int) = 3) => absurd h (by decide)) (.inl ⟨rfl, mnm, ⟨rfl, by simp⟩, rfl⟩), by show List.length _ ≤ n; rw [List.length_append, List.length_singleton]; omega⟩, by show _ - (i + 1) < _; omega⟩)
    · have h36 := beq_eq_false_iff_ne.1 hc_t36
      refine W.seq ?_
      refine W.region ?_
      refine W.q (Ev.eqi (.t rfl) .k) rfl ?_
      refine W.q (Ev.assign (.t rfl)) rfl ?_
      refine W.nil ?_
      refine W.then ?_
      refine W.cond (.t rfl) (fun hc_t39 => ?_) (fun hc_t39 => ?_)
      · refine W.seq ?_
        refine W.seq ?_
        refine W.region ?_
        refine W.q (Ev.move (.t rfl)) rfl ?_
        first | refine W.q (Ev.lensl (.t rfl) Tryd.underlying23) rfl ?_ | refine W.q (Ev.lenar (i := 0) (.t rfl) rfl Tryd.underlying23) rfl ?_ | refine W.q (Ev.lenar (i := 1) (.t rfl) rfl Tryd.underlying23) rfl ?_ | refine W.q (Ev.lenar (i := 2) (.t rfl) rfl Tryd.underlying23) rfl ?_ | refine W.q (Ev.lenar (i := 3) (.t rfl) rfl Tryd.underlying23) rfl ?_
        refine W.q (Ev.assign (.t rfl)) rfl ?_
        refine W.nil ?_
        refine W.then ?_
        refine W.seq ?_
        refine W.region ?_
        refine W.q (Ev.move (.t rfl)) rfl ?_
        refine W.q (Ev.gti (.t rfl) .k) rfl ?_
        refine W.q (Ev.move (.t rfl)) rfl ?_
        refine W.qgT rfl rfl (Ev.move (.t rfl)) rfl ?_
        refine W.qgT rfl rfl (Ev.move (.t rfl)) rfl ?_
        first | refine W.qgT rfl rfl (Ev.sub (.c rfl) .k (fun _ => by omega)) rfl ?_ | refine W.qgT rfl rfl (Ev.subw (.c rfl) .k) rfl ?_
        refine W.qgT rfl rfl (Ev.ata 1 (.c rfl) rfl (.c rfl) Tryd.underlying23 ty28 (fun hg => by have h := of_decide_eq_true hg; omega)) rfl ?_
        first | refine W.qgT rfl rfl (Ev.fae (.c rfl) fa28_0 rfl) rfl ?_ | refine W.qgT rfl rfl (Ev.fab (.c rfl) fa28_0) rfl ?_ | refine W.qgT rfl rfl (Ev.faa (.c rfl) fa28_0) rfl ?_
        refine W.qgT rfl rfl (Ev.lda1g 1 (ts.length - 1) 0 (e := tav (ts.getD (ts.length - 1) Tk.dfl)) (.c rfl) rfl (fun hg => getD_mapG tav Tk.dfl ts _ (by have h := of_decide_eq_true hg; omega)) (fun hg => by have h := of_decide_eq_true hg; omega) rfl rfl rfl ag3) rfl ?_
        refine W.qgT rfl rfl (Ev.eqi (.c rfl) .k) rfl ?_
        refine W.q (Ev.and (.t rfl) ⟨_, _, rfl, rfl, by first | (simp; done) | (intro hg_ hp_; simp [hp_]; done) | (simp <;> omega; done) | (simp_all; done) | grind⟩) rfl ?_
        refine W.nil ?_
        refine W.then ?_
        refine W.cond (.t rfl) (fun hc_t53 => ?_) (fun hc_t53 => ?_)
        · refine W.exit ?_
          refine W.then_exit ?_
          refine W.blk_miss rfl ?_
          refine W.then_exit ?_
          refine W.blk_hit ?_
          refine W.then ?_
          refine W.region ?_
          refine W.q (Ev.move (.t rfl)) rfl ?_
          first | refine W.q (Ev.add (.t rfl) .k (fun _ => by omega)) rfl ?_ | refine W.q (Ev.addw (.t rfl) .k) rfl ?_
          refine W.q (Ev.assign (.t rfl)) rfl ?_
          refine W.nil ?_
          refine W.then ?_
          first
          | (refine W.reach (D := [_]) (i + 1, ts, v) ⟨rfl, rfl, rfl, rfl, trivial⟩ (List.Perm.swap _ _ []) ⟨⟨by show i + 1 ≤ _; omega, hi2, hi3⟩, by show _ - (i + 1) < _; omega⟩)
          | (refine W.reach (D := [_]) (i + 1, ts ++ [⟨2, nm, [], false, []⟩], v96) ⟨rfl, rfl, rfl, rfl, trivial⟩ (by rw [List.map_append]; exact List.Perm.swap _ _ []) ⟨⟨by show i + 1 ≤ _; omega, Tk.drawns_snoc hi2 (fun (h : (2 : Int) = 3) => absurd h (by decide)) (.inr (.inl ⟨rfl, mnm, rfl, rfl, rfl⟩)), by show List.length _ ≤ n; rw [List.length_append, List.length_singleton]; omega⟩, by show _ - (i + 1) < _; omega⟩)
          | (refine W.reach (D := [_]) (i + 1, ts ++ [⟨3, [], [], false, tx⟩], v96) ⟨rfl, rfl, rfl, rfl, trivial⟩ (by rw [List.map_append]; exact List.Perm.swap _ _ []) ⟨⟨by show i + 1 ≤ _; omega, Tk.drawns_snoc hi2 (fun _ => h53) (.inr (.inr ⟨rfl, rfl, rfl, rfl, mtx⟩)), by show List.length _ ≤ n; rw [List.length_append, List.length_singleton]; omega⟩, by show _ - (i + 1) < _; omega⟩)
          | (refine W.reach (D := [_]) (i + 1, ts ++ [⟨1, nm, ats, IntKind.i64.wrap (x.tdiv 20) % 2 == 0, []⟩], v96) ⟨rfl, rfl, rfl, rfl, trivial⟩ (by rw [List.map_append]; exact List.Perm.swap _ _ []) ⟨⟨by show i + 1 ≤ _; omega, Tk.drawns_snoc hi2 (fun (h : (1 : Int) = 3) => absurd h (by decide)) (.inl ⟨rfl, mnm, ⟨by rw [hk2]; exact hk3, hk4⟩, rfl⟩), by show List.length _ ≤ n; rw [List.length_append, List.length_singleton]; omega⟩, by show _ - (i + 1) < _; omega⟩)
          | (refine W.reach (D := [_]) (i + 1, ts ++ [⟨1, nm, [], false, []⟩], v96) ⟨rfl, rfl, rfl, rfl, trivial⟩ (by rw [List.map_append]; exact List.Perm.swap _ _ []) ⟨⟨by show i + 1 ≤ _; omega, Tk.drawns_snoc hi2 (fun (h : (1 : Int) = 3) => absurd h (by decide)) (.inl ⟨rfl, mnm, ⟨rfl, by simp⟩, rfl⟩), by show List.length _ ≤ n; rw [List.length_append, List.length_singleton]; omega⟩, by show _ - (i + 1) < _; omega⟩)
        · have h53 := Tk.lastK_of ts hc_t53
          refine W.skip ?_
          refine W.then ?_
          refine W.region ?_
          obtain ⟨tx, mtx, h58⟩ := pick_mod Tk.tx7 (IntKind.i64.wrap (x.tdiv 4)) 7 rfl (by decide)
          refine W.bs (es := [_, _, _, _, _, _, _]) Tryd.underlying35 ty9 ⟨rfl, .k, rfl, rfl, rfl, .k, rfl, rfl, rfl, .k, rfl, rfl, rfl, .k, rfl, rfl, rfl, .k, rfl, rfl, rfl, .k, rfl, rfl, rfl, .k, rfl, rfl, trivial⟩ rfl (by decide) rfl rfl ?_
          refine W.q (Ev.move (.t rfl)) rfl ?_
          first | refine W.q (Ev.quo (.t rfl) .k (fun _ => by decide)) rfl ?_ | refine W.q (Ev.quo (.t rfl) .k (fun _ => by omega)) rfl ?_
          refine W.callp (Base.c_Picked (IntKind.i64.wrap (x.tdiv 4)) 7 (by decide) (by decide)) ⟨(.t rfl), .k, trivial⟩ rfl ?_
          refine W.q (Ev.at (E := 9) (.t rfl) (.t rfl) Tryd.underlying35 ty9 (fun _ => ⟨Int.emod_nonneg _ (by decide), h58⟩) rfl rfl) rfl ?_
          first | refine W.q (Ev.lde1 (.t rfl) ag9) rfl ?_ | refine W.q (Ev.ldb1 0 (.t rfl) rfl ag9 rfl) rfl ?_ | refine W.q (Ev.ldb1 1 (.t rfl) rfl ag9 rfl) rfl ?_ | refine W.q (Ev.ldb1 2 (.t rfl) rfl ag9 rfl) rfl ?_ | refine W.q (Ev.ldb1 3 (.t rfl) rfl ag9 rfl) rfl ?_
          refine W.q (Ev.build ty28 st28 rfl (fun hg => ⟨_, _, _, rfl, .k, rfl, rfl, rfl, _, _, _, rfl, (.t rfl), rfl, rfl, rfl, rfl⟩)) rfl ?_
          first | refine W.stb 0 (.t rfl) (.t rfl) rfl ty28 rfl rfl rfl ?_ | refine W.stb 1 (.t rfl) (.t rfl) rfl ty28 rfl rfl rfl ?_ | refine W.stb 2 (.t rfl) (.t rfl) rfl ty28 rfl rfl rfl ?_ | refine W.stb 3 (.t rfl) (.t rfl) rfl ty28 rfl rfl rfl ?_
          refine W.nil ?_
          refine W.blk_normal ?_
          refine W.then ?_
          refine W.region ?_
          refine W.q (Ev.move (.t rfl)) rfl ?_
          first | refine W.q (Ev.lden (.t rfl) ag28 ty28 rfl rfl) rfl ?_ | refine W.q (Ev.ldbn 0 (.t rfl) rfl ag28 ty28 rfl) rfl ?_ | refine W.q (Ev.ldbn 1 (.t rfl) rfl ag28 ty28 rfl) rfl ?_ | refine W.q (Ev.ldbn 2 (.t rfl) rfl ag28 ty28 rfl) rfl ?_ | refine W.q (Ev.ldbn 3 (.t rfl) rfl ag28 ty28 rfl) rfl ?_
          first | refine W.nils (t := 94) (g := true) (cs' := [_, _, .sl 2 [], _, _]) rfl ⟨.inl rfl, .inl rfl, .inr ⟨rfl, 2, rfl⟩, .inl rfl, .inl rfl, trivial⟩ ?_ | skip
          refine W.bs (es := [_]) Tryd.underlying23 ty28 ⟨rfl, (.t rfl), rfl, rfl, trivial⟩ rfl (by decide) rfl rfl ?_
          first | refine W.app 0 (.t rfl) rfl (.sl (.t rfl) (by first | (simp [AV.okc, shV]; done) | (intro e he; rw [List.mem_singleton.1 he]; rfl))) Tryd.underlying23 ni23 ty28 rfl rfl (by simp only [List.length_map, List.length_cons, List.length_nil]; omega) rfl ?_ | refine W.app 1 (.t rfl) rfl (.sl (.t rfl) (by first | (simp [AV.okc, shV]; done) | (intro e he; rw [List.mem_singleton.1 he]; rfl))) Tryd.underlying23 ni23 ty28 rfl rfl (by simp only [List.length_map, List.length_cons, List.length_nil]; omega) rfl ?_ | refine W.app 2 (.t rfl) rfl (.sl (.t rfl) (by first | (simp [AV.okc, shV]; done) | (intro e he; rw [List.mem_singleton.1 he]; rfl))) Tryd.underlying23 ni23 ty28 rfl rfl (by simp only [List.length_map, List.length_cons, List.length_nil]; omega) rfl ?_ | refine W.app 3 (.t rfl) rfl (.sl (.t rfl) (by first | (simp [AV.okc, shV]; done) | (intro e he; rw [List.mem_singleton.1 he]; rfl))) Tryd.underlying23 ni23 ty28 rfl rfl (by simp only [List.length_map, List.length_cons, List.length_nil]; omega) rfl ?_ | refine W.app 0 (.t rfl) rfl (.arr 0 (.t rfl) rfl (by first | (simp [AV.okc, shV]; done) | (intro e he; rw [List.mem_singleton.1 he]; rfl))) Tryd.underlying23 ni23 ty28 rfl rfl (by simp only [List.length_map, List.length_cons, List.length_nil]; omega) rfl ?_ | refine W.app 0 (.t rfl) rfl (.arr 1 (.t rfl) rfl (by first | (simp [AV.okc, shV]; done) | (intro e he; rw [List.mem_singleton.1 he]; rfl))) Tryd.underlying23 ni23 ty28 rfl rfl (by simp only [List.length_map, List.length_cons, List.length_nil]; omega) rfl ?_ | refine W.app 0 (.t rfl) rfl (.arr 2 (.t rfl) rfl (by first | (simp [AV.okc, shV]; done) | (intro e he; rw [List.mem_singleton.1 he]; rfl))) Tryd.underlying23 ni23 ty28 rfl rfl (by simp only [List.length_map, List.length_cons, List.length_nil]; omega) rfl ?_ | refine W.app 0 (.t rfl) rfl (.arr 3 (.t rfl) rfl (by first | (simp [AV.okc, shV]; done) | (intro e he; rw [List.mem_singleton.1 he]; rfl))) Tryd.underlying23 ni23 ty28 rfl rfl (by simp only [List.length_map, List.length_cons, List.length_nil]; omega) rfl ?_ | refine W.app 1 (.t rfl) rfl (.arr 0 (.t rfl) rfl (by first | (simp [AV.okc, shV]; done) | (intro e he; rw [List.mem_singleton.1 he]; rfl))) Tryd.underlying23 ni23 ty28 rfl rfl (by simp only [List.length_map, List.length_cons, List.length_nil]; omega) rfl ?_ | refine W.app 1 (.t rfl) rfl (.arr 1 (.t rfl) rfl (by first | (simp [AV.okc, shV]; done) | (intro e he; rw [List.mem_singleton.1 he]; rfl))) Tryd.underlying23 ni23 ty28 rfl rfl (by simp only [List.length_map, List.length_cons, List.length_nil]; omega) rfl ?_ | refine W.app 1 (.t rfl) rfl (.arr 2 (.t rfl) rfl (by first | (simp [AV.okc, shV]; done) | (intro e he; rw [List.mem_singleton.1 he]; rfl))) Tryd.underlying23 ni23 ty28 rfl rfl (by simp only [List.length_map, List.length_cons, List.length_nil]; omega) rfl ?_ | refine W.app 1 (.t rfl) rfl (.arr 3 (.t rfl) rfl (by first | (simp [AV.okc, shV]; done) | (intro e he; rw [List.mem_singleton.1 he]; rfl))) Tryd.underlying23 ni23 ty28 rfl rfl (by simp only [List.length_map, List.length_cons, List.length_nil]; omega) rfl ?_ | refine W.app 2 (.t rfl) rfl (.arr 0 (.t rfl) rfl (by first | (simp [AV.okc, shV]; done) | (intro e he; rw [List.mem_singleton.1 he]; rfl))) Tryd.underlying23 ni23 ty28 rfl rfl (by simp only [List.length_map, List.length_cons, List.length_nil]; omega) rfl ?_ | refine W.app 2 (.t rfl) rfl (.arr 1 (.t rfl) rfl (by first | (simp [AV.okc, shV]; done) | (intro e he; rw [List.mem_singleton.1 he]; rfl))) Tryd.underlying23 ni23 ty28 rfl rfl (by simp only [List.length_map, List.length_cons, List.length_nil]; omega) rfl ?_ | refine W.app 2 (.t rfl) rfl (.arr 2 (.t rfl) rfl (by first | (simp [AV.okc, shV]; done) | (intro e he; rw [List.mem_singleton.1 he]; rfl))) Tryd.underlying23 ni23 ty28 rfl rfl (by simp only [List.length_map, List.length_cons, List.length_nil]; omega) rfl ?_ | refine W.app 2 (.t rfl) rfl (.arr 3 (.t rfl) rfl (by first | (simp [AV.okc, shV]; done) | (intro e he; rw [List.mem_singleton.1 he]; rfl))) Tryd.underlying23 ni23 ty28 rfl rfl (by simp only [List.length_map, List.length_cons, List.length_nil]; omega) rfl ?_ | refine W.app 3 (.t rfl) rfl (.arr 0 (.t rfl) rfl (by first | (simp [AV.okc, shV]; done) | (intro e he; rw [List.mem_singleton.1 he]; rfl))) Tryd.underlying23 ni23 ty28 rfl rfl (by simp only [List.length_map, List.length_cons, List.length_nil]; omega) rfl ?_ | refine W.app 3 (.t rfl) rfl (.arr 1 (.t rfl) rfl (by first | (simp [AV.okc, shV]; done) | (intro e he; rw [List.mem_singleton.1 he]; rfl))) Tryd.underlying23 ni23 ty28 rfl rfl (by simp only [List.length_map, List.length_cons, List.length_nil]; omega) rfl ?_ | refine W.app 3 (.t rfl) rfl (.arr 2 (.t rfl) rfl (by first | (simp [AV.okc, shV]; done) | (intro e he; rw [List.mem_singleton.1 he]; rfl))) Tryd.underlying23 ni23 ty28 rfl rfl (by simp only [List.length_map, List.length_cons, List.length_nil]; omega) rfl ?_ | refine W.app 3 (.t rfl) rfl (.arr 3 (.t rfl) rfl (by first | (simp [AV.okc, shV]; done) | (intro e he; rw [List.mem_singleton.1 he]; rfl))) Tryd.underlying23 ni23 ty28 rfl rfl (by simp only [List.length_map, List.length_cons, List.length_nil]; omega) rfl ?_
          intro v96
          refine W.q (Ev.assign (.t rfl)) rfl ?_
          refine W.nil ?_
          refine W.blk_normal ?_
          refine W.then ?_
          refine W.region ?_
          refine W.q (Ev.move (.t rfl)) rfl ?_
          first | refine W.q (Ev.add (.t rfl) .k (fun _ => by omega)) rfl ?_ | refine W.q (Ev.addw (.t rfl) .k) rfl ?_
          refine W.q (Ev.assign (.t rfl)) rfl ?_
          refine W.nil ?_
          refine W.then ?_
          first
          | (refine W.reach (D := [_]) (i + 1, ts, v) ⟨rfl, rfl, rfl, rfl, trivial⟩ (List.Perm.swap _ _ []) ⟨⟨by show i + 1 ≤ _; omega, hi2, hi3⟩, by show _ - (i + 1) < _; omega⟩)
          | (refine W.reach (D := [_]) (i + 1, ts ++ [⟨2, nm, [], false, []⟩], v96) ⟨rfl, rfl, rfl, rfl, trivial⟩ (by rw [List.map_append]; exact List.Perm.swap _ _ []) ⟨⟨by show i + 1 ≤ _; omega, Tk.drawns_snoc hi2 (fun (h : (2 : Int) = 3) => absurd h (by decide)) (.inr (.inl ⟨rfl, mnm, rfl, rfl, rfl⟩)), by show List.length _ ≤ n; rw [List.length_append, List.length_singleton]; omega⟩, by show _ - (i + 1) < _; omega⟩)
          | (refine W.reach (D := [_]) (i + 1, ts ++ [⟨3, [], [], false, tx⟩], v96) ⟨rfl, rfl, rfl, rfl, trivial⟩ (by rw [List.map_append]; exact List.Perm.swap _ _ []) ⟨⟨by show i + 1 ≤ _; omega, Tk.drawns_snoc hi2 (fun _ => h53) (.inr (.inr ⟨rfl, rfl, rfl, rfl, mtx⟩)), by show List.length _ ≤ n; rw [List.length_append, List.length_singleton]; omega⟩, by show _ - (i + 1) < _; omega⟩)
          | (refine W.reach (D := [_]) (i + 1, ts ++ [⟨1, nm, ats, IntKind.i64.wrap (x.tdiv 20) % 2 == 0, []⟩], v96) ⟨rfl, rfl, rfl, rfl, trivial⟩ (by rw [List.map_append]; exact List.Perm.swap _ _ []) ⟨⟨by show i + 1 ≤ _; omega, Tk.drawns_snoc hi2 (fun (h : (1 : Int) = 3) => absurd h (by decide)) (.inl ⟨rfl, mnm, ⟨by rw [hk2]; exact hk3, hk4⟩, rfl⟩), by show List.length _ ≤ n; rw [List.length_append, List.length_singleton]; omega⟩, by show _ - (i + 1) < _; omega⟩)
          | (refine W.reach (D := [_]) (i + 1, ts ++ [⟨1, nm, [], false, []⟩], v96) ⟨rfl, rfl, rfl, rfl, trivial⟩ (by rw [List.map_append]; exact List.Perm.swap _ _ []) ⟨⟨by show i + 1 ≤ _; omega, Tk.drawns_snoc hi2 (fun (h : (1 : Int) = 3) => absurd h (by decide)) (.inl ⟨rfl, mnm, ⟨rfl, by simp⟩, rfl⟩), by show List.length _ ≤ n; rw [List.length_append, List.length_singleton]; omega⟩, by show _ - (i + 1) < _; omega⟩)
      · refine W.seq ?_
        refine W.region ?_
        refine W.q (Ev.eqi (.t rfl) .k) rfl ?_
        refine W.q (Ev.assign (.t rfl)) rfl ?_
        refine W.nil ?_
        refine W.then ?_
        refine W.cond (.t rfl) (fun hc_t61 => ?_) (fun hc_t61 => ?_)
        · refine W.seq ?_
          refine W.region ?_
          refine W.q (Ev.move (.t rfl)) rfl ?_
          first | refine W.q (Ev.quo (.t rfl) .k (fun _ => by decide)) rfl ?_ | refine W.q (Ev.quo (.t rfl) .k (fun _ => by omega)) rfl ?_
          refine W.callp (Base.c_Picked (IntKind.i64.wrap (x.tdiv 20)) 2 (by decide) (by decide)) ⟨(.t rfl), .k, trivial⟩ rfl ?_
          refine W.q (Ev.eqi (.t rfl) .k) rfl ?_
          first | refine W.q (Ev.fae (.t rfl) fa28_3 rfl) rfl ?_ | refine W.q (Ev.fab (.t rfl) fa28_3) rfl ?_ | refine W.q (Ev.faa (.t rfl) fa28_3) rfl ?_
          first | refine W.stb 0 (.t rfl) (.t rfl) rfl ty4 rfl rfl rfl ?_ | refine W.stb 1 (.t rfl) (.t rfl) rfl ty4 rfl rfl rfl ?_ | refine W.stb 2 (.t rfl) (.t rfl) rfl ty4 rfl rfl rfl ?_ | refine W.stb 3 (.t rfl) (.t rfl) rfl ty4 rfl rfl rfl ?_
          refine W.nil ?_
          refine W.then ?_
          refine W.seq ?_
          refine W.region ?_
          refine W.q (Ev.assign .k) rfl ?_
          refine W.nil ?_
          refine W.own_nil 37 2 ?_
          refine W.perm (List.Perm.swap _ _ _) ?_
          refine W.then ?_
          refine W.block ?_
          refine W.loop (D := []) (ι := Nat × List Dc × Value) (fun z => [(10, true, .int (z.1 : Int)), (8, true, .lit (.pointer (some ⟨b8, 0, none⟩))), (7, true, .int x), (6, true, .int (i : Int)), (0, true, .sl 1 (l.map AV.int)), (1, true, .int (n : Int)), (5, true, .lit v)]) (fun z => [.box b8 28 [.int 1, .str nm, .lit z.2.2, .bool (IntKind.i64.wrap (x.tdiv 20) % 2 == 0), .lit (.string ⟨#[]⟩)], .arr z.2.2 37 2 (z.2.1.map dav), .arr v 28 5 (ts.map tav)]) (fun z => z.1 ≤ 2 ∧ z.2.1.length = z.1 ∧ z.2.1.map (·.1) = Tk.at2.take z.1 ∧ ∀ a ∈ z.2.1, a.2 ∈ Tk.vl6) (fun z => 2 - z.1) (0, [], .slice none 0 0) ⟨rfl, rfl, rfl, rfl, rfl, rfl, rfl, trivial⟩ (.refl _) ⟨Nat.zero_le _, rfl, rfl, by simp⟩ ?_
          rintro ⟨k, ats, va⟩ ⟨hk1, hk2, hk3, hk4⟩
          dsimp only at hk1 hk2 hk3 hk4 ⊢
          have hm3 := Int.emod_lt_of_pos (IntKind.i64.wrap (x.tdiv 40)) (show (0 : Int) < 3 by decide)
          rcases (show ((k : Int) < IntKind.i64.wrap (x.tdiv 40) % 3) ∨ ¬ ((k : Int) < IntKind.i64.wrap (x.tdiv 40) % 3) from by omega) with hltk | hgek
          · have hgn := getD_mapG AV.str [] Tk.at2 k (show k < 2 by omega)
            have hnt := take_getDG [] Tk.at2 k (show k < 2 by omega)
            generalize Tk.at2.getD k [] = an at hgn hnt
            obtain ⟨s87, m87, h87⟩ := pick_mod Tk.vl6 (IntKind.i64.wrap (x.tdiv (80 + (k : Int)))) 6 rfl (by decide)
            have hal : (ats.map dav).length = ats.length := List.length_map ..
            refine W.seq ?_
            refine W.seq ?_
            refine W.region ?_
            refine W.q (Ev.move (.t rfl)) rfl ?_
            refine W.q (Ev.move (.t rfl)) rfl ?_
            first | refine W.q (Ev.quo (.t rfl) .k (fun _ => by decide)) rfl ?_ | refine W.q (Ev.quo (.t rfl) .k (fun _ => by omega)) rfl ?_
            refine W.callp (Base.c_Picked (IntKind.i64.wrap (x.tdiv 40)) 3 (by decide) (by decide)) ⟨(.t rfl), .k, trivial⟩ rfl ?_
            refine W.q (Ev.lti (.t rfl) (.t rfl)) rfl ?_
            refine W.nil ?_
            refine W.then ?_
            refine W.is (t := 72) (g := true) (av' := .lit (.bool true)) rfl (congrArg (fun b => AV.lit (.bool b)) (by exact decide_eq_true hltk)) ?_
            refine W.condT (.t rfl) ?_
            refine W.skip ?_
            refine W.then ?_
            refine W.seq ?_
            refine W.block ?_
            refine W.drawnE (ι := Value) (fun ee c => [.box b8 28 (bif ee 18 then [.int 1, .str nm, .lit c, .bool (IntKind.i64.wrap (x.tdiv 20) % 2 == 0), .lit (.string ⟨#[]⟩)] else [.int 1, .str nm, .lit va, .bool (IntKind.i64.wrap (x.tdiv 20) % 2 == 0), .lit (.string ⟨#[]⟩)]), bif ee 16 then .arr c 37 2 (ats.map dav ++ [dav (an, s87)]) else .arr va 37 2 (ats.map dav), .arr v 28 5 (ts.map tav)]) 16 va (by kernel_rfl) (by kernel_rfl) rfl ?_
            first | refine DE.q (fun e c hk => (Ev.fae (.t rfl) fa28_2 rfl)) rfl (fun _ _ => rfl) (by first | exact .inr (fun _ _ => rfl) | exact .inl (by kernel_rfl)) ?_ | refine DE.q (fun e c hk => (Ev.fab (.t rfl) fa28_2)) rfl (fun _ _ => rfl) (by first | exact .inr (fun _ _ => rfl) | exact .inl (by kernel_rfl)) ?_ | refine DE.q (fun e c hk => (Ev.faa (.t rfl) fa28_2)) rfl (fun _ _ => rfl) (by first | exact .inr (fun _ _ => rfl) | exact .inl (by kernel_rfl)) ?_
            refine DE.q (av := fun _ => .lit va) (fun e c hk => by have h := hk.down 18 (by kernel_rfl); simp only [h, cond_false]; exact Ev.ldb1 0 (.t rfl) rfl ag26 rfl) rfl (fun _ _ => rfl) (by first | exact .inr (fun _ _ => rfl) | exact .inl (by kernel_rfl)) ?_
            refine DE.bs (es := fun _ => [_, _]) Tryd.underlying35 ty9 (fun c => ⟨rfl, .k, rfl, rfl, rfl, .k, rfl, rfl, trivial⟩) (fun _ => rfl) (by decide) rfl rfl (fun _ _ => rfl) (by first | exact .inr (fun _ _ => rfl) | exact .inl (by kernel_rfl)) ?_
            refine DE.q (fun e c hk => (Ev.move (.t rfl))) rfl (fun _ _ => rfl) (by first | exact .inr (fun _ _ => rfl) | exact .inl (by kernel_rfl)) ?_
            refine DE.q (fun e c hk => Ev.at (E := 9) (.t rfl) (.t rfl) Tryd.underlying35 ty9 (fun _ => ⟨by omega, hgn⟩) rfl rfl) rfl (fun _ _ => rfl) (by first | exact .inr (fun _ _ => rfl) | exact .inl (by kernel_rfl)) ?_
            first | refine DE.q (fun e c hk => (Ev.lde1 (.t rfl) ag9)) rfl (fun _ _ => rfl) (by first | exact .inr (fun _ _ => rfl) | exact .inl (by kernel_rfl)) ?_ | refine DE.q (fun e c hk => (Ev.ldb1 0 (.t rfl) rfl ag9 rfl)) rfl (fun _ _ => rfl) (by first | exact .inr (fun _ _ => rfl) | exact .inl (by kernel_rfl)) ?_ | refine DE.q (fun e c hk => (Ev.ldb1 1 (.t rfl) rfl ag9 rfl)) rfl (fun _ _ => rfl) (by first | exact .inr (fun _ _ => rfl) | exact .inl (by kernel_rfl)) ?_ | refine DE.q (fun e c hk => (Ev.ldb1 2 (.t rfl) rfl ag9 rfl)) rfl (fun _ _ => rfl) (by first | exact .inr (fun _ _ => rfl) | exact .inl (by kernel_rfl)) ?_ | refine DE.q (fun e c hk => (Ev.ldb1 3 (.t rfl) rfl ag9 rfl)) rfl (fun _ _ => rfl) (by first | exact .inr (fun _ _ => rfl) | exact .inl (by kernel_rfl)) ?_
            refine DE.bs (es := fun _ => [_, _, _, _, _, _]) Tryd.underlying35 ty9 (fun c => ⟨rfl, .k, rfl, rfl, rfl, .k, rfl, rfl, rfl, .k, rfl, rfl, rfl, .k, rfl, rfl, rfl, .k, rfl, rfl, rfl, .k, rfl, rfl, trivial⟩) (fun _ => rfl) (by decide) rfl rfl (fun _ _ => rfl) (by first | exact .inr (fun _ _ => rfl) | exact .inl (by kernel_rfl)) ?_
            refine DE.q (fun e c hk => (Ev.move (.t rfl))) rfl (fun _ _ => rfl) (by first | exact .inr (fun _ _ => rfl) | exact .inl (by kernel_rfl)) ?_
            refine DE.q (fun e c hk => (Ev.move (.t rfl))) rfl (fun _ _ => rfl) (by first | exact .inr (fun _ _ => rfl) | exact .inl (by kernel_rfl)) ?_
            first | refine DE.q (fun e c hk => (Ev.add .k (.t rfl) (fun _ => by omega))) rfl (fun _ _ => rfl) (by first | exact .inr (fun _ _ => rfl) | exact .inl (by kernel_rfl)) ?_ | refine DE.q (fun e c hk => (Ev.addw .k (.t rfl))) rfl (fun _ _ => rfl) (by first | exact .inr (fun _ _ => rfl) | exact .inl (by kernel_rfl)) ?_
            first | refine DE.q (fun e c hk => (Ev.quo (.t rfl) (.t rfl) (fun _ => by decide))) rfl (fun _ _ => rfl) (by first | exact .inr (fun _ _ => rfl) | exact .inl (by kernel_rfl)) ?_ | refine DE.q (fun e c hk => (Ev.quo (.t rfl) (.t rfl) (fun _ => by omega))) rfl (fun _ _ => rfl) (by first | exact .inr (fun _ _ => rfl) | exact .inl (by kernel_rfl)) ?_
            refine DE.callp (fun c => Base.c_Picked (IntKind.i64.wrap (x.tdiv (80 + (k : Int)))) 6 (by decide) (by decide)) (fun c => ⟨(.t rfl), .k, trivial⟩) rfl (fun _ _ => rfl) (by first | exact .inr (fun _ _ => rfl) | exact .inl (by kernel_rfl)) ?_
            refine DE.q (fun e c hk => Ev.at (E := 9) (.t rfl) (.t rfl) Tryd.underlying35 ty9 (fun _ => ⟨Int.emod_nonneg _ (by decide), h87⟩) rfl rfl) rfl (fun _ _ => rfl) (by first | exact .inr (fun _ _ => rfl) | exact .inl (by kernel_rfl)) ?_
            first | refine DE.q (fun e c hk => (Ev.lde1 (.t rfl) ag9)) rfl (fun _ _ => rfl) (by first | exact .inr (fun _ _ => rfl) | exact .inl (by kernel_rfl)) ?_ | refine DE.q (fun e c hk => (Ev.ldb1 0 (.t rfl) rfl ag9 rfl)) rfl (fun _ _ => rfl) (by first | exact .inr (fun _ _ => rfl) | exact .inl (by kernel_rfl)) ?_ | refine DE.q (fun e c hk => (Ev.ldb1 1 (.t rfl) rfl ag9 rfl)) rfl (fun _ _ => rfl) (by first | exact .inr (fun _ _ => rfl) | exact .inl (by kernel_rfl)) ?_ | refine DE.q (fun e c hk => (Ev.ldb1 2 (.t rfl) rfl ag9 rfl)) rfl (fun _ _ => rfl) (by first | exact .inr (fun _ _ => rfl) | exact .inl (by kernel_rfl)) ?_ | refine DE.q (fun e c hk => (Ev.ldb1 3 (.t rfl) rfl ag9 rfl)) rfl (fun _ _ => rfl) (by first | exact .inr (fun _ _ => rfl) | exact .inl (by kernel_rfl)) ?_
            refine DE.q (fun e c hk => (Ev.build ty37 st37 rfl (fun hg => ⟨_, _, _, rfl, (.t rfl), rfl, rfl, rfl, _, _, _, rfl, (.t rfl), rfl, rfl, rfl, rfl⟩))) rfl (fun _ _ => rfl) (by first | exact .inr (fun _ _ => rfl) | exact .inl (by kernel_rfl)) ?_
            refine DE.bs (es := fun _ => [_]) Tryd.underlying26 ty37 (fun c => ⟨rfl, (.t rfl), rfl, rfl, trivial⟩) (fun _ => rfl) (by decide) rfl rfl (fun _ _ => rfl) (by first | exact .inr (fun _ _ => rfl) | exact .inl (by kernel_rfl)) ?_
            refine DE.eff1 (av := fun v => .lit v) rfl rfl (fun e c hk L_ hs Q h => ?_) ?_
            · have hk_16 := hk.not
              have hk_18 := hk.down 18 (by kernel_rfl)
              simp only [addE, hk_16, hk_18, Nat.reduceAdd, Nat.reduceEqDiff, ↓reduceIte, cond_true, cond_false] at h ⊢
              first | (refine W.app 0 (.t (hs _ _ rfl)) rfl (.sl (.t (hs _ _ rfl)) (by first | (simp [AV.okc, shV]; done) | (intro e he; rw [List.mem_singleton.1 he]; rfl))) Tryd.underlying26 ni26 ty37 rfl rfl (by simp only [List.length_map, List.length_cons, List.length_nil]; omega) rfl ?_; exact h) | (refine W.app 1 (.t (hs _ _ rfl)) rfl (.sl (.t (hs _ _ rfl)) (by first | (simp [AV.okc, shV]; done) | (intro e he; rw [List.mem_singleton.1 he]; rfl))) Tryd.underlying26 ni26 ty37 rfl rfl (by simp only [List.length_map, List.length_cons, List.length_nil]; omega) rfl ?_; exact h) | (refine W.app 2 (.t (hs _ _ rfl)) rfl (.sl (.t (hs _ _ rfl)) (by first | (simp [AV.okc, shV]; done) | (intro e he; rw [List.mem_singleton.1 he]; rfl))) Tryd.underlying26 ni26 ty37 rfl rfl (by simp only [List.length_map, List.length_cons, List.length_nil]; omega) rfl ?_; exact h) | (refine W.app 3 (.t (hs _ _ rfl)) rfl (.sl (.t (hs _ _ rfl)) (by first | (simp [AV.okc, shV]; done) | (intro e he; rw [List.mem_singleton.1 he]; rfl))) Tryd.underlying26 ni26 ty37 rfl rfl (by simp only [List.length_map, List.length_cons, List.length_nil]; omega) rfl ?_; exact h) | (refine W.app 0 (.t (hs _ _ rfl)) rfl (.arr 0 (.t (hs _ _ rfl)) rfl (by first | (simp [AV.okc, shV]; done) | (intro e he; rw [List.mem_singleton.1 he]; rfl))) Tryd.underlying26 ni26 ty37 rfl rfl (by simp only [List.length_map, List.length_cons, List.length_nil]; omega) rfl ?_; exact h) | (refine W.app 1 (.t (hs _ _ rfl)) rfl (.arr 0 (.t (hs _ _ rfl)) rfl (by first | (simp [AV.okc, shV]; done) | (intro e he; rw [List.mem_singleton.1 he]; rfl))) Tryd.underlying26 ni26 ty37 rfl rfl (by simp only [List.length_map, List.length_cons, List.length_nil]; omega) rfl ?_; exact h) | (refine W.app 2 (.t (hs _ _ rfl)) rfl (.arr 0 (.t (hs _ _ rfl)) rfl (by first | (simp [AV.okc, shV]; done) | (intro e he; rw [List.mem_singleton.1 he]; rfl))) Tryd.underlying26 ni26 ty37 rfl rfl (by simp only [List.length_map, List.length_cons, List.length_nil]; omega) rfl ?_; exact h) | (refine W.app 3 (.t (hs _ _ rfl)) rfl (.arr 0 (.t (hs _ _ rfl)) rfl (by first | (simp [AV.okc, shV]; done) | (intro e he; rw [List.mem_singleton.1 he]; rfl))) Tryd.underlying26 ni26 ty37 rfl rfl (by simp only [List.length_map, List.length_cons, List.length_nil]; omega) rfl ?_; exact h) | (refine W.app 0 (.t (hs _ _ rfl)) rfl (.arr 1 (.t (hs _ _ rfl)) rfl (by first | (simp [AV.okc, shV]; done) | (intro e he; rw [List.mem_singleton.1 he]; rfl))) Tryd.underlying26 ni26 ty37 rfl rfl (by simp only [List.length_map, List.length_cons, List.length_nil]; omega) rfl ?_; exact h) | (refine W.app 1 (.t (hs _ _ rfl)) rfl (.arr 1 (.t (hs _ _ rfl)) rfl (by first | (simp [AV.okc, shV]; done) | (intro e he; rw [List.mem_singleton.1 he]; rfl))) Tryd.underlying26 ni26 ty37 rfl rfl (by simp only [List.length_map, List.length_cons, List.length_nil]; omega) rfl ?_; exact h) | (refine W.app 2 (.t (hs _ _ rfl)) rfl (.arr 1 (.t (hs _ _ rfl)) rfl (by first | (simp [AV.okc, shV]; done) | (intro e he; rw [List.mem_singleton.1 he]; rfl))) Tryd.underlying26 ni26 ty37 rfl rfl (by simp only [List.length_map, List.length_cons, List.length_nil]; omega) rfl ?_; exact h) | (refine W.app 3 (.t (hs _ _ rfl)) rfl (.arr 1 (.t (hs _ _ rfl)) rfl (by first | (simp [AV.okc, shV]; done) | (intro e he; rw [List.mem_singleton.1 he]; rfl))) Tryd.underlying26 ni26 ty37 rfl rfl (by simp only [List.length_map, List.length_cons, List.length_nil]; omega) rfl ?_; exact h) | (refine W.app 0 (.t (hs _ _ rfl)) rfl (.arr 2 (.t (hs _ _ rfl)) rfl (by first | (simp [AV.okc, shV]; done) | (intro e he; rw [List.mem_singleton.1 he]; rfl))) Tryd.underlying26 ni26 ty37 rfl rfl (by simp only [List.length_map, List.length_cons, List.length_nil]; omega) rfl ?_; exact h) | (refine W.app 1 (.t (hs _ _ rfl)) rfl (.arr 2 (.t (hs _ _ rfl)) rfl (by first | (simp [AV.okc, shV]; done) | (intro e he; rw [List.mem_singleton.1 he]; rfl))) Tryd.underlying26 ni26 ty37 rfl rfl (by simp only [List.length_map, List.length_cons, List.length_nil]; omega) rfl ?_; exact h) | (refine W.app 2 (.t (hs _ _ rfl)) rfl (.arr 2 (.t (hs _ _ rfl)) rfl (by first | (simp [AV.okc, shV]; done) | (intro e he; rw [List.mem_singleton.1 he]; rfl))) Tryd.underlying26 ni26 ty37 rfl rfl (by simp only [List.length_map, List.length_cons, List.length_nil]; omega) rfl ?_; exact h) | (refine W.app 3 (.t (hs _ _ rfl)) rfl (.arr 2 (.t (hs _ _ rfl)) rfl (by first | (simp [AV.okc, shV]; done) | (intro e he; rw [List.mem_singleton.1 he]; rfl))) Tryd.underlying26 ni26 ty37 rfl rfl (by simp only [List.length_map, List.length_cons, List.length_nil]; omega) rfl ?_; exact h) | (refine W.app 0 (.t (hs _ _ rfl)) rfl (.arr 3 (.t (hs _ _ rfl)) rfl (by first | (simp [AV.okc, shV]; done) | (intro e he; rw [List.mem_singleton.1 he]; rfl))) Tryd.underlying26 ni26 ty37 rfl rfl (by simp only [List.length_map, List.length_cons, List.length_nil]; omega) rfl ?_; exact h) | (refine W.app 1 (.t (hs _ _ rfl)) rfl (.arr 3 (.t (hs _ _ rfl)) rfl (by first | (simp [AV.okc, shV]; done) | (intro e he; rw [List.mem_singleton.1 he]; rfl))) Tryd.underlying26 ni26 ty37 rfl rfl (by simp only [List.length_map, List.length_cons, List.length_nil]; omega) rfl ?_; exact h) | (refine W.app 2 (.t (hs _ _ rfl)) rfl (.arr 3 (.t (hs _ _ rfl)) rfl (by first | (simp [AV.okc, shV]; done) | (intro e he; rw [List.mem_singleton.1 he]; rfl))) Tryd.underlying26 ni26 ty37 rfl rfl (by simp only [List.length_map, List.length_cons, List.length_nil]; omega) rfl ?_; exact h) | (refine W.app 3 (.t (hs _ _ rfl)) rfl (.arr 3 (.t (hs _ _ rfl)) rfl (by first | (simp [AV.okc, shV]; done) | (intro e he; rw [List.mem_singleton.1 he]; rfl))) Tryd.underlying26 ni26 ty37 rfl rfl (by simp only [List.length_map, List.length_cons, List.length_nil]; omega) rfl ?_; exact h)
            first | refine DE.q (fun e c hk => (Ev.fae (.t rfl) fa28_2 rfl)) rfl (fun _ _ => rfl) (by first | exact .inr (fun _ _ => rfl) | exact .inl (by kernel_rfl)) ?_ | refine DE.q (fun e c hk => (Ev.fab (.t rfl) fa28_2)) rfl (fun _ _ => rfl) (by first | exact .inr (fun _ _ => rfl) | exact .inl (by kernel_rfl)) ?_ | refine DE.q (fun e c hk => (Ev.faa (.t rfl) fa28_2)) rfl (fun _ _ => rfl) (by first | exact .inr (fun _ _ => rfl) | exact .inl (by kernel_rfl)) ?_
            refine DE.eff0 (fun e c hk L_ hs Q h => ?_) ?_
            · have hk_18 := hk.not
              have hk_16 := hk.up 16 (by kernel_rfl)
              simp only [addE, hk_18, hk_16, Nat.reduceEqDiff, ↓reduceIte, cond_true, cond_false] at h ⊢
              refine W.arr_inv 1 rfl (fun a9 n9 c9 h9 => ?_)
              subst h9
              refine W.stb 0 (.t (hs _ _ rfl)) (.t (hs _ _ rfl)) rfl ty26 rfl rfl rfl ?_
              exact h
            refine DE.nil (fun v91 e_ he_ => ?_)
            simp only [he_ 16 (by decide), he_ 18 (by decide), cond_true, cond_false]
            refine W.blk_normal ?_
            refine W.then ?_
            refine W.region ?_
            refine W.q (Ev.move (.t rfl)) rfl ?_
            first | refine W.q (Ev.add (.t rfl) .k (fun _ => by omega)) rfl ?_ | refine W.q (Ev.addw (.t rfl) .k) rfl ?_
            refine W.q (Ev.assign (.t rfl)) rfl ?_
            refine W.nil ?_
            refine W.then ?_
            refine W.reach (D := []) (k + 1, ats ++ [(an, s87)], v91) ⟨rfl, rfl, rfl, rfl, rfl, rfl, rfl, trivial⟩ (by rw [List.map_append]; exact .refl _) ⟨⟨by show k + 1 ≤ 2; omega, by show List.length _ = k + 1; rw [List.length_append, hk2]; rfl, by rw [List.map_append, hk3, hnt]; rfl, fun a ha => by rcases List.mem_append.1 ha with h | h; exact hk4 a h; rw [List.mem_singleton.1 h]; exact m87⟩, by show 2 - (k + 1) < 2 - k; omega⟩
          · refine W.freezeA (M1 := [_, _]) (M2 := [.box b8 28 [.int 1, .str nm, .sl 2 (ats.map dav), .bool (IntKind.i64.wrap (x.tdiv 20) % 2 == 0), .lit (.string ⟨#[]⟩)], _]) (D := []) (v := va) (L' := []) (List.perm_middle (l₁ := [_])) trivial ⟨.box ⟨.refl _, .refl _, .hit, .refl _, .refl _, trivial⟩, .refl _, trivial⟩ ?_
            refine W.seq ?_
            refine W.seq ?_
            refine W.region ?_
            refine W.q (Ev.move (.t rfl)) rfl ?_
            refine W.q (Ev.move (.t rfl)) rfl ?_
            first | refine W.q (Ev.quo (.t rfl) .k (fun _ => by decide)) rfl ?_ | refine W.q (Ev.quo (.t rfl) .k (fun _ => by omega)) rfl ?_
            refine W.callp (Base.c_Picked (IntKind.i64.wrap (x.tdiv 40)) 3 (by decide) (by decide)) ⟨(.t rfl), .k, trivial⟩ rfl ?_
            refine W.q (Ev.lti (.t rfl) (.t rfl)) rfl ?_
            refine W.nil ?_
            refine W.then ?_
            refine W.is (t := 72) (g := true) (av' := .lit (.bool false)) rfl (congrArg (fun b => AV.lit (.bool b)) (by exact decide_eq_false hgek)) ?_
            refine W.condF (.t rfl) ?_
            refine W.exit ?_
            refine W.then_exit ?_
            refine W.then_exit ?_
            refine W.blk_hit ?_
            refine W.blk_normal ?_
            refine W.then ?_
            refine W.region ?_
            refine W.q (Ev.move (.t rfl)) rfl ?_
            first | refine W.q (Ev.lden (.t rfl) ag28 ty28 rfl rfl) rfl ?_ | refine W.q (Ev.ldbn 0 (.t rfl) rfl ag28 ty28 rfl) rfl ?_ | refine W.q (Ev.ldbn 1 (.t rfl) rfl ag28 ty28 rfl) rfl ?_ | refine W.q (Ev.ldbn 2 (.t rfl) rfl ag28 ty28 rfl) rfl ?_ | refine W.q (Ev.ldbn 3 (.t rfl) rfl ag28 ty28 rfl) rfl ?_
            first | refine W.nils (t := 94) (g := true) (cs' := [_, _, .sl 2 [], _, _]) rfl ⟨.inl rfl, .inl rfl, .inr ⟨rfl, 2, rfl⟩, .inl rfl, .inl rfl, trivial⟩ ?_ | skip
            refine W.bs (es := [_]) Tryd.underlying23 ty28 ⟨rfl, (.t rfl), rfl, rfl, trivial⟩ rfl (by decide) rfl rfl ?_
            first | refine W.app 0 (.t rfl) rfl (.sl (.t rfl) (by first | (simp [AV.okc, shV]; done) | (intro e he; rw [List.mem_singleton.1 he]; rfl))) Tryd.underlying23 ni23 ty28 rfl rfl (by simp only [List.length_map, List.length_cons, List.length_nil]; omega) rfl ?_ | refine W.app 1 (.t rfl) rfl (.sl (.t rfl) (by first | (simp [AV.okc, shV]; done) | (intro e he; rw [List.mem_singleton.1 he]; rfl))) Tryd.underlying23 ni23 ty28 rfl rfl (by simp only [List.length_map, List.length_cons, List.length_nil]; omega) rfl ?_ | refine W.app 2 (.t rfl) rfl (.sl (.t rfl) (by first | (simp [AV.okc, shV]; done) | (intro e he; rw [List.mem_singleton.1 he]; rfl))) Tryd.underlying23 ni23 ty28 rfl rfl (by simp only [List.length_map, List.length_cons, List.length_nil]; omega) rfl ?_ | refine W.app 3 (.t rfl) rfl (.sl (.t rfl) (by first | (simp [AV.okc, shV]; done) | (intro e he; rw [List.mem_singleton.1 he]; rfl))) Tryd.underlying23 ni23 ty28 rfl rfl (by simp only [List.length_map, List.length_cons, List.length_nil]; omega) rfl ?_ | refine W.app 0 (.t rfl) rfl (.arr 0 (.t rfl) rfl (by first | (simp [AV.okc, shV]; done) | (intro e he; rw [List.mem_singleton.1 he]; rfl))) Tryd.underlying23 ni23 ty28 rfl rfl (by simp only [List.length_map, List.length_cons, List.length_nil]; omega) rfl ?_ | refine W.app 0 (.t rfl) rfl (.arr 1 (.t rfl) rfl (by first | (simp [AV.okc, shV]; done) | (intro e he; rw [List.mem_singleton.1 he]; rfl))) Tryd.underlying23 ni23 ty28 rfl rfl (by simp only [List.length_map, List.length_cons, List.length_nil]; omega) rfl ?_ | refine W.app 0 (.t rfl) rfl (.arr 2 (.t rfl) rfl (by first | (simp [AV.okc, shV]; done) | (intro e he; rw [List.mem_singleton.1 he]; rfl))) Tryd.underlying23 ni23 ty28 rfl rfl (by simp only [List.length_map, List.length_cons, List.length_nil]; omega) rfl ?_ | refine W.app 0 (.t rfl) rfl (.arr 3 (.t rfl) rfl (by first | (simp [AV.okc, shV]; done) | (intro e he; rw [List.mem_singleton.1 he]; rfl))) Tryd.underlying23 ni23 ty28 rfl rfl (by simp only [List.length_map, List.length_cons, List.length_nil]; omega) rfl ?_ | refine W.app 1 (.t rfl) rfl (.arr 0 (.t rfl) rfl (by first | (simp [AV.okc, shV]; done) | (intro e he; rw [List.mem_singleton.1 he]; rfl))) Tryd.underlying23 ni23 ty28 rfl rfl (by simp only [List.length_map, List.length_cons, List.length_nil]; omega) rfl ?_ | refine W.app 1 (.t rfl) rfl (.arr 1 (.t rfl) rfl (by first | (simp [AV.okc, shV]; done) | (intro e he; rw [List.mem_singleton.1 he]; rfl))) Tryd.underlying23 ni23 ty28 rfl rfl (by simp only [List.length_map, List.length_cons, List.length_nil]; omega) rfl ?_ | refine W.app 1 (.t rfl) rfl (.arr 2 (.t rfl) rfl (by first | (simp [AV.okc, shV]; done) | (intro e he; rw [List.mem_singleton.1 he]; rfl))) Tryd.underlying23 ni23 ty28 rfl rfl (by simp only [List.length_map, List.length_cons, List.length_nil]; omega) rfl ?_ | refine W.app 1 (.t rfl) rfl (.arr 3 (.t rfl) rfl (by first | (simp [AV.okc, shV]; done) | (intro e he; rw [List.mem_singleton.1 he]; rfl))) Tryd.underlying23 ni23 ty28 rfl rfl (by simp only [List.length_map, List.length_cons, List.length_nil]; omega) rfl ?_ | refine W.app 2 (.t rfl) rfl (.arr 0 (.t rfl) rfl (by first | (simp [AV.okc, shV]; done) | (intro e he; rw [List.mem_singleton.1 he]; rfl))) Tryd.underlying23 ni23 ty28 rfl rfl (by simp only [List.length_map, List.length_cons, List.length_nil]; omega) rfl ?_ | refine W.app 2 (.t rfl) rfl (.arr 1 (.t rfl) rfl (by first | (simp [AV.okc, shV]; done) | (intro e he; rw [List.mem_singleton.1 he]; rfl))) Tryd.underlying23 ni23 ty28 rfl rfl (by simp only [List.length_map, List.length_cons, List.length_nil]; omega) rfl ?_ | refine W.app 2 (.t rfl) rfl (.arr 2 (.t rfl) rfl (by first | (simp [AV.okc, shV]; done) | (intro e he; rw [List.mem_singleton.1 he]; rfl))) Tryd.underlying23 ni23 ty28 rfl rfl (by simp only [List.length_map, List.length_cons, List.length_nil]; omega) rfl ?_ | refine W.app 2 (.t rfl) rfl (.arr 3 (.t rfl) rfl (by first | (simp [AV.okc, shV]; done) | (intro e he; rw [List.mem_singleton.1 he]; rfl))) Tryd.underlying23 ni23 ty28 rfl rfl (by simp only [List.length_map, List.length_cons, List.length_nil]; omega) rfl ?_ | refine W.app 3 (.t rfl) rfl (.arr 0 (.t rfl) rfl (by first | (simp [AV.okc, shV]; done) | (intro e he; rw [List.mem_singleton.1 he]; rfl))) Tryd.underlying23 ni23 ty28 rfl rfl (by simp only [List.length_map, List.length_cons, List.length_nil]; omega) rfl ?_ | refine W.app 3 (.t rfl) rfl (.arr 1 (.t rfl) rfl (by first | (simp [AV.okc, shV]; done) | (intro e he; rw [List.mem_singleton.1 he]; rfl))) Tryd.underlying23 ni23 ty28 rfl rfl (by simp only [List.length_map, List.length_cons, List.length_nil]; omega) rfl ?_ | refine W.app 3 (.t rfl) rfl (.arr 2 (.t rfl) rfl (by first | (simp [AV.okc, shV]; done) | (intro e he; rw [List.mem_singleton.1 he]; rfl))) Tryd.underlying23 ni23 ty28 rfl rfl (by simp only [List.length_map, List.length_cons, List.length_nil]; omega) rfl ?_ | refine W.app 3 (.t rfl) rfl (.arr 3 (.t rfl) rfl (by first | (simp [AV.okc, shV]; done) | (intro e he; rw [List.mem_singleton.1 he]; rfl))) Tryd.underlying23 ni23 ty28 rfl rfl (by simp only [List.length_map, List.length_cons, List.length_nil]; omega) rfl ?_
            intro v96
            refine W.q (Ev.assign (.t rfl)) rfl ?_
            refine W.nil ?_
            refine W.blk_normal ?_
            refine W.then ?_
            refine W.region ?_
            refine W.q (Ev.move (.t rfl)) rfl ?_
            first | refine W.q (Ev.add (.t rfl) .k (fun _ => by omega)) rfl ?_ | refine W.q (Ev.addw (.t rfl) .k) rfl ?_
            refine W.q (Ev.assign (.t rfl)) rfl ?_
            refine W.nil ?_
            refine W.then ?_
            first
            | (refine W.reach (D := [_]) (i + 1, ts, v) ⟨rfl, rfl, rfl, rfl, trivial⟩ (List.Perm.swap _ _ []) ⟨⟨by show i + 1 ≤ _; omega, hi2, hi3⟩, by show _ - (i + 1) < _; omega⟩)
            | (refine W.reach (D := [_]) (i + 1, ts ++ [⟨2, nm, [], false, []⟩], v96) ⟨rfl, rfl, rfl, rfl, trivial⟩ (by rw [List.map_append]; exact List.Perm.swap _ _ []) ⟨⟨by show i + 1 ≤ _; omega, Tk.drawns_snoc hi2 (fun (h : (2 : Int) = 3) => absurd h (by decide)) (.inr (.inl ⟨rfl, mnm, rfl, rfl, rfl⟩)), by show List.length _ ≤ n; rw [List.length_append, List.length_singleton]; omega⟩, by show _ - (i + 1) < _; omega⟩)
            | (refine W.reach (D := [_]) (i + 1, ts ++ [⟨3, [], [], false, tx⟩], v96) ⟨rfl, rfl, rfl, rfl, trivial⟩ (by rw [List.map_append]; exact List.Perm.swap _ _ []) ⟨⟨by show i + 1 ≤ _; omega, Tk.drawns_snoc hi2 (fun _ => h53) (.inr (.inr ⟨rfl, rfl, rfl, rfl, mtx⟩)), by show List.length _ ≤ n; rw [List.length_append, List.length_singleton]; omega⟩, by show _ - (i + 1) < _; omega⟩)
            | (refine W.reach (D := [_]) (i + 1, ts ++ [⟨1, nm, ats, IntKind.i64.wrap (x.tdiv 20) % 2 == 0, []⟩], v96) ⟨rfl, rfl, rfl, rfl, trivial⟩ (by rw [List.map_append]; exact List.Perm.swap _ _ []) ⟨⟨by show i + 1 ≤ _; omega, Tk.drawns_snoc hi2 (fun (h : (1 : Int) = 3) => absurd h (by decide)) (.inl ⟨rfl, mnm, ⟨by rw [hk2]; exact hk3, hk4⟩, rfl⟩), by show List.length _ ≤ n; rw [List.length_append, List.length_singleton]; omega⟩, by show _ - (i + 1) < _; omega⟩)
            | (refine W.reach (D := [_]) (i + 1, ts ++ [⟨1, nm, [], false, []⟩], v96) ⟨rfl, rfl, rfl, rfl, trivial⟩ (by rw [List.map_append]; exact List.Perm.swap _ _ []) ⟨⟨by show i + 1 ≤ _; omega, Tk.drawns_snoc hi2 (fun (h : (1 : Int) = 3) => absurd h (by decide)) (.inl ⟨rfl, mnm, ⟨rfl, by simp⟩, rfl⟩), by show List.length _ ≤ n; rw [List.length_append, List.length_singleton]; omega⟩, by show _ - (i + 1) < _; omega⟩)
        · refine W.skip ?_
          refine W.blk_normal ?_
          refine W.then ?_
          refine W.region ?_
          refine W.q (Ev.move (.t rfl)) rfl ?_
          first | refine W.q (Ev.lden (.t rfl) ag28 ty28 rfl rfl) rfl ?_ | refine W.q (Ev.ldbn 0 (.t rfl) rfl ag28 ty28 rfl) rfl ?_ | refine W.q (Ev.ldbn 1 (.t rfl) rfl ag28 ty28 rfl) rfl ?_ | refine W.q (Ev.ldbn 2 (.t rfl) rfl ag28 ty28 rfl) rfl ?_ | refine W.q (Ev.ldbn 3 (.t rfl) rfl ag28 ty28 rfl) rfl ?_
          first | refine W.nils (t := 94) (g := true) (cs' := [_, _, .sl 2 [], _, _]) rfl ⟨.inl rfl, .inl rfl, .inr ⟨rfl, 2, rfl⟩, .inl rfl, .inl rfl, trivial⟩ ?_ | skip
          refine W.bs (es := [_]) Tryd.underlying23 ty28 ⟨rfl, (.t rfl), rfl, rfl, trivial⟩ rfl (by decide) rfl rfl ?_
          first | refine W.app 0 (.t rfl) rfl (.sl (.t rfl) (by first | (simp [AV.okc, shV]; done) | (intro e he; rw [List.mem_singleton.1 he]; rfl))) Tryd.underlying23 ni23 ty28 rfl rfl (by simp only [List.length_map, List.length_cons, List.length_nil]; omega) rfl ?_ | refine W.app 1 (.t rfl) rfl (.sl (.t rfl) (by first | (simp [AV.okc, shV]; done) | (intro e he; rw [List.mem_singleton.1 he]; rfl))) Tryd.underlying23 ni23 ty28 rfl rfl (by simp only [List.length_map, List.length_cons, List.length_nil]; omega) rfl ?_ | refine W.app 2 (.t rfl) rfl (.sl (.t rfl) (by first | (simp [AV.okc, shV]; done) | (intro e he; rw [List.mem_singleton.1 he]; rfl))) Tryd.underlying23 ni23 ty28 rfl rfl (by simp only [List.length_map, List.length_cons, List.length_nil]; omega) rfl ?_ | refine W.app 3 (.t rfl) rfl (.sl (.t rfl) (by first | (simp [AV.okc, shV]; done) | (intro e he; rw [List.mem_singleton.1 he]; rfl))) Tryd.underlying23 ni23 ty28 rfl rfl (by simp only [List.length_map, List.length_cons, List.length_nil]; omega) rfl ?_ | refine W.app 0 (.t rfl) rfl (.arr 0 (.t rfl) rfl (by first | (simp [AV.okc, shV]; done) | (intro e he; rw [List.mem_singleton.1 he]; rfl))) Tryd.underlying23 ni23 ty28 rfl rfl (by simp only [List.length_map, List.length_cons, List.length_nil]; omega) rfl ?_ | refine W.app 0 (.t rfl) rfl (.arr 1 (.t rfl) rfl (by first | (simp [AV.okc, shV]; done) | (intro e he; rw [List.mem_singleton.1 he]; rfl))) Tryd.underlying23 ni23 ty28 rfl rfl (by simp only [List.length_map, List.length_cons, List.length_nil]; omega) rfl ?_ | refine W.app 0 (.t rfl) rfl (.arr 2 (.t rfl) rfl (by first | (simp [AV.okc, shV]; done) | (intro e he; rw [List.mem_singleton.1 he]; rfl))) Tryd.underlying23 ni23 ty28 rfl rfl (by simp only [List.length_map, List.length_cons, List.length_nil]; omega) rfl ?_ | refine W.app 0 (.t rfl) rfl (.arr 3 (.t rfl) rfl (by first | (simp [AV.okc, shV]; done) | (intro e he; rw [List.mem_singleton.1 he]; rfl))) Tryd.underlying23 ni23 ty28 rfl rfl (by simp only [List.length_map, List.length_cons, List.length_nil]; omega) rfl ?_ | refine W.app 1 (.t rfl) rfl (.arr 0 (.t rfl) rfl (by first | (simp [AV.okc, shV]; done) | (intro e he; rw [List.mem_singleton.1 he]; rfl))) Tryd.underlying23 ni23 ty28 rfl rfl (by simp only [List.length_map, List.length_cons, List.length_nil]; omega) rfl ?_ | refine W.app 1 (.t rfl) rfl (.arr 1 (.t rfl) rfl (by first | (simp [AV.okc, shV]; done) | (intro e he; rw [List.mem_singleton.1 he]; rfl))) Tryd.underlying23 ni23 ty28 rfl rfl (by simp only [List.length_map, List.length_cons, List.length_nil]; omega) rfl ?_ | refine W.app 1 (.t rfl) rfl (.arr 2 (.t rfl) rfl (by first | (simp [AV.okc, shV]; done) | (intro e he; rw [List.mem_singleton.1 he]; rfl))) Tryd.underlying23 ni23 ty28 rfl rfl (by simp only [List.length_map, List.length_cons, List.length_nil]; omega) rfl ?_ | refine W.app 1 (.t rfl) rfl (.arr 3 (.t rfl) rfl (by first | (simp [AV.okc, shV]; done) | (intro e he; rw [List.mem_singleton.1 he]; rfl))) Tryd.underlying23 ni23 ty28 rfl rfl (by simp only [List.length_map, List.length_cons, List.length_nil]; omega) rfl ?_ | refine W.app 2 (.t rfl) rfl (.arr 0 (.t rfl) rfl (by first | (simp [AV.okc, shV]; done) | (intro e he; rw [List.mem_singleton.1 he]; rfl))) Tryd.underlying23 ni23 ty28 rfl rfl (by simp only [List.length_map, List.length_cons, List.length_nil]; omega) rfl ?_ | refine W.app 2 (.t rfl) rfl (.arr 1 (.t rfl) rfl (by first | (simp [AV.okc, shV]; done) | (intro e he; rw [List.mem_singleton.1 he]; rfl))) Tryd.underlying23 ni23 ty28 rfl rfl (by simp only [List.length_map, List.length_cons, List.length_nil]; omega) rfl ?_ | refine W.app 2 (.t rfl) rfl (.arr 2 (.t rfl) rfl (by first | (simp [AV.okc, shV]; done) | (intro e he; rw [List.mem_singleton.1 he]; rfl))) Tryd.underlying23 ni23 ty28 rfl rfl (by simp only [List.length_map, List.length_cons, List.length_nil]; omega) rfl ?_ | refine W.app 2 (.t rfl) rfl (.arr 3 (.t rfl) rfl (by first | (simp [AV.okc, shV]; done) | (intro e he; rw [List.mem_singleton.1 he]; rfl))) Tryd.underlying23 ni23 ty28 rfl rfl (by simp only [List.length_map, List.length_cons, List.length_nil]; omega) rfl ?_ | refine W.app 3 (.t rfl) rfl (.arr 0 (.t rfl) rfl (by first | (simp [AV.okc, shV]; done) | (intro e he; rw [List.mem_singleton.1 he]; rfl))) Tryd.underlying23 ni23 ty28 rfl rfl (by simp only [List.length_map, List.length_cons, List.length_nil]; omega) rfl ?_ | refine W.app 3 (.t rfl) rfl (.arr 1 (.t rfl) rfl (by first | (simp [AV.okc, shV]; done) | (intro e he; rw [List.mem_singleton.1 he]; rfl))) Tryd.underlying23 ni23 ty28 rfl rfl (by simp only [List.length_map, List.length_cons, List.length_nil]; omega) rfl ?_ | refine W.app 3 (.t rfl) rfl (.arr 2 (.t rfl) rfl (by first | (simp [AV.okc, shV]; done) | (intro e he; rw [List.mem_singleton.1 he]; rfl))) Tryd.underlying23 ni23 ty28 rfl rfl (by simp only [List.length_map, List.length_cons, List.length_nil]; omega) rfl ?_ | refine W.app 3 (.t rfl) rfl (.arr 3 (.t rfl) rfl (by first | (simp [AV.okc, shV]; done) | (intro e he; rw [List.mem_singleton.1 he]; rfl))) Tryd.underlying23 ni23 ty28 rfl rfl (by simp only [List.length_map, List.length_cons, List.length_nil]; omega) rfl ?_
          intro v96
          refine W.q (Ev.assign (.t rfl)) rfl ?_
          refine W.nil ?_
          refine W.blk_normal ?_
          refine W.then ?_
          refine W.region ?_
          refine W.q (Ev.move (.t rfl)) rfl ?_
          first | refine W.q (Ev.add (.t rfl) .k (fun _ => by omega)) rfl ?_ | refine W.q (Ev.addw (.t rfl) .k) rfl ?_
          refine W.q (Ev.assign (.t rfl)) rfl ?_
          refine W.nil ?_
          refine W.then ?_
          first
          | (refine W.reach (D := [_]) (i + 1, ts, v) ⟨rfl, rfl, rfl, rfl, trivial⟩ (List.Perm.swap _ _ []) ⟨⟨by show i + 1 ≤ _; omega, hi2, hi3⟩, by show _ - (i + 1) < _; omega⟩)
          | (refine W.reach (D := [_]) (i + 1, ts ++ [⟨2, nm, [], false, []⟩], v96) ⟨rfl, rfl, rfl, rfl, trivial⟩ (by rw [List.map_append]; exact List.Perm.swap _ _ []) ⟨⟨by show i + 1 ≤ _; omega, Tk.drawns_snoc hi2 (fun (h : (2 : Int) = 3) => absurd h (by decide)) (.inr (.inl ⟨rfl, mnm, rfl, rfl, rfl⟩)), by show List.length _ ≤ n; rw [List.length_append, List.length_singleton]; omega⟩, by show _ - (i + 1) < _; omega⟩)
          | (refine W.reach (D := [_]) (i + 1, ts ++ [⟨3, [], [], false, tx⟩], v96) ⟨rfl, rfl, rfl, rfl, trivial⟩ (by rw [List.map_append]; exact List.Perm.swap _ _ []) ⟨⟨by show i + 1 ≤ _; omega, Tk.drawns_snoc hi2 (fun _ => h53) (.inr (.inr ⟨rfl, rfl, rfl, rfl, mtx⟩)), by show List.length _ ≤ n; rw [List.length_append, List.length_singleton]; omega⟩, by show _ - (i + 1) < _; omega⟩)
          | (refine W.reach (D := [_]) (i + 1, ts ++ [⟨1, nm, ats, IntKind.i64.wrap (x.tdiv 20) % 2 == 0, []⟩], v96) ⟨rfl, rfl, rfl, rfl, trivial⟩ (by rw [List.map_append]; exact List.Perm.swap _ _ []) ⟨⟨by show i + 1 ≤ _; omega, Tk.drawns_snoc hi2 (fun (h : (1 : Int) = 3) => absurd h (by decide)) (.inl ⟨rfl, mnm, ⟨by rw [hk2]; exact hk3, hk4⟩, rfl⟩), by show List.length _ ≤ n; rw [List.length_append, List.length_singleton]; omega⟩, by show _ - (i + 1) < _; omega⟩)
          | (refine W.reach (D := [_]) (i + 1, ts ++ [⟨1, nm, [], false, []⟩], v96) ⟨rfl, rfl, rfl, rfl, trivial⟩ (by rw [List.map_append]; exact List.Perm.swap _ _ []) ⟨⟨by show i + 1 ≤ _; omega, Tk.drawns_snoc hi2 (fun (h : (1 : Int) = 3) => absurd h (by decide)) (.inl ⟨rfl, mnm, ⟨rfl, by simp⟩, rfl⟩), by show List.length _ ≤ n; rw [List.length_append, List.length_singleton]; omega⟩, by show _ - (i + 1) < _; omega⟩)
  · skip
    refine W.seq ?_
    refine W.seq ?_
    refine W.region ?_
    refine W.q (Ev.move (.t rfl)) rfl ?_
    refine W.q (Ev.move (.t rfl)) rfl ?_
    first | refine W.q (Ev.lensl (.t rfl) Tryd.underlying22) rfl ?_ | refine W.q (Ev.lenar (i := 0) (.t rfl) rfl Tryd.underlying22) rfl ?_ | refine W.q (Ev.lenar (i := 1) (.t rfl) rfl Tryd.underlying22) rfl ?_ | refine W.q (Ev.lenar (i := 2) (.t rfl) rfl Tryd.underlying22) rfl ?_ | refine W.q (Ev.lenar (i := 3) (.t rfl) rfl Tryd.underlying22) rfl ?_
    refine W.q (Ev.lti (.t rfl) (.t rfl)) rfl ?_
    refine W.q (Ev.move (.t rfl)) rfl ?_
    refine W.qgT rfl rfl (Ev.move (.t rfl)) rfl ?_
    first | refine W.qgT rfl rfl (Ev.lensl (.c rfl) Tryd.underlying23) rfl ?_ | refine W.qgT rfl rfl (Ev.lenar (i := 0) (.c rfl) rfl Tryd.underlying23) rfl ?_ | refine W.qgT rfl rfl (Ev.lenar (i := 1) (.c rfl) rfl Tryd.underlying23) rfl ?_ | refine W.qgT rfl rfl (Ev.lenar (i := 2) (.c rfl) rfl Tryd.underlying23) rfl ?_ | refine W.qgT rfl rfl (Ev.lenar (i := 3) (.c rfl) rfl Tryd.underlying23) rfl ?_
    refine W.qgT rfl rfl (Ev.move (.t rfl)) rfl ?_
    refine W.qgT rfl rfl (Ev.lti (.c rfl) (.c rfl)) rfl ?_
    refine W.q (Ev.and (.t rfl) ⟨_, _, rfl, rfl, by first | (simp; done) | (intro hg_ hp_; simp [hp_]; done) | (simp <;> omega; done) | (simp_all; done) | grind⟩) rfl ?_
    refine W.nil ?_
    refine W.then ?_
    refine W.is (t := 20) (g := true) (av' := .lit (.bool false)) rfl (congrArg (fun b => AV.lit (.bool b)) (by simp; omega)) ?_
    refine W.condF (.t rfl) ?_
    refine W.exit ?_
    refine W.then_exit ?_
    refine W.then_exit ?_
    refine W.blk_hit ?_
    refine W.then ?_
    refine W.seq ?_
    refine W.region ?_
    refine W.q (Ev.move (.t rfl)) rfl ?_
    refine W.q (Ev.assign (.t rfl)) rfl ?_
    refine W.nil ?_
    refine W.then ?_
    refine W.ret ?_
    refine W.retn (M' := [.arr v 28 5 _]) (rs := [.tmp 4]) (avs := [_]) Tryd.results4 ⟨rfl, trivial⟩ rfl (.refl _) ?_
    exact ⟨v, ts, rfl, rfl, hi2, hi3⟩

end WTokens

end Go.Proofs.YtbdfeolffigdoaaDoor
end
