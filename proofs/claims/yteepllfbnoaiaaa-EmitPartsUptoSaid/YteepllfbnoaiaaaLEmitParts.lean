/-
  The law EmitParts, walked.
-/
import Derived.Test.YteepllfbnoaiaaaWTokens
import Derived.Test.YteepllfbnoaiaaaWEText
import Derived.Test.YteepllfbnoaiaaaPick
set_option linter.unusedVariables false
set_option linter.unusedSimpArgs false
set_option maxRecDepth 100000
namespace Go.Proofs.Yteepllfbnoaiaaa
open Go.Vl

namespace LEmitParts
theorem ty3 : Ty Try.prog 3 1 8 (.int .i64 0) := Ty.of (by kernel_rfl)
theorem ty4 : Ty Try.prog 4 1 1 (.bool false) := Ty.of (by kernel_rfl)
theorem ty9 : Ty Try.prog 9 1 16 (.string ⟨#[]⟩) := Ty.of (by kernel_rfl)
theorem ty33 : Ty Try.prog 33 1 24 (.slice none 0 0) := Ty.of (by kernel_rfl)
theorem ty72 : Ty Try.prog 72 5 72 (.agg #[.int .i64 0, .string ⟨#[]⟩, .slice none 0 0, .bool false, .string ⟨#[]⟩]) := Ty.of (by kernel_rfl)
theorem st72 : StructAt Try.prog 72 [(0, 1), (1, 1), (2, 1), (3, 1), (4, 1)] := ⟨_, Try.underlying72, rfl, ty3.size, rfl, ty9.size, rfl, ty33.size, rfl, ty4.size, rfl, ty9.size, trivial⟩
theorem ni67 : NotInt Try.prog 67 := .inl ⟨_, Try.underlying67⟩
theorem c_EmitParts (l : List Int) (x : Int) (hl : l.length ≤ 1048576) : FnP Try.prog 11 [.sl 1 (l.map AV.int), .int x] (.bool true) :=  by
  refine FnC.mk Try.func11 (by kernel_rfl) rfl Try.ntmps11 rfl (fun w0 F => ?_)
  refine W.seq ?_
  refine W.region ?_
  refine W.q (Ev.assign .k) rfl ?_
  refine W.nil ?_
  refine W.then ?_
  refine W.seq ?_
  refine W.region ?_
  refine W.q (Ev.move (.t rfl)) rfl ?_
  refine W.call (WTokens.c_Tokens l (by omega) 10 (by decide)) ⟨(.t rfl), .k, trivial⟩ (.refl _) rfl ?_
  rintro _ _ ⟨v16, ts, rfl, rfl, hts, htl⟩
  have htm : (ts.map tav).length = ts.length := List.length_map ..
  refine W.q (Ev.assign (.t rfl)) rfl ?_
  refine W.nil ?_
  refine W.freezeA (M1 := []) (M2 := []) (D := []) (v := v16) (L' := [(5, true, .sl 5 (ts.map tav))]) (.refl _) ⟨⟨_, rfl, .one .hit⟩, trivial⟩ (FrzMs.refl _) ?_
  refine W.then ?_
  refine W.seq ?_
  refine W.region ?_
  refine W.q (Ev.move (.t rfl)) rfl ?_
  refine W.q (Ev.move (.t rfl)) rfl ?_
  first | refine W.q (Ev.lensl (.t rfl) Try.underlying67) rfl ?_ | refine W.q (Ev.lenar (i := 0) (.t rfl) rfl Try.underlying67) rfl ?_ | refine W.q (Ev.lenar (i := 1) (.t rfl) rfl Try.underlying67) rfl ?_ | refine W.q (Ev.lenar (i := 2) (.t rfl) rfl Try.underlying67) rfl ?_ | refine W.q (Ev.lenar (i := 3) (.t rfl) rfl Try.underlying67) rfl ?_
  first | refine W.q (Ev.add (.t rfl) .k (fun _ => by omega)) rfl ?_ | refine W.q (Ev.addw (.t rfl) .k) rfl ?_
  refine W.callp (Base.c_Picked x (((ts.map tav).length : Int) + 1) (by omega) (by omega)) ⟨(.t rfl), (.t rfl), trivial⟩ rfl ?_
  refine W.q (Ev.assign (.t rfl)) rfl ?_
  refine W.nil ?_
  obtain ⟨k, hkl, hkv⟩ : ∃ k : Nat, k ≤ ts.length ∧ x % (((ts.map tav).length : Int) + 1) = (k : Int) := ⟨(x % (((ts.map tav).length : Int) + 1)).toNat, by have h1 := Int.emod_lt_of_pos x (show (0 : Int) < ((ts.map tav).length : Int) + 1 by omega); omega, by have h1 := Int.emod_nonneg x (show ((ts.map tav).length : Int) + 1 ≠ 0 by omega); omega⟩
  refine W.is (t := 6) (g := true) (av' := .int (k : Int)) rfl (congrArg AV.int hkv) ?_
  refine W.then ?_
  refine W.seq ?_
  refine W.region ?_
  refine W.q (Ev.move (.t rfl)) rfl ?_
  refine W.callp (WEText.c_Text ts hts (by omega)) ⟨(.t rfl), trivial⟩ rfl ?_
  refine W.q (Ev.move (.t rfl)) rfl ?_
  refine W.q (Ev.extract (.t rfl) rfl) rfl ?_
  refine W.q (Ev.extract (.t rfl) rfl) rfl ?_
  refine W.q (Ev.assign (.t rfl)) rfl ?_
  refine W.q (Ev.assign (.t rfl)) rfl ?_
  refine W.nil ?_
  refine W.then ?_
  refine W.seq ?_
  refine W.region ?_
  refine W.q (Ev.move (.t rfl)) rfl ?_
  refine W.q (Ev.move (.t rfl)) rfl ?_
  refine W.q (Ev.takesl (n := k) (.t rfl) Try.underlying67 ty72 (.t rfl) rfl (fun _ => hkl)) rfl ?_
  first | refine W.appn .k (.sl (.t rfl) (by intro e he; obtain ⟨d, _, rfl⟩ := List.mem_map.1 he; rfl)) Try.underlying67 ni67 ty72 rfl rfl (by rw [List.length_map, List.length_take]; omega) rfl ?_ | refine W.appn .k (.arr 0 (.t rfl) rfl (by intro e he; obtain ⟨d, _, rfl⟩ := List.mem_map.1 he; rfl)) Try.underlying67 ni67 ty72 rfl rfl (by rw [List.length_map, List.length_take]; omega) rfl ?_ | refine W.appn .k (.arr 1 (.t rfl) rfl (by intro e he; obtain ⟨d, _, rfl⟩ := List.mem_map.1 he; rfl)) Try.underlying67 ni67 ty72 rfl rfl (by rw [List.length_map, List.length_take]; omega) rfl ?_ | refine W.appn .k (.arr 2 (.t rfl) rfl (by intro e he; obtain ⟨d, _, rfl⟩ := List.mem_map.1 he; rfl)) Try.underlying67 ni67 ty72 rfl rfl (by rw [List.length_map, List.length_take]; omega) rfl ?_ | refine W.appn .k (.arr 3 (.t rfl) rfl (by intro e he; obtain ⟨d, _, rfl⟩ := List.mem_map.1 he; rfl)) Try.underlying67 ni67 ty72 rfl rfl (by rw [List.length_map, List.length_take]; omega) rfl ?_
  intro v31
  refine W.freezeA (M1 := []) (M2 := []) (D := []) (v := v31) (L' := [(31, true, .sl 5 ((ts.take k).map tav))]) (.refl _) ⟨⟨_, rfl, .one .hit⟩, trivial⟩ (FrzMs.refl _) ?_
  refine W.callp (WEText.c_Text (ts.take k) (Tk.drawns_take k hts).1 (by rw [List.length_take]; omega)) ⟨(.t rfl), trivial⟩ rfl ?_
  refine W.q (Ev.move (.t rfl)) rfl ?_
  refine W.q (Ev.extract (.t rfl) rfl) rfl ?_
  refine W.q (Ev.extract (.t rfl) rfl) rfl ?_
  refine W.q (Ev.assign (.t rfl)) rfl ?_
  refine W.q (Ev.assign (.t rfl)) rfl ?_
  refine W.nil ?_
  refine W.then ?_
  refine W.seq ?_
  refine W.region ?_
  refine W.q (Ev.move (.t rfl)) rfl ?_
  refine W.q (Ev.move (.t rfl)) rfl ?_
  refine W.q (Ev.dropsl (n := k) (.t rfl) Try.underlying67 ty72 (.t rfl) rfl (fun _ => hkl)) rfl ?_
  first | refine W.appn .k (.sl (.t rfl) (by intro e he; obtain ⟨d, _, rfl⟩ := List.mem_map.1 he; rfl)) Try.underlying67 ni67 ty72 rfl rfl (by rw [List.length_map, List.length_drop]; omega) rfl ?_ | refine W.appn .k (.arr 0 (.t rfl) rfl (by intro e he; obtain ⟨d, _, rfl⟩ := List.mem_map.1 he; rfl)) Try.underlying67 ni67 ty72 rfl rfl (by rw [List.length_map, List.length_drop]; omega) rfl ?_ | refine W.appn .k (.arr 1 (.t rfl) rfl (by intro e he; obtain ⟨d, _, rfl⟩ := List.mem_map.1 he; rfl)) Try.underlying67 ni67 ty72 rfl rfl (by rw [List.length_map, List.length_drop]; omega) rfl ?_ | refine W.appn .k (.arr 2 (.t rfl) rfl (by intro e he; obtain ⟨d, _, rfl⟩ := List.mem_map.1 he; rfl)) Try.underlying67 ni67 ty72 rfl rfl (by rw [List.length_map, List.length_drop]; omega) rfl ?_ | refine W.appn .k (.arr 3 (.t rfl) rfl (by intro e he; obtain ⟨d, _, rfl⟩ := List.mem_map.1 he; rfl)) Try.underlying67 ni67 ty72 rfl rfl (by rw [List.length_map, List.length_drop]; omega) rfl ?_
  intro v39
  refine W.freezeA (M1 := []) (M2 := []) (D := []) (v := v39) (L' := [(39, true, .sl 5 ((ts.drop k).map tav))]) (.refl _) ⟨⟨_, rfl, .one .hit⟩, trivial⟩ (FrzMs.refl _) ?_
  refine W.callp (WEText.c_Text (ts.drop k) (Tk.drawns_take k hts).2 (by rw [List.length_drop]; omega)) ⟨(.t rfl), trivial⟩ rfl ?_
  refine W.q (Ev.move (.t rfl)) rfl ?_
  refine W.q (Ev.extract (.t rfl) rfl) rfl ?_
  refine W.q (Ev.extract (.t rfl) rfl) rfl ?_
  refine W.q (Ev.assign (.t rfl)) rfl ?_
  refine W.q (Ev.assign (.t rfl)) rfl ?_
  refine W.nil ?_
  refine W.then ?_
  refine W.seq ?_
  refine W.region ?_
  refine W.q (Ev.build ty72 st72 rfl (fun hg => ⟨_, _, _, rfl, .k, rfl, rfl, rfl, _, _, _, rfl, .k, rfl, rfl, rfl, rfl⟩)) rfl ?_
  refine W.nils (t := 44) (g := true) (cs' := [.int 2, .str [112], .sl 2 [], .bool false, .str []]) rfl ⟨.inl rfl, .inl rfl, .inr ⟨rfl, 2, rfl⟩, .inl rfl, .inl rfl, trivial⟩ ?_
  refine W.bs (es := [_]) Try.underlying67 ty72 ⟨rfl, (.t rfl), rfl, rfl, trivial⟩ rfl (by decide) rfl rfl ?_
  refine W.callp (WEText.c_Text [⟨2, [112], [], false, []⟩] ⟨fun _ => rfl, .inr (.inl ⟨rfl, by simp, rfl, rfl, rfl⟩), trivial⟩ (by decide)) ⟨(.t rfl), trivial⟩ rfl ?_
  refine W.q (Ev.move (.t rfl)) rfl ?_
  refine W.q (Ev.extract (.t rfl) rfl) rfl ?_
  refine W.q (Ev.extract (.t rfl) rfl) rfl ?_
  refine W.q (Ev.assign (.t rfl)) rfl ?_
  refine W.q (Ev.assign (.t rfl)) rfl ?_
  refine W.nil ?_
  refine W.then ?_
  refine W.seq ?_
  refine W.seq ?_
  refine W.region ?_
  refine W.q (Ev.move (.t rfl)) rfl ?_
  refine W.q (Ev.eqi (.t rfl) .k) rfl ?_
  refine W.nil ?_
  refine W.then ?_
  refine W.is (t := 50) (g := true) (av' := .lit (.bool false)) rfl (congrArg (fun b => AV.lit (.bool b)) (by rfl)) ?_
  refine W.condF (.t rfl) ?_
  refine W.skip ?_
  refine W.then ?_
  refine W.seq ?_
  refine W.region ?_
  have hL1 := Tk.txts_len (Tk.drawns_take k hts).1
  have hL2 := Tk.txts_len (Tk.drawns_take k hts).2
  rw [List.length_take] at hL1
  rw [List.length_drop] at hL2
  have hone : Tk.txts [⟨2, [112], [], false, []⟩] = [60, 47, 112, 62] := by decide
  have hall : Tk.txts ts = Tk.txts (ts.take k) ++ Tk.txts (ts.drop k) := by rw [← Tk.txts_append, List.take_append_drop]
  refine W.q (Ev.move (.t rfl)) rfl ?_
  refine W.q (Ev.eqi (.t rfl) .k) rfl ?_
  refine W.q (Ev.move (.t rfl)) rfl ?_
  refine W.qgT rfl rfl (Ev.move (.t rfl)) rfl ?_
  refine W.qgT rfl rfl (Ev.eqi (.c rfl) .k) rfl ?_
  refine W.q (Ev.and (.t rfl) ⟨_, _, rfl, rfl, by first | (simp; done) | (intro hg_ hp_; simp [hp_]; done) | (simp <;> omega; done) | (simp_all; done) | grind⟩) rfl ?_
  refine W.q (Ev.move (.t rfl)) rfl ?_
  refine W.qgT rfl rfl (Ev.move (.t rfl)) rfl ?_
  refine W.qgT rfl rfl (Ev.eqi (.c rfl) .k) rfl ?_
  refine W.q (Ev.and (.t rfl) ⟨_, _, rfl, rfl, by first | (simp; done) | (intro hg_ hp_; simp [hp_]; done) | (simp <;> omega; done) | (simp_all; done) | grind⟩) rfl ?_
  refine W.q (Ev.move (.t rfl)) rfl ?_
  refine W.qgT rfl rfl (Ev.move (.t rfl)) rfl ?_
  refine W.qgT rfl rfl (Ev.eqi (.c rfl) .k) rfl ?_
  refine W.q (Ev.and (.t rfl) ⟨_, _, rfl, rfl, by first | (simp; done) | (intro hg_ hp_; simp [hp_]; done) | (simp <;> omega; done) | (simp_all; done) | grind⟩) rfl ?_
  refine W.q (Ev.move (.t rfl)) rfl ?_
  skip
  refine W.qgT rfl rfl (Ev.move (.t rfl)) rfl ?_
  refine W.qgT rfl rfl (Ev.eqs (.c rfl) .k) rfl ?_
  refine W.q (Ev.and (.t rfl) ⟨_, _, rfl, rfl, by first | (simp; done) | (intro hg_ hp_; simp [hp_]; done) | (simp <;> omega; done) | (simp_all; done) | grind⟩) rfl ?_
  refine W.q (Ev.move (.t rfl)) rfl ?_
  refine W.qgT rfl rfl (Ev.move (.t rfl)) rfl ?_
  refine W.qgT rfl rfl (Ev.move (.t rfl)) rfl ?_
  refine W.qgT rfl rfl (Ev.move (.t rfl)) rfl ?_
  refine W.qgT rfl rfl (Ev.cat (.c rfl) (.c rfl) (fun _ => by first | omega | (simp only [List.length_append]; omega) | (simp [-List.length_flatMap]; omega) | (simp; omega))) rfl ?_
  refine W.qgT rfl rfl (Ev.eqs (.c rfl) (.c rfl)) rfl ?_
  refine W.q (Ev.and (.t rfl) ⟨_, _, rfl, rfl, by first | (simp; done) | (intro hg_ hp_; simp [hp_]; done) | (simp <;> omega; done) | (simp_all; done) | grind⟩) rfl ?_
  refine W.q (Ev.assign (.t rfl)) rfl ?_
  refine W.nil ?_
  refine W.then ?_
  refine W.ret ?_
  refine W.retn (M' := []) (rs := [.tmp 4]) (avs := [_]) Try.results11 ⟨rfl, trivial⟩ rfl (.refl _) ?_
  exact ⟨congrArg AV.bool (by rw [hone, hall]; simp), rfl⟩

end LEmitParts

end Go.Proofs.Yteepllfbnoaiaaa
