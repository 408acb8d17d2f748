/-
  Merged: WMFlat.
-/
import Derived.Test.YtlglnmafddnmmaaDoorG8

section
set_option linter.unusedVariables false
set_option linter.unusedSimpArgs false
set_option maxRecDepth 100000
namespace Go.Proofs.YtlglnmafddnmmaaDoor
open Go.Vl

namespace WMFlat
theorem ty9 : Ty Tryd.prog 9 1 16 (.string ⟨#[]⟩) := Ty.of (by kernel_rfl)
theorem ty23 : Ty Tryd.prog 23 1 24 (.slice none 0 0) := Ty.of (by kernel_rfl)
theorem ty25 : Ty Tryd.prog 25 1 24 (.slice none 0 0) := Ty.of (by kernel_rfl)
theorem ty49 : Ty Tryd.prog 49 2 40 (.agg #[.string ⟨#[]⟩, .slice none 0 0]) := Ty.of (by kernel_rfl)
theorem ty67 : Ty Tryd.prog 67 1 24 (.slice none 0 0) := Ty.of (by kernel_rfl)
theorem ty69 : Ty Tryd.prog 69 4 80 (.agg #[.string ⟨#[]⟩, .slice none 0 0, .string ⟨#[]⟩, .slice none 0 0]) := Ty.of (by kernel_rfl)
theorem ag9 : IsAgg Tryd.prog 9 false := ⟨_, Tryd.underlying9, rfl⟩
theorem ag25 : IsAgg Tryd.prog 25 false := ⟨_, Tryd.underlying25, rfl⟩
theorem ag67 : IsAgg Tryd.prog 67 false := ⟨_, Tryd.underlying67, rfl⟩
theorem ag69 : IsAgg Tryd.prog 69 true := ⟨_, Tryd.underlying69, rfl⟩
theorem fa69_0 : FieldAt Tryd.prog 69 0 0 1 false := ⟨_, _, Tryd.underlying69, rfl, rfl, ty9.size, ag9, by decide⟩
theorem fa69_1 : FieldAt Tryd.prog 69 1 1 1 false := ⟨_, _, Tryd.underlying69, rfl, rfl, ty67.size, ag67, by decide⟩
theorem fa69_2 : FieldAt Tryd.prog 69 2 2 1 false := ⟨_, _, Tryd.underlying69, rfl, rfl, ty9.size, ag9, by decide⟩
theorem fa69_3 : FieldAt Tryd.prog 69 3 3 1 false := ⟨_, _, Tryd.underlying69, rfl, rfl, ty25.size, ag25, by decide⟩
theorem st49 : StructAt Tryd.prog 49 [(0, 1), (1, 1)] := ⟨_, Tryd.underlying49, rfl, ty9.size, rfl, ty23.size, trivial⟩
theorem ni23 : NotInt Tryd.prog 23 := .inl ⟨_, Tryd.underlying23⟩
theorem ni29 : NotInt Tryd.prog 29 := .inl ⟨_, Tryd.underlying29⟩
theorem c_flat_step (ms : List (List UInt8)) (hms : ms.length ≤ 100) (n : Nat) (ih : ∀ (l : List Nd) (w : List (List UInt8)) (v : Value), Nd.szs l < n → Mrk.okns ms l = true → w.length + Nd.szs l ≤ 100000 → FnC Tryd.prog 38 [.sl 1 (ms.map AV.str), .sl 4 (l.map Nd.av), .lit v] [.arr v 9 1 (w.map AV.str)] (fun r M => r = .tup [.sl 2 ((Mrk.flatL w l).map rnav), .int 0] ∧ M = [])) (l : List Nd) (w : List (List UInt8)) (v : Value) (hl : Nd.szs l = n) (hok : Mrk.okns ms l = true) (hwn : w.length + Nd.szs l ≤ 100000) : FnC Tryd.prog 38 [.sl 1 (ms.map AV.str), .sl 4 (l.map Nd.av), .lit v] [.arr v 9 1 (w.map AV.str)] (fun r M => r = .tup [.sl 2 ((Mrk.flatL w l).map rnav), .int 0] ∧ M = []) :=  by
  refine FnC.mk Tryd.func38 (by kernel_rfl) rfl Tryd.ntmps38 rfl (fun w0 F => ?_)
  have hll : (l.map Nd.av).length = l.length := List.length_map ..
  have hsl := Nd.szs_len l
  have hwl : (w.map AV.str).length = w.length := List.length_map ..
  refine W.freezeA (M1 := []) (M2 := []) (D := []) (v := v) (L' := [(2, true, .sl 1 (w.map AV.str))]) (.refl _) ⟨⟨_, rfl, .one .hit⟩, trivial⟩ (FrzMs.refl _) ?_
  refine W.seq ?_
  refine W.region ?_
  refine W.q (Ev.assign .k) rfl ?_
  refine W.q (Ev.assign .k) rfl ?_
  refine W.nil ?_
  refine W.then ?_
  refine W.seq ?_
  refine W.region ?_
  refine W.q (Ev.assign .k) rfl ?_
  refine W.nil ?_
  refine W.then ?_
  refine W.seq ?_
  refine W.seq ?_
  refine W.region ?_
  refine W.q (Ev.move (.t rfl)) rfl ?_
  first | refine W.q (Ev.lensl (.t rfl) Tryd.underlying25) rfl ?_ | refine W.q (Ev.lenar (i := 0) (.t rfl) rfl Tryd.underlying25) rfl ?_ | refine W.q (Ev.lenar (i := 1) (.t rfl) rfl Tryd.underlying25) rfl ?_ | refine W.q (Ev.lenar (i := 2) (.t rfl) rfl Tryd.underlying25) rfl ?_ | refine W.q (Ev.lenar (i := 3) (.t rfl) rfl Tryd.underlying25) rfl ?_
  refine W.q (Ev.move .k) rfl ?_
  refine W.nil ?_
  refine W.then ?_
  refine W.block ?_
  refine W.own_nil 49 2 ?_
  refine W.loop (D := []) (ι := Nat × Value) (fun z => [(15, true, .int (z.1 : Int)), (14, true, .int ((l.map Nd.av).length : Int)), (13, true, .sl 4 (l.map Nd.av)), (0, true, .sl 1 (ms.map AV.str)), (2, true, .sl 1 (w.map AV.str)), (8, true, .lit z.2)]) (fun z => [.arr z.2 49 2 ((Mrk.flatL w (l.take z.1)).map rnav)]) (fun z => z.1 ≤ l.length) (fun z => l.length - z.1) (0, .slice none 0 0) ⟨rfl, rfl, rfl, rfl, rfl, rfl, trivial⟩ (.refl _) (Nat.zero_le _) ?_
  rintro ⟨i, v8⟩ hi
  dsimp only at hi ⊢
  rcases (show i < l.length ∨ i = l.length from by omega) with hlt | hend
  · have hsn := Mrk.flatL_take w l i hlt
    have hokd := Mrk.okns_mem hok _ (getD_memG Nd.dflt l i hlt)
    have hga := Nd.at_av l i hlt
    have hsz := Nd.at_sz l i hlt
    generalize hd : l.getD i Nd.dflt = d at hga hsz
    have hse := Nd.sz_eq d
    have hsp := Nd.szs_len d.parts
    have hat : (d.attrs.map dav).length = d.attrs.length := List.length_map ..
    rw [hd] at hsn hokd
    have hfl := Mrk.flatL_len _ (l.take i) w (Nat.le_refl _)
    have htk := Nd.szs_take l i
    refine W.seq ?_
    refine W.region ?_
    refine W.q (Ev.lti (.t rfl) (.t rfl)) rfl ?_
    refine W.nil ?_
    refine W.then ?_
    refine W.seq ?_
    refine W.is (t := 16) (g := true) (av' := .lit (.bool true)) rfl (congrArg (fun b => AV.lit (.bool b)) (by exact decide_eq_true (by omega))) ?_
    refine W.condT (.t rfl) ?_
    refine W.skip ?_
    refine W.then ?_
    refine W.seq ?_
    refine W.block ?_
    refine W.seq ?_
    refine W.region ?_
    refine W.q (Ev.at (E := 69) (.t rfl) (.t rfl) Tryd.underlying25 ty69 (fun _ => ⟨by omega, hga⟩) rfl rfl) rfl ?_
    first | refine W.q (Ev.lden (.t rfl) ag69 ty69 rfl rfl) rfl ?_ | refine W.q (Ev.ldbn 0 (.t rfl) rfl ag69 ty69 rfl) rfl ?_ | refine W.q (Ev.ldbn 1 (.t rfl) rfl ag69 ty69 rfl) rfl ?_ | refine W.q (Ev.ldbn 2 (.t rfl) rfl ag69 ty69 rfl) rfl ?_ | refine W.q (Ev.ldbn 3 (.t rfl) rfl ag69 ty69 rfl) rfl ?_
    refine W.alloc ty69 rfl rfl ?_
    intro b10
    first | refine W.stb 0 (.t rfl) (.t rfl) rfl ty69 rfl rfl rfl ?_ | refine W.stb 1 (.t rfl) (.t rfl) rfl ty69 rfl rfl rfl ?_ | refine W.stb 2 (.t rfl) (.t rfl) rfl ty69 rfl rfl rfl ?_ | refine W.stb 3 (.t rfl) (.t rfl) rfl ty69 rfl rfl rfl ?_
    refine W.nil ?_
    refine W.then ?_
    refine W.seq ?_
    refine W.seq ?_
    refine W.region ?_
    first | refine W.q (Ev.fae (.t rfl) fa69_0 rfl) rfl ?_ | refine W.q (Ev.fab (.t rfl) fa69_0) rfl ?_ | refine W.q (Ev.faa (.t rfl) fa69_0) rfl ?_
    first | refine W.q (Ev.lde1 (.t rfl) ag9) rfl ?_ | refine W.q (Ev.ldb1 0 (.t rfl) rfl ag9 rfl) rfl ?_ | refine W.q (Ev.ldb1 1 (.t rfl) rfl ag9 rfl) rfl ?_ | refine W.q (Ev.ldb1 2 (.t rfl) rfl ag9 rfl) rfl ?_ | refine W.q (Ev.ldb1 3 (.t rfl) rfl ag9 rfl) rfl ?_
    refine W.q (Ev.eqs (.t rfl) .k) rfl ?_
    refine W.nil ?_
    refine W.then ?_
    refine W.cond (.t rfl) (fun hc_t21 => ?_) (fun hc_t21 => ?_)
    · have hnm : d.name = [] := beq_iff_eq.1 hc_t21
      rw [Mrk.flat1_eq, if_pos hnm] at hsn
      rw [Mrk.okn_eq, if_pos hnm] at hokd
      have hA : d.attrs = [] := by simp at hokd; exact hokd.1
      have hP : d.parts = [] := by simp at hokd; exact hokd.2
      refine W.seq ?_
      refine W.seq ?_
      refine W.region ?_
      first | refine W.q (Ev.fae (.t rfl) fa69_1 rfl) rfl ?_ | refine W.q (Ev.fab (.t rfl) fa69_1) rfl ?_ | refine W.q (Ev.faa (.t rfl) fa69_1) rfl ?_
      first | refine W.q (Ev.lde1 (.t rfl) ag67) rfl ?_ | refine W.q (Ev.ldb1 0 (.t rfl) rfl ag67 rfl) rfl ?_ | refine W.q (Ev.ldb1 1 (.t rfl) rfl ag67 rfl) rfl ?_ | refine W.q (Ev.ldb1 2 (.t rfl) rfl ag67 rfl) rfl ?_ | refine W.q (Ev.ldb1 3 (.t rfl) rfl ag67 rfl) rfl ?_
      first | refine W.q (Ev.lensl (.t rfl) Tryd.underlying67) rfl ?_ | refine W.q (Ev.lenar (i := 0) (.t rfl) rfl Tryd.underlying67) rfl ?_ | refine W.q (Ev.lenar (i := 1) (.t rfl) rfl Tryd.underlying67) rfl ?_ | refine W.q (Ev.lenar (i := 2) (.t rfl) rfl Tryd.underlying67) rfl ?_ | refine W.q (Ev.lenar (i := 3) (.t rfl) rfl Tryd.underlying67) rfl ?_
      refine W.q (Ev.gti (.t rfl) .k) rfl ?_
      refine W.q (Ev.move (.t rfl)) rfl ?_
      first | refine W.qgF rfl rfl (Ev.fae (.t rfl) fa69_3 rfl) rfl ?_ | refine W.qgF rfl rfl (Ev.fab (.t rfl) fa69_3) rfl ?_ | refine W.qgF rfl rfl (Ev.faa (.t rfl) fa69_3) rfl ?_
      first | refine W.qgF rfl rfl (Ev.lde1 (.c rfl) ag25) rfl ?_ | refine W.qgF rfl rfl (Ev.ldb1 0 (.c rfl) rfl ag25 rfl) rfl ?_ | refine W.qgF rfl rfl (Ev.ldb1 1 (.c rfl) rfl ag25 rfl) rfl ?_ | refine W.qgF rfl rfl (Ev.ldb1 2 (.c rfl) rfl ag25 rfl) rfl ?_ | refine W.qgF rfl rfl (Ev.ldb1 3 (.c rfl) rfl ag25 rfl) rfl ?_
      first | refine W.qgF rfl rfl (Ev.lensl (.c rfl) Tryd.underlying25) rfl ?_ | refine W.qgF rfl rfl (Ev.lenar (i := 0) (.c rfl) rfl Tryd.underlying25) rfl ?_ | refine W.qgF rfl rfl (Ev.lenar (i := 1) (.c rfl) rfl Tryd.underlying25) rfl ?_ | refine W.qgF rfl rfl (Ev.lenar (i := 2) (.c rfl) rfl Tryd.underlying25) rfl ?_ | refine W.qgF rfl rfl (Ev.lenar (i := 3) (.c rfl) rfl Tryd.underlying25) rfl ?_
      refine W.qgF rfl rfl (Ev.gti (.c rfl) .k) rfl ?_
      refine W.q (Ev.or (.t rfl) ⟨_, _, rfl, rfl, by first | (simp; done) | (intro hg_ hp_; simp [hp_]; done) | (simp <;> omega; done) | (simp_all; done) | grind⟩) rfl ?_
      refine W.nil ?_
      refine W.then ?_
      refine W.is (t := 31) (g := true) (av' := .lit (.bool false)) rfl (congrArg (fun b => AV.lit (.bool b)) (by rw [hA, hP]; rfl)) ?_
      refine W.condF (.t rfl) ?_
      refine W.skip ?_
      refine W.then ?_
      refine W.seq ?_
      refine W.region ?_
      refine W.q (Ev.move (.t rfl)) rfl ?_
      first | refine W.q (Ev.fae (.t rfl) fa69_2 rfl) rfl ?_ | refine W.q (Ev.fab (.t rfl) fa69_2) rfl ?_ | refine W.q (Ev.faa (.t rfl) fa69_2) rfl ?_
      first | refine W.q (Ev.lde1 (.t rfl) ag9) rfl ?_ | refine W.q (Ev.ldb1 0 (.t rfl) rfl ag9 rfl) rfl ?_ | refine W.q (Ev.ldb1 1 (.t rfl) rfl ag9 rfl) rfl ?_ | refine W.q (Ev.ldb1 2 (.t rfl) rfl ag9 rfl) rfl ?_ | refine W.q (Ev.ldb1 3 (.t rfl) rfl ag9 rfl) rfl ?_
      refine W.q (Ev.move (.t rfl)) rfl ?_
      refine W.q (Ev.build ty49 st49 rfl (fun hg => ⟨_, _, _, rfl, (.t rfl), rfl, rfl, rfl, _, _, _, rfl, (.t rfl), rfl, rfl, rfl, rfl⟩)) rfl ?_
      refine W.bs (es := [_]) Tryd.underlying29 ty49 ⟨rfl, (.t rfl), rfl, rfl, trivial⟩ rfl (by decide) rfl rfl ?_
      first | refine W.app 0 (.t rfl) rfl (.sl (.t rfl) (by first | (simp [AV.okc, shV]; done) | (intro e he; rw [List.mem_singleton.1 he]; rfl))) Tryd.underlying29 ni29 ty49 rfl rfl (by simp only [List.length_map, List.length_cons, List.length_nil]; omega) rfl ?_ | refine W.app 1 (.t rfl) rfl (.sl (.t rfl) (by first | (simp [AV.okc, shV]; done) | (intro e he; rw [List.mem_singleton.1 he]; rfl))) Tryd.underlying29 ni29 ty49 rfl rfl (by simp only [List.length_map, List.length_cons, List.length_nil]; omega) rfl ?_ | refine W.app 2 (.t rfl) rfl (.sl (.t rfl) (by first | (simp [AV.okc, shV]; done) | (intro e he; rw [List.mem_singleton.1 he]; rfl))) Tryd.underlying29 ni29 ty49 rfl rfl (by simp only [List.length_map, List.length_cons, List.length_nil]; omega) rfl ?_ | refine W.app 3 (.t rfl) rfl (.sl (.t rfl) (by first | (simp [AV.okc, shV]; done) | (intro e he; rw [List.mem_singleton.1 he]; rfl))) Tryd.underlying29 ni29 ty49 rfl rfl (by simp only [List.length_map, List.length_cons, List.length_nil]; omega) rfl ?_ | refine W.app 0 (.t rfl) rfl (.arr 0 (.t rfl) rfl (by first | (simp [AV.okc, shV]; done) | (intro e he; rw [List.mem_singleton.1 he]; rfl))) Tryd.underlying29 ni29 ty49 rfl rfl (by simp only [List.length_map, List.length_cons, List.length_nil]; omega) rfl ?_ | refine W.app 0 (.t rfl) rfl (.arr 1 (.t rfl) rfl (by first | (simp [AV.okc, shV]; done) | (intro e he; rw [List.mem_singleton.1 he]; rfl))) Tryd.underlying29 ni29 ty49 rfl rfl (by simp only [List.length_map, List.length_cons, List.length_nil]; omega) rfl ?_ | refine W.app 0 (.t rfl) rfl (.arr 2 (.t rfl) rfl (by first | (simp [AV.okc, shV]; done) | (intro e he; rw [List.mem_singleton.1 he]; rfl))) Tryd.underlying29 ni29 ty49 rfl rfl (by simp only [List.length_map, List.length_cons, List.length_nil]; omega) rfl ?_ | refine W.app 0 (.t rfl) rfl (.arr 3 (.t rfl) rfl (by first | (simp [AV.okc, shV]; done) | (intro e he; rw [List.mem_singleton.1 he]; rfl))) Tryd.underlying29 ni29 ty49 rfl rfl (by simp only [List.length_map, List.length_cons, List.length_nil]; omega) rfl ?_ | refine W.app 1 (.t rfl) rfl (.arr 0 (.t rfl) rfl (by first | (simp [AV.okc, shV]; done) | (intro e he; rw [List.mem_singleton.1 he]; rfl))) Tryd.underlying29 ni29 ty49 rfl rfl (by simp only [List.length_map, List.length_cons, List.length_nil]; omega) rfl ?_ | refine W.app 1 (.t rfl) rfl (.arr 1 (.t rfl) rfl (by first | (simp [AV.okc, shV]; done) | (intro e he; rw [List.mem_singleton.1 he]; rfl))) Tryd.underlying29 ni29 ty49 rfl rfl (by simp only [List.length_map, List.length_cons, List.length_nil]; omega) rfl ?_ | refine W.app 1 (.t rfl) rfl (.arr 2 (.t rfl) rfl (by first | (simp [AV.okc, shV]; done) | (intro e he; rw [List.mem_singleton.1 he]; rfl))) Tryd.underlying29 ni29 ty49 rfl rfl (by simp only [List.length_map, List.length_cons, List.length_nil]; omega) rfl ?_ | refine W.app 1 (.t rfl) rfl (.arr 3 (.t rfl) rfl (by first | (simp [AV.okc, shV]; done) | (intro e he; rw [List.mem_singleton.1 he]; rfl))) Tryd.underlying29 ni29 ty49 rfl rfl (by simp only [List.length_map, List.length_cons, List.length_nil]; omega) rfl ?_ | refine W.app 2 (.t rfl) rfl (.arr 0 (.t rfl) rfl (by first | (simp [AV.okc, shV]; done) | (intro e he; rw [List.mem_singleton.1 he]; rfl))) Tryd.underlying29 ni29 ty49 rfl rfl (by simp only [List.length_map, List.length_cons, List.length_nil]; omega) rfl ?_ | refine W.app 2 (.t rfl) rfl (.arr 1 (.t rfl) rfl (by first | (simp [AV.okc, shV]; done) | (intro e he; rw [List.mem_singleton.1 he]; rfl))) Tryd.underlying29 ni29 ty49 rfl rfl (by simp only [List.length_map, List.length_cons, List.length_nil]; omega) rfl ?_ | refine W.app 2 (.t rfl) rfl (.arr 2 (.t rfl) rfl (by first | (simp [AV.okc, shV]; done) | (intro e he; rw [List.mem_singleton.1 he]; rfl))) Tryd.underlying29 ni29 ty49 rfl rfl (by simp only [List.length_map, List.length_cons, List.length_nil]; omega) rfl ?_ | refine W.app 2 (.t rfl) rfl (.arr 3 (.t rfl) rfl (by first | (simp [AV.okc, shV]; done) | (intro e he; rw [List.mem_singleton.1 he]; rfl))) Tryd.underlying29 ni29 ty49 rfl rfl (by simp only [List.length_map, List.length_cons, List.length_nil]; omega) rfl ?_ | refine W.app 3 (.t rfl) rfl (.arr 0 (.t rfl) rfl (by first | (simp [AV.okc, shV]; done) | (intro e he; rw [List.mem_singleton.1 he]; rfl))) Tryd.underlying29 ni29 ty49 rfl rfl (by simp only [List.length_map, List.length_cons, List.length_nil]; omega) rfl ?_ | refine W.app 3 (.t rfl) rfl (.arr 1 (.t rfl) rfl (by first | (simp [AV.okc, shV]; done) | (intro e he; rw [List.mem_singleton.1 he]; rfl))) Tryd.underlying29 ni29 ty49 rfl rfl (by simp only [List.length_map, List.length_cons, List.length_nil]; omega) rfl ?_ | refine W.app 3 (.t rfl) rfl (.arr 2 (.t rfl) rfl (by first | (simp [AV.okc, shV]; done) | (intro e he; rw [List.mem_singleton.1 he]; rfl))) Tryd.underlying29 ni29 ty49 rfl rfl (by simp only [List.length_map, List.length_cons, List.length_nil]; omega) rfl ?_ | refine W.app 3 (.t rfl) rfl (.arr 3 (.t rfl) rfl (by first | (simp [AV.okc, shV]; done) | (intro e he; rw [List.mem_singleton.1 he]; rfl))) Tryd.underlying29 ni29 ty49 rfl rfl (by simp only [List.length_map, List.length_cons, List.length_nil]; omega) rfl ?_
      intro v38
      refine W.q (Ev.assign (.t rfl)) rfl ?_
      refine W.nil ?_
      refine W.then ?_
      refine W.exit ?_
      refine W.then_exit ?_
      refine W.blk_hit ?_
      refine W.then ?_
      refine W.region ?_
      first | refine W.q (Ev.add (.t rfl) .k (fun _ => by omega)) rfl ?_ | refine W.q (Ev.addw (.t rfl) .k) rfl ?_
      refine W.q (Ev.move (.t rfl)) rfl ?_
      refine W.nil ?_
      refine W.then ?_
      first
      | (refine W.reach (D := [_]) (i + 1, v38) ⟨rfl, rfl, rfl, rfl, rfl, rfl, trivial⟩ (by rw [hsn, List.map_append]; exact List.Perm.swap _ _ []) ⟨by show i + 1 ≤ _; omega, by show _ - (i + 1) < _; omega⟩)
      | (refine W.reach (D := [_]) (i + 1, v71) ⟨rfl, rfl, rfl, rfl, rfl, rfl, trivial⟩ (by rw [hsn, List.map_append]; exact List.Perm.swap _ _ []) ⟨by show i + 1 ≤ _; omega, by show _ - (i + 1) < _; omega⟩)
    · have hnm : d.name ≠ [] := by simpa using hc_t21
      rw [Mrk.flat1_eq, if_neg hnm] at hsn
      rw [Mrk.okn_eq, if_neg hnm] at hokd
      simp only [Bool.and_eq_true, List.isEmpty_iff] at hokd
      obtain ⟨hA, ⟨hT, hC⟩, hokp⟩ := hokd
      have hfl2 := Mrk.flatL_len _ d.parts (w ++ [d.name]) (Nat.le_refl _)
      have hih := fun v => ih d.parts (w ++ [d.name]) v (by omega) hokp (by rw [List.length_append, List.length_singleton]; omega)
      simp only [List.map_append, List.map_cons, List.map_nil] at hih
      refine W.skip ?_
      refine W.then ?_
      refine W.seq ?_
      refine W.seq ?_
      refine W.region ?_
      first | refine W.q (Ev.fae (.t rfl) fa69_1 rfl) rfl ?_ | refine W.q (Ev.fab (.t rfl) fa69_1) rfl ?_ | refine W.q (Ev.faa (.t rfl) fa69_1) rfl ?_
      first | refine W.q (Ev.lde1 (.t rfl) ag67) rfl ?_ | refine W.q (Ev.ldb1 0 (.t rfl) rfl ag67 rfl) rfl ?_ | refine W.q (Ev.ldb1 1 (.t rfl) rfl ag67 rfl) rfl ?_ | refine W.q (Ev.ldb1 2 (.t rfl) rfl ag67 rfl) rfl ?_ | refine W.q (Ev.ldb1 3 (.t rfl) rfl ag67 rfl) rfl ?_
      first | refine W.q (Ev.lensl (.t rfl) Tryd.underlying67) rfl ?_ | refine W.q (Ev.lenar (i := 0) (.t rfl) rfl Tryd.underlying67) rfl ?_ | refine W.q (Ev.lenar (i := 1) (.t rfl) rfl Tryd.underlying67) rfl ?_ | refine W.q (Ev.lenar (i := 2) (.t rfl) rfl Tryd.underlying67) rfl ?_ | refine W.q (Ev.lenar (i := 3) (.t rfl) rfl Tryd.underlying67) rfl ?_
      refine W.q (Ev.gti (.t rfl) .k) rfl ?_
      refine W.q (Ev.move (.t rfl)) rfl ?_
      first | refine W.qgF rfl rfl (Ev.fae (.t rfl) fa69_2 rfl) rfl ?_ | refine W.qgF rfl rfl (Ev.fab (.t rfl) fa69_2) rfl ?_ | refine W.qgF rfl rfl (Ev.faa (.t rfl) fa69_2) rfl ?_
      first | refine W.qgF rfl rfl (Ev.lde1 (.c rfl) ag9) rfl ?_ | refine W.qgF rfl rfl (Ev.ldb1 0 (.c rfl) rfl ag9 rfl) rfl ?_ | refine W.qgF rfl rfl (Ev.ldb1 1 (.c rfl) rfl ag9 rfl) rfl ?_ | refine W.qgF rfl rfl (Ev.ldb1 2 (.c rfl) rfl ag9 rfl) rfl ?_ | refine W.qgF rfl rfl (Ev.ldb1 3 (.c rfl) rfl ag9 rfl) rfl ?_
      refine W.qgF rfl rfl (Ev.nes (.c rfl) .k) rfl ?_
      refine W.q (Ev.or (.t rfl) ⟨_, _, rfl, rfl, by first | (simp; done) | (intro hg_ hp_; simp [hp_]; done) | (simp <;> omega; done) | (simp_all; done) | grind⟩) rfl ?_
      refine W.nil ?_
      refine W.then ?_
      refine W.is (t := 47) (g := true) (av' := .lit (.bool false)) rfl (congrArg (fun b => AV.lit (.bool b)) (by rw [hA, hT]; rfl)) ?_
      refine W.condF (.t rfl) ?_
      refine W.skip ?_
      refine W.then ?_
      refine W.seq ?_
      refine W.seq ?_
      refine W.region ?_
      refine W.q (Ev.move (.t rfl)) rfl ?_
      first | refine W.q (Ev.fae (.t rfl) fa69_0 rfl) rfl ?_ | refine W.q (Ev.fab (.t rfl) fa69_0) rfl ?_ | refine W.q (Ev.faa (.t rfl) fa69_0) rfl ?_
      first | refine W.q (Ev.lde1 (.t rfl) ag9) rfl ?_ | refine W.q (Ev.ldb1 0 (.t rfl) rfl ag9 rfl) rfl ?_ | refine W.q (Ev.ldb1 1 (.t rfl) rfl ag9 rfl) rfl ?_ | refine W.q (Ev.ldb1 2 (.t rfl) rfl ag9 rfl) rfl ?_ | refine W.q (Ev.ldb1 3 (.t rfl) rfl ag9 rfl) rfl ?_
      refine W.callp (WLib.c_Contains ms d.name (by omega)) ⟨(.t rfl), (.t rfl), trivial⟩ rfl ?_
      refine W.q (Ev.not (.t rfl)) rfl ?_
      refine W.nil ?_
      refine W.then ?_
      refine W.is (t := 52) (g := true) (av' := .lit (.bool false)) rfl (congrArg (fun b => AV.lit (.bool b)) (by rw [Mrk.any_has, hC]; rfl)) ?_
      refine W.condF (.t rfl) ?_
      refine W.skip ?_
      refine W.then ?_
      refine W.seq ?_
      refine W.drawnM (fun ee c => [.box b10 69 [.str d.name, .sl 2 (d.attrs.map dav), .str d.text, .sl 4 (d.parts.map Nd.av)], .arr v8 49 2 ((Mrk.flatL w (l.take i)).map rnav)] ++ (bif ee 9 then [] else bif ee 8 then [.arr (c 8).2 9 1 (w.map AV.str ++ [AV.str d.name])] else bif ee 4 then [.arr (c 4).2 9 1 (w.map AV.str)] else [])) (c0 := ks0) (by kernel_rfl) (by kernel_rfl) rfl ?_
      refine DM.q (fun e c hk => (Ev.move (.t rfl))) rfl (fun _ _ => rfl) (fun c c_ h => by first | rfl) ?_
      first | refine DM.q (fun e c hk => (Ev.fae (.t rfl) fa69_3 rfl)) rfl (fun _ _ => rfl) (fun c c_ h => by first | rfl) ?_ | refine DM.q (fun e c hk => (Ev.fab (.t rfl) fa69_3)) rfl (fun _ _ => rfl) (fun c c_ h => by first | rfl) ?_ | refine DM.q (fun e c hk => (Ev.faa (.t rfl) fa69_3)) rfl (fun _ _ => rfl) (fun c c_ h => by first | rfl) ?_
      first | refine DM.q (fun e c hk => (Ev.lde1 (.t rfl) ag25)) rfl (fun _ _ => rfl) (fun c c_ h => by first | rfl) ?_ | refine DM.q (fun e c hk => (Ev.ldb1 0 (.t rfl) rfl ag25 rfl)) rfl (fun _ _ => rfl) (fun c c_ h => by first | rfl) ?_ | refine DM.q (fun e c hk => (Ev.ldb1 1 (.t rfl) rfl ag25 rfl)) rfl (fun _ _ => rfl) (fun c c_ h => by first | rfl) ?_ | refine DM.q (fun e c hk => (Ev.ldb1 2 (.t rfl) rfl ag25 rfl)) rfl (fun _ _ => rfl) (fun c c_ h => by first | rfl) ?_ | refine DM.q (fun e c hk => (Ev.ldb1 3 (.t rfl) rfl ag25 rfl)) rfl (fun _ _ => rfl) (fun c c_ h => by first | rfl) ?_
      refine DM.q (fun e c hk => (Ev.move (.t rfl))) rfl (fun _ _ => rfl) (fun c c_ h => by first | rfl) ?_
      refine DM.eff1 (av := fun c => .lit (c 4).2) rfl (fun c c_ h => by first | rfl | simp only [h 4 (by first | exact .inl rfl | exact .inr (by kernel_rfl))]) (fun e c hk L_ hs Q h => ?_) ?_
      · have hk_4 := hk.not
        have hk_8 := hk.down 8 (by kernel_rfl)
        have hk_9 := hk.down 9 (by kernel_rfl)
        simp only [addE, upd, eq_self, List.nil_append, List.cons_append, List.append_nil, hk_4, hk_8, hk_9, Nat.reduceAdd, Nat.reduceEqDiff, ↓reduceIte, cond_true, cond_false] at h ⊢
        refine W.call (WMrkL.c_CloneSO (w.map AV.str) (okc_strs w) (by omega)) ⟨(.t (hs _ _ rfl)), trivial⟩ (.refl _) rfl ?_
        rintro _ _ ⟨v58, rfl, rfl⟩
        exact h (0, v58) _ (((List.perm_middle (l₁ := [_])).trans <| List.Perm.cons _ <| (List.perm_middle (l₁ := [_])).trans <| List.Perm.cons _ <| List.Perm.cons _ <| .refl _))
      first | refine DM.q (fun e c hk => (Ev.fae (.t rfl) fa69_0 rfl)) rfl (fun _ _ => rfl) (fun c c_ h => by first | rfl) ?_ | refine DM.q (fun e c hk => (Ev.fab (.t rfl) fa69_0)) rfl (fun _ _ => rfl) (fun c c_ h => by first | rfl) ?_ | refine DM.q (fun e c hk => (Ev.faa (.t rfl) fa69_0)) rfl (fun _ _ => rfl) (fun c c_ h => by first | rfl) ?_
      first | refine DM.q (fun e c hk => (Ev.lde1 (.t rfl) ag9)) rfl (fun _ _ => rfl) (fun c c_ h => by first | rfl) ?_ | refine DM.q (fun e c hk => (Ev.ldb1 0 (.t rfl) rfl ag9 rfl)) rfl (fun _ _ => rfl) (fun c c_ h => by first | rfl) ?_ | refine DM.q (fun e c hk => (Ev.ldb1 1 (.t rfl) rfl ag9 rfl)) rfl (fun _ _ => rfl) (fun c c_ h => by first | rfl) ?_ | refine DM.q (fun e c hk => (Ev.ldb1 2 (.t rfl) rfl ag9 rfl)) rfl (fun _ _ => rfl) (fun c c_ h => by first | rfl) ?_ | refine DM.q (fun e c hk => (Ev.ldb1 3 (.t rfl) rfl ag9 rfl)) rfl (fun _ _ => rfl) (fun c c_ h => by first | rfl) ?_
      refine DM.bs (es := fun _ => [_]) Tryd.underlying23 ty9 (fun c => ⟨rfl, (.t rfl), rfl, rfl, trivial⟩) (fun _ => rfl) (by decide) rfl rfl (fun _ _ => rfl) (fun c c_ h => by first | rfl) ?_
      refine DM.eff1 (av := fun c => .lit (c 8).2) rfl (fun c c_ h => by first | rfl | simp only [h 4 (by first | exact .inl rfl | exact .inr (by kernel_rfl)), h 8 (by first | exact .inl rfl | exact .inr (by kernel_rfl))]) (fun e c hk L_ hs Q h => ?_) ?_
      · have hk_8 := hk.not
        have hk_4 := hk.up 4 (by kernel_rfl)
        have hk_9 := hk.down 9 (by kernel_rfl)
        simp only [addE, upd, eq_self, List.nil_append, List.cons_append, List.append_nil, hk_8, hk_4, hk_9, Nat.reduceAdd, Nat.reduceEqDiff, ↓reduceIte, cond_true, cond_false] at h ⊢
        first | (refine W.app 0 (.t (hs _ _ rfl)) rfl (.sl (.t (hs _ _ rfl)) (by first | (simp [AV.okc, shV]; done) | (intro e he; rw [List.mem_singleton.1 he]; rfl))) Tryd.underlying23 ni23 ty9 rfl rfl (by simp only [List.length_map, List.length_cons, List.length_nil]; omega) rfl ?_; exact fun v => h (0, v) _ (by first | exact .refl _ | exact (List.perm_middle (l₁ := [_])).symm | exact (List.perm_middle (l₁ := [_, _])).symm | exact (List.perm_middle (l₁ := [_, _, _])).symm | exact (List.perm_middle (l₁ := [_, _, _, _])).symm | exact (List.perm_middle (l₁ := [_, _, _, _, _])).symm | exact (List.perm_middle (l₁ := [_, _, _, _, _, _])).symm | exact (List.perm_middle (l₁ := [_, _, _, _, _, _, _])).symm | exact (List.perm_middle (l₁ := [_, _, _, _, _, _, _, _])).symm)) | (refine W.app 1 (.t (hs _ _ rfl)) rfl (.sl (.t (hs _ _ rfl)) (by first | (simp [AV.okc, shV]; done) | (intro e he; rw [List.mem_singleton.1 he]; rfl))) Tryd.underlying23 ni23 ty9 rfl rfl (by simp only [List.length_map, List.length_cons, List.length_nil]; omega) rfl ?_; exact fun v => h (0, v) _ (by first | exact .refl _ | exact (List.perm_middle (l₁ := [_])).symm | exact (List.perm_middle (l₁ := [_, _])).symm | exact (List.perm_middle (l₁ := [_, _, _])).symm | exact (List.perm_middle (l₁ := [_, _, _, _])).symm | exact (List.perm_middle (l₁ := [_, _, _, _, _])).symm | exact (List.perm_middle (l₁ := [_, _, _, _, _, _])).symm | exact (List.perm_middle (l₁ := [_, _, _, _, _, _, _])).symm | exact (List.perm_middle (l₁ := [_, _, _, _, _, _, _, _])).symm)) | (refine W.app 2 (.t (hs _ _ rfl)) rfl (.sl (.t (hs _ _ rfl)) (by first | (simp [AV.okc, shV]; done) | (intro e he; rw [List.mem_singleton.1 he]; rfl))) Tryd.underlying23 ni23 ty9 rfl rfl (by simp only [List.length_map, List.length_cons, List.length_nil]; omega) rfl ?_; exact fun v => h (0, v) _ (by first | exact .refl _ | exact (List.perm_middle (l₁ := [_])).symm | exact (List.perm_middle (l₁ := [_, _])).symm | exact (List.perm_middle (l₁ := [_, _, _])).symm | exact (List.perm_middle (l₁ := [_, _, _, _])).symm | exact (List.perm_middle (l₁ := [_, _, _, _, _])).symm | exact (List.perm_middle (l₁ := [_, _, _, _, _, _])).symm | exact (List.perm_middle (l₁ := [_, _, _, _, _, _, _])).symm | exact (List.perm_middle (l₁ := [_, _, _, _, _, _, _, _])).symm)) | (refine W.app 3 (.t (hs _ _ rfl)) rfl (.sl (.t (hs _ _ rfl)) (by first | (simp [AV.okc, shV]; done) | (intro e he; rw [List.mem_singleton.1 he]; rfl))) Tryd.underlying23 ni23 ty9 rfl rfl (by simp only [List.length_map, List.length_cons, List.length_nil]; omega) rfl ?_; exact fun v => h (0, v) _ (by first | exact .refl _ | exact (List.perm_middle (l₁ := [_])).symm | exact (List.perm_middle (l₁ := [_, _])).symm | exact (List.perm_middle (l₁ := [_, _, _])).symm | exact (List.perm_middle (l₁ := [_, _, _, _])).symm | exact (List.perm_middle (l₁ := [_, _, _, _, _])).symm | exact (List.perm_middle (l₁ := [_, _, _, _, _, _])).symm | exact (List.perm_middle (l₁ := [_, _, _, _, _, _, _])).symm | exact (List.perm_middle (l₁ := [_, _, _, _, _, _, _, _])).symm)) | (refine W.app 0 (.t (hs _ _ rfl)) rfl (.arr 0 (.t (hs _ _ rfl)) rfl (by first | (simp [AV.okc, shV]; done) | (intro e he; rw [List.mem_singleton.1 he]; rfl))) Tryd.underlying23 ni23 ty9 rfl rfl (by simp only [List.length_map, List.length_cons, List.length_nil]; omega) rfl ?_; exact fun v => h (0, v) _ (by first | exact .refl _ | exact (List.perm_middle (l₁ := [_])).symm | exact (List.perm_middle (l₁ := [_, _])).symm | exact (List.perm_middle (l₁ := [_, _, _])).symm | exact (List.perm_middle (l₁ := [_, _, _, _])).symm | exact (List.perm_middle (l₁ := [_, _, _, _, _])).symm | exact (List.perm_middle (l₁ := [_, _, _, _, _, _])).symm | exact (List.perm_middle (l₁ := [_, _, _, _, _, _, _])).symm | exact (List.perm_middle (l₁ := [_, _, _, _, _, _, _, _])).symm)) | (refine W.app 1 (.t (hs _ _ rfl)) rfl (.arr 0 (.t (hs _ _ rfl)) rfl (by first | (simp [AV.okc, shV]; done) | (intro e he; rw [List.mem_singleton.1 he]; rfl))) Tryd.underlying23 ni23 ty9 rfl rfl (by simp only [List.length_map, List.length_cons, List.length_nil]; omega) rfl ?_; exact fun v => h (0, v) _ (by first | exact .refl _ | exact (List.perm_middle (l₁ := [_])).symm | exact (List.perm_middle (l₁ := [_, _])).symm | exact (List.perm_middle (l₁ := [_, _, _])).symm | exact (List.perm_middle (l₁ := [_, _, _, _])).symm | exact (List.perm_middle (l₁ := [_, _, _, _, _])).symm | exact (List.perm_middle (l₁ := [_, _, _, _, _, _])).symm | exact (List.perm_middle (l₁ := [_, _, _, _, _, _, _])).symm | exact (List.perm_middle (l₁ := [_, _, _, _, _, _, _, _])).symm)) | (refine W.app 2 (.t (hs _ _ rfl)) rfl (.arr 0 (.t (hs _ _ rfl)) rfl (by first | (simp [AV.okc, shV]; done) | (intro e he; rw [List.mem_singleton.1 he]; rfl))) Tryd.underlying23 ni23 ty9 rfl rfl (by simp only [List.length_map, List.length_cons, List.length_nil]; omega) rfl ?_; exact fun v => h (0, v) _ (by first | exact .refl _ | exact (List.perm_middle (l₁ := [_])).symm | exact (List.perm_middle (l₁ := [_, _])).symm | exact (List.perm_middle (l₁ := [_, _, _])).symm | exact (List.perm_middle (l₁ := [_, _, _, _])).symm | exact (List.perm_middle (l₁ := [_, _, _, _, _])).symm | exact (List.perm_middle (l₁ := [_, _, _, _, _, _])).symm | exact (List.perm_middle (l₁ := [_, _, _, _, _, _, _])).symm | exact (List.perm_middle (l₁ := [_, _, _, _, _, _, _, _])).symm)) | (refine W.app 3 (.t (hs _ _ rfl)) rfl (.arr 0 (.t (hs _ _ rfl)) rfl (by first | (simp [AV.okc, shV]; done) | (intro e he; rw [List.mem_singleton.1 he]; rfl))) Tryd.underlying23 ni23 ty9 rfl rfl (by simp only [List.length_map, List.length_cons, List.length_nil]; omega) rfl ?_; exact fun v => h (0, v) _ (by first | exact .refl _ | exact (List.perm_middle (l₁ := [_])).symm | exact (List.perm_middle (l₁ := [_, _])).symm | exact (List.perm_middle (l₁ := [_, _, _])).symm | exact (List.perm_middle (l₁ := [_, _, _, _])).symm | exact (List.perm_middle (l₁ := [_, _, _, _, _])).symm | exact (List.perm_middle (l₁ := [_, _, _, _, _, _])).symm | exact (List.perm_middle (l₁ := [_, _, _, _, _, _, _])).symm | exact (List.perm_middle (l₁ := [_, _, _, _, _, _, _, _])).symm)) | (refine W.app 0 (.t (hs _ _ rfl)) rfl (.arr 1 (.t (hs _ _ rfl)) rfl (by first | (simp [AV.okc, shV]; done) | (intro e he; rw [List.mem_singleton.1 he]; rfl))) Tryd.underlying23 ni23 ty9 rfl rfl (by simp only [List.length_map, List.length_cons, List.length_nil]; omega) rfl ?_; exact fun v => h (0, v) _ (by first | exact .refl _ | exact (List.perm_middle (l₁ := [_])).symm | exact (List.perm_middle (l₁ := [_, _])).symm | exact (List.perm_middle (l₁ := [_, _, _])).symm | exact (List.perm_middle (l₁ := [_, _, _, _])).symm | exact (List.perm_middle (l₁ := [_, _, _, _, _])).symm | exact (List.perm_middle (l₁ := [_, _, _, _, _, _])).symm | exact (List.perm_middle (l₁ := [_, _, _, _, _, _, _])).symm | exact (List.perm_middle (l₁ := [_, _, _, _, _, _, _, _])).symm)) | (refine W.app 1 (.t (hs _ _ rfl)) rfl (.arr 1 (.t (hs _ _ rfl)) rfl (by first | (simp [AV.okc, shV]; done) | (intro e he; rw [List.mem_singleton.1 he]; rfl))) Tryd.underlying23 ni23 ty9 rfl rfl (by simp only [List.length_map, List.length_cons, List.length_nil]; omega) rfl ?_; exact fun v => h (0, v) _ (by first | exact .refl _ | exact (List.perm_middle (l₁ := [_])).symm | exact (List.perm_middle (l₁ := [_, _])).symm | exact (List.perm_middle (l₁ := [_, _, _])).symm | exact (List.perm_middle (l₁ := [_, _, _, _])).symm | exact (List.perm_middle (l₁ := [_, _, _, _, _])).symm | exact (List.perm_middle (l₁ := [_, _, _, _, _, _])).symm | exact (List.perm_middle (l₁ := [_, _, _, _, _, _, _])).symm | exact (List.perm_middle (l₁ := [_, _, _, _, _, _, _, _])).symm)) | (refine W.app 2 (.t (hs _ _ rfl)) rfl (.arr 1 (.t (hs _ _ rfl)) rfl (by first | (simp [AV.okc, shV]; done) | (intro e he; rw [List.mem_singleton.1 he]; rfl))) Tryd.underlying23 ni23 ty9 rfl rfl (by simp only [List.length_map, List.length_cons, List.length_nil]; omega) rfl ?_; exact fun v => h (0, v) _ (by first | exact .refl _ | exact (List.perm_middle (l₁ := [_])).symm | exact (List.perm_middle (l₁ := [_, _])).symm | exact (List.perm_middle (l₁ := [_, _, _])).symm | exact (List.perm_middle (l₁ := [_, _, _, _])).symm | exact (List.perm_middle (l₁ := [_, _, _, _, _])).symm | exact (List.perm_middle (l₁ := [_, _, _, _, _, _])).symm | exact (List.perm_middle (l₁ := [_, _, _, _, _, _, _])).symm | exact (List.perm_middle (l₁ := [_, _, _, _, _, _, _, _])).symm)) | (refine W.app 3 (.t (hs _ _ rfl)) rfl (.arr 1 (.t (hs _ _ rfl)) rfl (by first | (simp [AV.okc, shV]; done) | (intro e he; rw [List.mem_singleton.1 he]; rfl))) Tryd.underlying23 ni23 ty9 rfl rfl (by simp only [List.length_map, List.length_cons, List.length_nil]; omega) rfl ?_; exact fun v => h (0, v) _ (by first | exact .refl _ | exact (List.perm_middle (l₁ := [_])).symm | exact (List.perm_middle (l₁ := [_, _])).symm | exact (List.perm_middle (l₁ := [_, _, _])).symm | exact (List.perm_middle (l₁ := [_, _, _, _])).symm | exact (List.perm_middle (l₁ := [_, _, _, _, _])).symm | exact (List.perm_middle (l₁ := [_, _, _, _, _, _])).symm | exact (List.perm_middle (l₁ := [_, _, _, _, _, _, _])).symm | exact (List.perm_middle (l₁ := [_, _, _, _, _, _, _, _])).symm)) | (refine W.app 0 (.t (hs _ _ rfl)) rfl (.arr 2 (.t (hs _ _ rfl)) rfl (by first | (simp [AV.okc, shV]; done) | (intro e he; rw [List.mem_singleton.1 he]; rfl))) Tryd.underlying23 ni23 ty9 rfl rfl (by simp only [List.length_map, List.length_cons, List.length_nil]; omega) rfl ?_; exact fun v => h (0, v) _ (by first | exact .refl _ | exact (List.perm_middle (l₁ := [_])).symm | exact (List.perm_middle (l₁ := [_, _])).symm | exact (List.perm_middle (l₁ := [_, _, _])).symm | exact (List.perm_middle (l₁ := [_, _, _, _])).symm | exact (List.perm_middle (l₁ := [_, _, _, _, _])).symm | exact (List.perm_middle (l₁ := [_, _, _, _, _, _])).symm | exact (List.perm_middle (l₁ := [_, _, _, _, _, _, _])).symm | exact (List.perm_middle (l₁ := [_, _, _, _, _, _, _, _])).symm)) | (refine W.app 1 (.t (hs _ _ rfl)) rfl (.arr 2 (.t (hs _ _ rfl)) rfl (by first | (simp [AV.okc, shV]; done) | (intro e he; rw [List.mem_singleton.1 he]; rfl))) Tryd.underlying23 ni23 ty9 rfl rfl (by simp only [List.length_map, List.length_cons, List.length_nil]; omega) rfl ?_; exact fun v => h (0, v) _ (by first | exact .refl _ | exact (List.perm_middle (l₁ := [_])).symm | exact (List.perm_middle (l₁ := [_, _])).symm | exact (List.perm_middle (l₁ := [_, _, _])).symm | exact (List.perm_middle (l₁ := [_, _, _, _])).symm | exact (List.perm_middle (l₁ := [_, _, _, _, _])).symm | exact (List.perm_middle (l₁ := [_, _, _, _, _, _])).symm | exact (List.perm_middle (l₁ := [_, _, _, _, _, _, _])).symm | exact (List.perm_middle (l₁ := [_, _, _, _, _, _, _, _])).symm)) | (refine W.app 2 (.t (hs _ _ rfl)) rfl (.arr 2 (.t (hs _ _ rfl)) rfl (by first | (simp [AV.okc, shV]; done) | (intro e he; rw [List.mem_singleton.1 he]; rfl))) Tryd.underlying23 ni23 ty9 rfl rfl (by simp only [List.length_map, List.length_cons, List.length_nil]; omega) rfl ?_; exact fun v => h (0, v) _ (by first | exact .refl _ | exact (List.perm_middle (l₁ := [_])).symm | exact (List.perm_middle (l₁ := [_, _])).symm | exact (List.perm_middle (l₁ := [_, _, _])).symm | exact (List.perm_middle (l₁ := [_, _, _, _])).symm | exact (List.perm_middle (l₁ := [_, _, _, _, _])).symm | exact (List.perm_middle (l₁ := [_, _, _, _, _, _])).symm | exact (List.perm_middle (l₁ := [_, _, _, _, _, _, _])).symm | exact (List.perm_middle (l₁ := [_, _, _, _, _, _, _, _])).symm)) | (refine W.app 3 (.t (hs _ _ rfl)) rfl (.arr 2 (.t (hs _ _ rfl)) rfl (by first | (simp [AV.okc, shV]; done) | (intro e he; rw [List.mem_singleton.1 he]; rfl))) Tryd.underlying23 ni23 ty9 rfl rfl (by simp only [List.length_map, List.length_cons, List.length_nil]; omega) rfl ?_; exact fun v => h (0, v) _ (by first | exact .refl _ | exact (List.perm_middle (l₁ := [_])).symm | exact (List.perm_middle (l₁ := [_, _])).symm | exact (List.perm_middle (l₁ := [_, _, _])).symm | exact (List.perm_middle (l₁ := [_, _, _, _])).symm | exact (List.perm_middle (l₁ := [_, _, _, _, _])).symm | exact (List.perm_middle (l₁ := [_, _, _, _, _, _])).symm | exact (List.perm_middle (l₁ := [_, _, _, _, _, _, _])).symm | exact (List.perm_middle (l₁ := [_, _, _, _, _, _, _, _])).symm)) | (refine W.app 0 (.t (hs _ _ rfl)) rfl (.arr 3 (.t (hs _ _ rfl)) rfl (by first | (simp [AV.okc, shV]; done) | (intro e he; rw [List.mem_singleton.1 he]; rfl))) Tryd.underlying23 ni23 ty9 rfl rfl (by simp only [List.length_map, List.length_cons, List.length_nil]; omega) rfl ?_; exact fun v => h (0, v) _ (by first | exact .refl _ | exact (List.perm_middle (l₁ := [_])).symm | exact (List.perm_middle (l₁ := [_, _])).symm | exact (List.perm_middle (l₁ := [_, _, _])).symm | exact (List.perm_middle (l₁ := [_, _, _, _])).symm | exact (List.perm_middle (l₁ := [_, _, _, _, _])).symm | exact (List.perm_middle (l₁ := [_, _, _, _, _, _])).symm | exact (List.perm_middle (l₁ := [_, _, _, _, _, _, _])).symm | exact (List.perm_middle (l₁ := [_, _, _, _, _, _, _, _])).symm)) | (refine W.app 1 (.t (hs _ _ rfl)) rfl (.arr 3 (.t (hs _ _ rfl)) rfl (by first | (simp [AV.okc, shV]; done) | (intro e he; rw [List.mem_singleton.1 he]; rfl))) Tryd.underlying23 ni23 ty9 rfl rfl (by simp only [List.length_map, List.length_cons, List.length_nil]; omega) rfl ?_; exact fun v => h (0, v) _ (by first | exact .refl _ | exact (List.perm_middle (l₁ := [_])).symm | exact (List.perm_middle (l₁ := [_, _])).symm | exact (List.perm_middle (l₁ := [_, _, _])).symm | exact (List.perm_middle (l₁ := [_, _, _, _])).symm | exact (List.perm_middle (l₁ := [_, _, _, _, _])).symm | exact (List.perm_middle (l₁ := [_, _, _, _, _, _])).symm | exact (List.perm_middle (l₁ := [_, _, _, _, _, _, _])).symm | exact (List.perm_middle (l₁ := [_, _, _, _, _, _, _, _])).symm)) | (refine W.app 2 (.t (hs _ _ rfl)) rfl (.arr 3 (.t (hs _ _ rfl)) rfl (by first | (simp [AV.okc, shV]; done) | (intro e he; rw [List.mem_singleton.1 he]; rfl))) Tryd.underlying23 ni23 ty9 rfl rfl (by simp only [List.length_map, List.length_cons, List.length_nil]; omega) rfl ?_; exact fun v => h (0, v) _ (by first | exact .refl _ | exact (List.perm_middle (l₁ := [_])).symm | exact (List.perm_middle (l₁ := [_, _])).symm | exact (List.perm_middle (l₁ := [_, _, _])).symm | exact (List.perm_middle (l₁ := [_, _, _, _])).symm | exact (List.perm_middle (l₁ := [_, _, _, _, _])).symm | exact (List.perm_middle (l₁ := [_, _, _, _, _, _])).symm | exact (List.perm_middle (l₁ := [_, _, _, _, _, _, _])).symm | exact (List.perm_middle (l₁ := [_, _, _, _, _, _, _, _])).symm)) | (refine W.app 3 (.t (hs _ _ rfl)) rfl (.arr 3 (.t (hs _ _ rfl)) rfl (by first | (simp [AV.okc, shV]; done) | (intro e he; rw [List.mem_singleton.1 he]; rfl))) Tryd.underlying23 ni23 ty9 rfl rfl (by simp only [List.length_map, List.length_cons, List.length_nil]; omega) rfl ?_; exact fun v => h (0, v) _ (by first | exact .refl _ | exact (List.perm_middle (l₁ := [_])).symm | exact (List.perm_middle (l₁ := [_, _])).symm | exact (List.perm_middle (l₁ := [_, _, _])).symm | exact (List.perm_middle (l₁ := [_, _, _, _])).symm | exact (List.perm_middle (l₁ := [_, _, _, _, _])).symm | exact (List.perm_middle (l₁ := [_, _, _, _, _, _])).symm | exact (List.perm_middle (l₁ := [_, _, _, _, _, _, _])).symm | exact (List.perm_middle (l₁ := [_, _, _, _, _, _, _, _])).symm))
      refine DM.eff1 (av := fun c => .tup [.sl 2 ((Mrk.flatL (w ++ [d.name]) d.parts).map rnav), .int 0]) rfl (fun c c_ h => by first | rfl | simp only [h 4 (by first | exact .inl rfl | exact .inr (by kernel_rfl)), h 8 (by first | exact .inl rfl | exact .inr (by kernel_rfl)), h 9 (by first | exact .inl rfl | exact .inr (by kernel_rfl))]) (fun e c hk L_ hs Q h => ?_) ?_
      · have hk_9 := hk.not
        have hk_4 := hk.up 4 (by kernel_rfl)
        have hk_8 := hk.up 8 (by kernel_rfl)
        simp only [addE, upd, eq_self, List.nil_append, List.cons_append, List.append_nil, hk_9, hk_4, hk_8, Nat.reduceAdd, Nat.reduceEqDiff, ↓reduceIte, cond_true, cond_false] at h ⊢
        refine W.call (hih (c 8).2) ⟨(.t (hs _ _ rfl)), (.t (hs _ _ rfl)), (.t (hs _ _ rfl)), trivial⟩ (((List.perm_middle (l₁ := [_, _])).trans <| List.Perm.cons _ <| List.Perm.cons _ <| List.Perm.cons _ <| .refl _)) rfl ?_
        rintro _ _ ⟨rfl, rfl⟩
        exact h (0, undef) _ (.refl _)
      refine DM.q (fun e c hk => (Ev.move (.t rfl))) rfl (fun _ _ => rfl) (fun c c_ h => by first | rfl | simp only [h 4 (by first | exact .inl rfl | exact .inr (by kernel_rfl)), h 8 (by first | exact .inl rfl | exact .inr (by kernel_rfl)), h 9 (by first | exact .inl rfl | exact .inr (by kernel_rfl))]) ?_
      refine DM.q (fun e c hk => (Ev.extract (.t rfl) rfl)) rfl (fun _ _ => rfl) (fun c c_ h => by first | rfl | simp only [h 4 (by first | exact .inl rfl | exact .inr (by kernel_rfl)), h 8 (by first | exact .inl rfl | exact .inr (by kernel_rfl)), h 9 (by first | exact .inl rfl | exact .inr (by kernel_rfl))]) ?_
      refine DM.q (fun e c hk => (Ev.extract (.t rfl) rfl)) rfl (fun _ _ => rfl) (fun c c_ h => by first | rfl | simp only [h 4 (by first | exact .inl rfl | exact .inr (by kernel_rfl)), h 8 (by first | exact .inl rfl | exact .inr (by kernel_rfl)), h 9 (by first | exact .inl rfl | exact .inr (by kernel_rfl))]) ?_
      refine DM.q (fun e c hk => (Ev.assign (.t rfl))) rfl (fun _ _ => rfl) (fun c c_ h => by first | rfl | simp only [h 4 (by first | exact .inl rfl | exact .inr (by kernel_rfl)), h 8 (by first | exact .inl rfl | exact .inr (by kernel_rfl)), h 9 (by first | exact .inl rfl | exact .inr (by kernel_rfl))]) ?_
      refine DM.q (fun e c hk => (Ev.assign (.t rfl))) rfl (fun _ _ => rfl) (fun c c_ h => by first | rfl | simp only [h 4 (by first | exact .inl rfl | exact .inr (by kernel_rfl)), h 8 (by first | exact .inl rfl | exact .inr (by kernel_rfl)), h 9 (by first | exact .inl rfl | exact .inr (by kernel_rfl))]) ?_
      refine DM.nil (fun cc e_ he_ => ?_)
      simp only [he_ 4 (by decide), he_ 8 (by decide), he_ 9 (by decide), cond_true, cond_false]
      refine W.then ?_
      refine W.seq ?_
      refine W.seq ?_
      refine W.region ?_
      refine W.q (Ev.move (.t rfl)) rfl ?_
      refine W.q (Ev.nei (.t rfl) .k) rfl ?_
      refine W.nil ?_
      refine W.then ?_
      refine W.is (t := 67) (g := true) (av' := .lit (.bool false)) rfl (congrArg (fun b => AV.lit (.bool b)) (by rfl)) ?_
      refine W.condF (.t rfl) ?_
      refine W.skip ?_
      refine W.then ?_
      refine W.region ?_
      refine W.q (Ev.move (.t rfl)) rfl ?_
      refine W.q (Ev.move (.t rfl)) rfl ?_
      first | refine W.app 0 (.t rfl) rfl (.sl (.t rfl) (okc_rnavs _)) Tryd.underlying29 ni29 ty49 rfl rfl (by simp only [List.length_map]; omega) rfl ?_ | refine W.app 1 (.t rfl) rfl (.sl (.t rfl) (okc_rnavs _)) Tryd.underlying29 ni29 ty49 rfl rfl (by simp only [List.length_map]; omega) rfl ?_ | refine W.app 2 (.t rfl) rfl (.sl (.t rfl) (okc_rnavs _)) Tryd.underlying29 ni29 ty49 rfl rfl (by simp only [List.length_map]; omega) rfl ?_ | refine W.app 3 (.t rfl) rfl (.sl (.t rfl) (okc_rnavs _)) Tryd.underlying29 ni29 ty49 rfl rfl (by simp only [List.length_map]; omega) rfl ?_ | refine W.app 0 (.t rfl) rfl (.arr 0 (.t rfl) rfl (okc_rnavs _)) Tryd.underlying29 ni29 ty49 rfl rfl (by simp only [List.length_map]; omega) rfl ?_ | refine W.app 0 (.t rfl) rfl (.arr 1 (.t rfl) rfl (okc_rnavs _)) Tryd.underlying29 ni29 ty49 rfl rfl (by simp only [List.length_map]; omega) rfl ?_ | refine W.app 0 (.t rfl) rfl (.arr 2 (.t rfl) rfl (okc_rnavs _)) Tryd.underlying29 ni29 ty49 rfl rfl (by simp only [List.length_map]; omega) rfl ?_ | refine W.app 0 (.t rfl) rfl (.arr 3 (.t rfl) rfl (okc_rnavs _)) Tryd.underlying29 ni29 ty49 rfl rfl (by simp only [List.length_map]; omega) rfl ?_ | refine W.app 1 (.t rfl) rfl (.arr 0 (.t rfl) rfl (okc_rnavs _)) Tryd.underlying29 ni29 ty49 rfl rfl (by simp only [List.length_map]; omega) rfl ?_ | refine W.app 1 (.t rfl) rfl (.arr 1 (.t rfl) rfl (okc_rnavs _)) Tryd.underlying29 ni29 ty49 rfl rfl (by simp only [List.length_map]; omega) rfl ?_ | refine W.app 1 (.t rfl) rfl (.arr 2 (.t rfl) rfl (okc_rnavs _)) Tryd.underlying29 ni29 ty49 rfl rfl (by simp only [List.length_map]; omega) rfl ?_ | refine W.app 1 (.t rfl) rfl (.arr 3 (.t rfl) rfl (okc_rnavs _)) Tryd.underlying29 ni29 ty49 rfl rfl (by simp only [List.length_map]; omega) rfl ?_ | refine W.app 2 (.t rfl) rfl (.arr 0 (.t rfl) rfl (okc_rnavs _)) Tryd.underlying29 ni29 ty49 rfl rfl (by simp only [List.length_map]; omega) rfl ?_ | refine W.app 2 (.t rfl) rfl (.arr 1 (.t rfl) rfl (okc_rnavs _)) Tryd.underlying29 ni29 ty49 rfl rfl (by simp only [List.length_map]; omega) rfl ?_ | refine W.app 2 (.t rfl) rfl (.arr 2 (.t rfl) rfl (okc_rnavs _)) Tryd.underlying29 ni29 ty49 rfl rfl (by simp only [List.length_map]; omega) rfl ?_ | refine W.app 2 (.t rfl) rfl (.arr 3 (.t rfl) rfl (okc_rnavs _)) Tryd.underlying29 ni29 ty49 rfl rfl (by simp only [List.length_map]; omega) rfl ?_ | refine W.app 3 (.t rfl) rfl (.arr 0 (.t rfl) rfl (okc_rnavs _)) Tryd.underlying29 ni29 ty49 rfl rfl (by simp only [List.length_map]; omega) rfl ?_ | refine W.app 3 (.t rfl) rfl (.arr 1 (.t rfl) rfl (okc_rnavs _)) Tryd.underlying29 ni29 ty49 rfl rfl (by simp only [List.length_map]; omega) rfl ?_ | refine W.app 3 (.t rfl) rfl (.arr 2 (.t rfl) rfl (okc_rnavs _)) Tryd.underlying29 ni29 ty49 rfl rfl (by simp only [List.length_map]; omega) rfl ?_ | refine W.app 3 (.t rfl) rfl (.arr 3 (.t rfl) rfl (okc_rnavs _)) Tryd.underlying29 ni29 ty49 rfl rfl (by simp only [List.length_map]; omega) rfl ?_
      intro v71
      refine W.q (Ev.assign (.t rfl)) rfl ?_
      refine W.nil ?_
      refine W.blk_normal ?_
      refine W.then ?_
      refine W.region ?_
      first | refine W.q (Ev.add (.t rfl) .k (fun _ => by omega)) rfl ?_ | refine W.q (Ev.addw (.t rfl) .k) rfl ?_
      refine W.q (Ev.move (.t rfl)) rfl ?_
      refine W.nil ?_
      refine W.then ?_
      first
      | (refine W.reach (D := [_]) (i + 1, v38) ⟨rfl, rfl, rfl, rfl, rfl, rfl, trivial⟩ (by rw [hsn, List.map_append]; exact List.Perm.swap _ _ []) ⟨by show i + 1 ≤ _; omega, by show _ - (i + 1) < _; omega⟩)
      | (refine W.reach (D := [_]) (i + 1, v71) ⟨rfl, rfl, rfl, rfl, rfl, rfl, trivial⟩ (by rw [hsn, List.map_append]; exact List.Perm.swap _ _ []) ⟨by show i + 1 ≤ _; omega, by show _ - (i + 1) < _; omega⟩)
  · have he : l.take i = l := List.take_of_length_le (by omega)
    rw [he]
    refine W.seq ?_
    refine W.region ?_
    refine W.q (Ev.lti (.t rfl) (.t rfl)) rfl ?_
    refine W.nil ?_
    refine W.then ?_
    refine W.seq ?_
    refine W.is (t := 16) (g := true) (av' := .lit (.bool false)) rfl (congrArg (fun b => AV.lit (.bool b)) (by exact decide_eq_false (by omega))) ?_
    refine W.condF (.t rfl) ?_
    refine W.exit ?_
    refine W.then_exit ?_
    refine W.then_exit ?_
    refine W.blk_hit ?_
    refine W.then ?_
    refine W.seq ?_
    refine W.region ?_
    refine W.q (Ev.move (.t rfl)) rfl ?_
    refine W.q (Ev.assign (.t rfl)) rfl ?_
    refine W.q (Ev.assign .k) rfl ?_
    refine W.nil ?_
    refine W.then ?_
    refine W.ret ?_
    refine W.freezeA (M1 := []) (M2 := []) (D := []) (v := v8) (L' := [(6, true, .sl 2 ((Mrk.flatL w l).map rnav))]) (.refl _) ⟨⟨_, rfl, .one .hit⟩, trivial⟩ (FrzMs.refl _) ?_
    refine W.retn (M' := []) (D := []) (rs := [.tmp 6, .tmp 7]) (avs := [_, _]) Tryd.results38 ⟨rfl, rfl, trivial⟩ rfl (.refl _) ?_
    exact ⟨rfl, rfl⟩

theorem c_flat (ms : List (List UInt8)) (hms : ms.length ≤ 100) (l : List Nd) (w : List (List UInt8)) (v : Value) (hok : Mrk.okns ms l = true) (hwn : w.length + Nd.szs l ≤ 100000) : FnC Tryd.prog 38 [.sl 1 (ms.map AV.str), .sl 4 (l.map Nd.av), .lit v] [.arr v 9 1 (w.map AV.str)] (fun r M => r = .tup [.sl 2 ((Mrk.flatL w l).map rnav), .int 0] ∧ M = []) := by
  suffices H : ∀ (n : Nat) (l : List Nd) (w : List (List UInt8)) (v : Value), Nd.szs l = n → Mrk.okns ms l = true → w.length + Nd.szs l ≤ 100000 → FnC Tryd.prog 38 [.sl 1 (ms.map AV.str), .sl 4 (l.map Nd.av), .lit v] [.arr v 9 1 (w.map AV.str)] (fun r M => r = .tup [.sl 2 ((Mrk.flatL w l).map rnav), .int 0] ∧ M = []) from H _ l w v rfl hok hwn
  intro n
  induction n using Nat.strongRecOn with
  | _ n ih => exact fun l w v hl hok hwn => c_flat_step ms hms n (fun l w v h1 h2 h3 => ih _ h1 l w v rfl h2 h3) l w v hl hok hwn

theorem c_Flat (ms : List (List UInt8)) (hg : Mrk.good ms) (l : List Nd) (hok : Mrk.okns ms l = true) (hsz : Nd.szs l ≤ 100000) (hl : (Mrk.flatL [] l).length ≤ 60) (hin : ∀ r ∈ Mrk.flatL [] l, ∀ m ∈ r.2, m ∈ ms) (hr2 : ∀ r ∈ Mrk.flatL [] l, r.2.length ≤ 1000) (htx : (Mrk.tx (Mrk.flatL [] l)).length ≤ 1000000) (M0 : List ME) (hF : FnC Tryd.prog 58 [.str Mrk.oddT] M0 (fun r M => r = .sl 1 (Mrk.odd.map AV.str) ∧ M = M0)) : FnC Tryd.prog 21 [.sl 1 (ms.map AV.str), .sl 4 (l.map Nd.av)] M0 (fun r M => r = .tup [.sl 2 ((Mrk.norm ms (Mrk.flatL [] l)).map rnav), .int 0] ∧ M = M0) :=  by
  refine FnC.mk Tryd.func21 (by kernel_rfl) rfl Tryd.ntmps21 rfl (fun w0 F => ?_)
  have hlen := hg.len
  refine W.seq ?_
  refine W.region ?_
  refine W.q (Ev.assign .k) rfl ?_
  refine W.q (Ev.assign .k) rfl ?_
  refine W.nil ?_
  refine W.then ?_
  refine W.seq ?_
  refine W.seq ?_
  refine W.region ?_
  refine W.q (Ev.move (.t rfl)) rfl ?_
  refine W.call (WMCheck.c_Check ms hg M0 hF) ⟨(.t rfl), trivial⟩ ((List.Perm.of_eq (List.append_nil M0).symm)) rfl ?_
  rintro _ M' ⟨rfl, hM'⟩
  rw [hM', List.append_nil]
  refine W.q (Ev.assign (.t rfl)) rfl ?_
  refine W.nil ?_
  refine W.then ?_
  refine W.seq ?_
  refine W.region ?_
  refine W.q (Ev.move (.t rfl)) rfl ?_
  refine W.q (Ev.nei (.t rfl) .k) rfl ?_
  refine W.nil ?_
  refine W.then ?_
  refine W.is (t := 12) (g := true) (av' := .lit (.bool false)) rfl (congrArg (fun b => AV.lit (.bool b)) (by rfl)) ?_
  refine W.condF (.t rfl) ?_
  refine W.skip ?_
  refine W.then ?_
  refine W.seq ?_
  refine W.region ?_
  refine W.q (Ev.move (.t rfl)) rfl ?_
  refine W.q (Ev.move (.t rfl)) rfl ?_
  refine W.own_nil 9 1 ?_
  refine W.call (c_flat ms (by omega) l [] (.slice none 0 0) hok (by simp; omega)) ⟨(.t rfl), (.t rfl), (by first | exact .k | exact .kn), trivial⟩ (.refl _) rfl ?_
  rintro _ _ ⟨rfl, rfl⟩
  rw [List.nil_append]
  refine W.q (Ev.move (.t rfl)) rfl ?_
  refine W.q (Ev.extract (.t rfl) rfl) rfl ?_
  refine W.q (Ev.extract (.t rfl) rfl) rfl ?_
  refine W.q (Ev.assign (.t rfl)) rfl ?_
  refine W.q (Ev.assign (.t rfl)) rfl ?_
  refine W.nil ?_
  refine W.then ?_
  refine W.seq ?_
  refine W.seq ?_
  refine W.region ?_
  refine W.q (Ev.move (.t rfl)) rfl ?_
  refine W.q (Ev.nei (.t rfl) .k) rfl ?_
  refine W.nil ?_
  refine W.then ?_
  refine W.is (t := 21) (g := true) (av' := .lit (.bool false)) rfl (congrArg (fun b => AV.lit (.bool b)) (by rfl)) ?_
  refine W.condF (.t rfl) ?_
  refine W.skip ?_
  refine W.then ?_
  refine W.seq ?_
  refine W.region ?_
  refine W.q (Ev.move (.t rfl)) rfl ?_
  refine W.q (Ev.move (.t rfl)) rfl ?_
  refine W.call (WMNorms.c_Norm ms hg (Mrk.flatL [] l) hl hin hr2 htx M0 hF) ⟨(.t rfl), (.t rfl), trivial⟩ ((List.Perm.of_eq (List.append_nil M0).symm)) rfl ?_
  rintro _ M' ⟨rfl, hM'⟩
  rw [hM', List.append_nil]
  refine W.q (Ev.extract (.t rfl) rfl) rfl ?_
  refine W.q (Ev.extract (.t rfl) rfl) rfl ?_
  refine W.q (Ev.assign (.t rfl)) rfl ?_
  refine W.q (Ev.assign (.t rfl)) rfl ?_
  refine W.nil ?_
  refine W.then ?_
  refine W.ret ?_
  refine W.retn (M' := M0) (D := []) (rs := [.tmp 4, .tmp 5]) (avs := [_, _]) Tryd.results21 ⟨rfl, rfl, trivial⟩ rfl (List.Perm.of_eq (List.append_nil M0).symm) ?_
  exact ⟨rfl, rfl⟩

end WMFlat

end Go.Proofs.YtlglnmafddnmmaaDoor
end
