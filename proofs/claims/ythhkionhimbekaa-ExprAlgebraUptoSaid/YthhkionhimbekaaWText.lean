/-
  Expressions as text.
-/
import Derived.Test.YthhkionhimbekaaExprP
import Derived.Test.YthhkionhimbekaaBase
import Derived.Test.YthhkionhimbekaaShelfB
import Derived.Test.YthhkionhimbekaaShelf
set_option linter.unusedVariables false
set_option linter.unusedSimpArgs false
set_option maxRecDepth 100000
namespace Go.Proofs.Ythhkionhimbekaa
open Go.Vl

namespace WText
theorem ty3 : Ty Try.prog 3 1 8 (.int .i64 0) := Ty.of (by kernel_rfl)
theorem ty9 : Ty Try.prog 9 1 16 (.string ⟨#[]⟩) := Ty.of (by kernel_rfl)
theorem ty26 : Ty Try.prog 26 1 24 (.slice none 0 0) := Ty.of (by kernel_rfl)
theorem ty28 : Ty Try.prog 28 3 40 (.agg #[.int .i64 0, .int .i64 0, .slice none 0 0]) := Ty.of (by kernel_rfl)
theorem ag3 : IsAgg Try.prog 3 false := ⟨_, Try.underlying3, rfl⟩
theorem ag9 : IsAgg Try.prog 9 false := ⟨_, Try.underlying9, rfl⟩
theorem ag26 : IsAgg Try.prog 26 false := ⟨_, Try.underlying26, rfl⟩
theorem ag28 : IsAgg Try.prog 28 true := ⟨_, Try.underlying28, rfl⟩
theorem fa28_0 : FieldAt Try.prog 28 0 0 1 false := ⟨_, _, Try.underlying28, rfl, rfl, ty3.size, ag3, by decide⟩
theorem fa28_1 : FieldAt Try.prog 28 1 1 1 false := ⟨_, _, Try.underlying28, rfl, rfl, ty3.size, ag3, by decide⟩
theorem fa28_2 : FieldAt Try.prog 28 2 2 1 false := ⟨_, _, Try.underlying28, rfl, rfl, ty26.size, ag26, by decide⟩
theorem ni42 : NotInt Try.prog 42 := .inl ⟨_, Try.underlying42⟩
theorem c_Join (l : List (List UInt8)) (sep : List UInt8) (hl : l.length ≤ 16777216) (hj : (Ex.joinW sep l).length ≤ 1099511627776) : FnP Try.prog 21 [.sl 1 (l.map AV.str), .str sep] (.str (Ex.joinW sep l)) := by
  rw [Ex.joinW_lib] at hj ⊢
  exact joinP (CallOk.of Try.func21 (by kernel_rfl) rfl) (fun a c sep w => Try.strings_Join_none a c sep w) (fun bk o c xs sep w h1 h2 h3 h4 h5 => Try.strings_Join bk o c xs sep w h1 h2 h3 h4 h5) l sep (by omega) (by omega)

theorem c_text_step (x : Ex) (h1 : Ex.ok1 x) (hz : x.sz ≤ 16777216) (hw : Ex.wz x ≤ 1073741824) (ih : ∀ d ∈ x.parts, FnP Try.prog 17 [Ex.avx d] (.str (Ex.txt d))) : FnP Try.prog 17 [Ex.avx x] (.str (Ex.txt x)) :=  by
  refine FnC.mk Try.func17 (by kernel_rfl) rfl Try.ntmps17 rfl (fun w0 F => ?_)
  have hpl : (x.parts.map Ex.av).length = x.parts.length := List.length_map ..
  have hse := Ex.sz_eq x
  have hsl := Ex.szs_len x.parts
  obtain ⟨k0, k1, k2, k3, k4, k5, k6, k7⟩ := Ex.ok1_facts h1
  have hwe : Ex.wz x = Ex.sumL (x.parts.map (Ex.ptx1 x.kind)) + x.parts.length + 2 := rfl
  have htl := Ex.ptx_len x
  refine W.seq ?_
  refine W.region ?_
  refine W.box (.t rfl) rfl rfl ?_
  intro b1
  refine W.q (Ev.assign .k) rfl ?_
  refine W.nil ?_
  refine W.then ?_
  refine W.seq ?_
  refine W.region ?_
  refine W.q (Ev.assign .k) rfl ?_
  refine W.nil ?_
  refine W.then ?_
  refine W.seq ?_
  refine W.seq ?_
  refine W.region ?_
  first | refine W.q (Ev.fae (.t rfl) fa28_2 rfl) rfl ?_ | refine W.q (Ev.fab (.t rfl) fa28_2) rfl ?_ | refine W.q (Ev.faa (.t rfl) fa28_2) rfl ?_
  first | refine W.q (Ev.lde1 (.t rfl) ag26) rfl ?_ | refine W.q (Ev.ldb1 0 (.t rfl) rfl ag26 rfl) rfl ?_ | refine W.q (Ev.ldb1 1 (.t rfl) rfl ag26 rfl) rfl ?_ | refine W.q (Ev.ldb1 2 (.t rfl) rfl ag26 rfl) rfl ?_ | refine W.q (Ev.ldb1 3 (.t rfl) rfl ag26 rfl) rfl ?_
  first | refine W.q (Ev.lensl (.t rfl) Try.underlying26) rfl ?_ | refine W.q (Ev.lenar (i := 0) (.t rfl) rfl Try.underlying26) rfl ?_ | refine W.q (Ev.lenar (i := 1) (.t rfl) rfl Try.underlying26) rfl ?_ | refine W.q (Ev.lenar (i := 2) (.t rfl) rfl Try.underlying26) rfl ?_ | refine W.q (Ev.lenar (i := 3) (.t rfl) rfl Try.underlying26) rfl ?_
  refine W.q (Ev.move .k) rfl ?_
  refine W.nil ?_
  refine W.then ?_
  refine W.block ?_
  refine W.own_nil 9 1 ?_
  refine W.loop (D := []) (ι := Nat × Value) (fun z => [(11, true, .int (z.1 : Int)), (10, true, .int ((x.parts.map Ex.av).length : Int)), (9, true, .sl 3 (x.parts.map Ex.av)), (1, true, .lit (.pointer (some ⟨b1, 0, none⟩))), (3, true, .lit z.2)]) (fun z => [.arr z.2 9 1 (((x.parts.take z.1).map (Ex.ptx1 x.kind)).map AV.str), .box b1 28 x.avx.cells]) (fun z => z.1 ≤ x.parts.length) (fun z => x.parts.length - z.1) (0, .slice none 0 0) ⟨rfl, rfl, rfl, rfl, rfl, trivial⟩ (.refl _) (Nat.zero_le _) ?_
  rintro ⟨i, v⟩ hi
  dsimp only at hi ⊢
  rcases (show i < x.parts.length ∨ i = x.parts.length from by omega) with hlt | hend
  · have hga := Ex.at_av x.parts i hlt
    have hdm := getD_memG Ex.dflt x.parts i hlt
    have hsn : (x.parts.take (i + 1)).map (Ex.ptx1 x.kind) = (x.parts.take i).map (Ex.ptx1 x.kind) ++ [Ex.ptx1 x.kind (x.parts.getD i Ex.dflt)] := by rw [take_getDG Ex.dflt x.parts i hlt, List.map_append]; rfl
    generalize hd : x.parts.getD i Ex.dflt = d at hga hdm hsn
    have hdl := htl d hdm
    refine W.seq ?_
    refine W.region ?_
    refine W.q (Ev.lti (.t rfl) (.t rfl)) rfl ?_
    refine W.nil ?_
    refine W.then ?_
    refine W.seq ?_
    refine W.is (t := 12) (g := true) (av' := .lit (.bool true)) rfl (congrArg (fun b => AV.lit (.bool b)) (by exact decide_eq_true (by omega))) ?_
    refine W.condT (.t rfl) ?_
    refine W.skip ?_
    refine W.then ?_
    refine W.seq ?_
    refine W.block ?_
    refine W.seq ?_
    refine W.region ?_
    refine W.q (Ev.at (E := 28) (.t rfl) (.t rfl) Try.underlying26 ty28 (fun _ => ⟨by omega, hga⟩) rfl rfl) rfl ?_
    first | refine W.q (Ev.lden (.t rfl) ag28 ty28 rfl rfl) rfl ?_ | refine W.q (Ev.ldbn 0 (.t rfl) rfl ag28 ty28 rfl) rfl ?_ | refine W.q (Ev.ldbn 1 (.t rfl) rfl ag28 ty28 rfl) rfl ?_ | refine W.q (Ev.ldbn 2 (.t rfl) rfl ag28 ty28 rfl) rfl ?_ | refine W.q (Ev.ldbn 3 (.t rfl) rfl ag28 ty28 rfl) rfl ?_
    refine W.alloc ty28 rfl rfl ?_
    intro b5
    first | refine W.stb 0 (.t rfl) (.t rfl) rfl ty28 rfl rfl rfl ?_ | refine W.stb 1 (.t rfl) (.t rfl) rfl ty28 rfl rfl rfl ?_ | refine W.stb 2 (.t rfl) (.t rfl) rfl ty28 rfl rfl rfl ?_ | refine W.stb 3 (.t rfl) (.t rfl) rfl ty28 rfl rfl rfl ?_
    refine W.nil ?_
    refine W.then ?_
    refine W.seq ?_
    refine W.region ?_
    first | refine W.q (Ev.lden (.t rfl) ag28 ty28 rfl rfl) rfl ?_ | refine W.q (Ev.ldbn 0 (.t rfl) rfl ag28 ty28 rfl) rfl ?_ | refine W.q (Ev.ldbn 1 (.t rfl) rfl ag28 ty28 rfl) rfl ?_ | refine W.q (Ev.ldbn 2 (.t rfl) rfl ag28 ty28 rfl) rfl ?_ | refine W.q (Ev.ldbn 3 (.t rfl) rfl ag28 ty28 rfl) rfl ?_
    refine W.callp (ih d hdm) ⟨(.t rfl), trivial⟩ rfl ?_
    refine W.q (Ev.assign (.t rfl)) rfl ?_
    refine W.nil ?_
    refine W.then ?_
    refine W.seq ?_
    refine W.seq ?_
    refine W.region ?_
    first | refine W.q (Ev.fae (.t rfl) fa28_0 rfl) rfl ?_ | refine W.q (Ev.fab (.t rfl) fa28_0) rfl ?_ | refine W.q (Ev.faa (.t rfl) fa28_0) rfl ?_
    first | refine W.q (Ev.lde1 (.t rfl) ag3) rfl ?_ | refine W.q (Ev.ldb1 0 (.t rfl) rfl ag3 rfl) rfl ?_ | refine W.q (Ev.ldb1 1 (.t rfl) rfl ag3 rfl) rfl ?_ | refine W.q (Ev.ldb1 2 (.t rfl) rfl ag3 rfl) rfl ?_ | refine W.q (Ev.ldb1 3 (.t rfl) rfl ag3 rfl) rfl ?_
    refine W.q (Ev.eqi (.t rfl) .k) rfl ?_
    refine W.q (Ev.move (.t rfl)) rfl ?_
    first | refine W.qgT rfl rfl (Ev.fae (.t rfl) fa28_0 rfl) rfl ?_ | refine W.qgT rfl rfl (Ev.fab (.t rfl) fa28_0) rfl ?_ | refine W.qgT rfl rfl (Ev.faa (.t rfl) fa28_0) rfl ?_
    first | refine W.qgT rfl rfl (Ev.lde1 (.c rfl) ag3) rfl ?_ | refine W.qgT rfl rfl (Ev.ldb1 0 (.c rfl) rfl ag3 rfl) rfl ?_ | refine W.qgT rfl rfl (Ev.ldb1 1 (.c rfl) rfl ag3 rfl) rfl ?_ | refine W.qgT rfl rfl (Ev.ldb1 2 (.c rfl) rfl ag3 rfl) rfl ?_ | refine W.qgT rfl rfl (Ev.ldb1 3 (.c rfl) rfl ag3 rfl) rfl ?_
    refine W.qgT rfl rfl (Ev.nei (.c rfl) .k) rfl ?_
    refine W.q (Ev.and (.t rfl) ⟨_, _, rfl, rfl, by first | (simp; done) | (intro hg_ hp_; simp [hp_]; done) | (simp <;> omega; done) | (simp_all; done) | grind⟩) rfl ?_
    refine W.q (Ev.move (.t rfl)) rfl ?_
    first | refine W.qgF rfl rfl (Ev.fae (.t rfl) fa28_0 rfl) rfl ?_ | refine W.qgF rfl rfl (Ev.fab (.t rfl) fa28_0) rfl ?_ | refine W.qgF rfl rfl (Ev.faa (.t rfl) fa28_0) rfl ?_
    first | refine W.qgF rfl rfl (Ev.lde1 (.c rfl) ag3) rfl ?_ | refine W.qgF rfl rfl (Ev.ldb1 0 (.c rfl) rfl ag3 rfl) rfl ?_ | refine W.qgF rfl rfl (Ev.ldb1 1 (.c rfl) rfl ag3 rfl) rfl ?_ | refine W.qgF rfl rfl (Ev.ldb1 2 (.c rfl) rfl ag3 rfl) rfl ?_ | refine W.qgF rfl rfl (Ev.ldb1 3 (.c rfl) rfl ag3 rfl) rfl ?_
    refine W.qgF rfl rfl (Ev.eqi (.c rfl) .k) rfl ?_
    refine W.qgF rfl rfl (Ev.move (.c rfl)) rfl ?_
    first | refine W.qgT' rfl rfl (Ev.fae (.t rfl) fa28_0 rfl) rfl ?_ | refine W.qgT' rfl rfl (Ev.fab (.t rfl) fa28_0) rfl ?_ | refine W.qgT' rfl rfl (Ev.faa (.t rfl) fa28_0) rfl ?_
    first | refine W.qgT' rfl rfl (Ev.lde1 (.c rfl) ag3) rfl ?_ | refine W.qgT' rfl rfl (Ev.ldb1 0 (.c rfl) rfl ag3 rfl) rfl ?_ | refine W.qgT' rfl rfl (Ev.ldb1 1 (.c rfl) rfl ag3 rfl) rfl ?_ | refine W.qgT' rfl rfl (Ev.ldb1 2 (.c rfl) rfl ag3 rfl) rfl ?_ | refine W.qgT' rfl rfl (Ev.ldb1 3 (.c rfl) rfl ag3 rfl) rfl ?_
    refine W.qgT' rfl rfl (Ev.gei (.c rfl) .k) rfl ?_
    refine W.qgF rfl rfl (Ev.and (.c rfl) ⟨_, _, rfl, rfl, by first | (simp; done) | (intro hg_ hp_; simp [hp_]; done) | (simp <;> omega; done) | (simp_all; done) | grind⟩) rfl ?_
    refine W.q (Ev.or (.t rfl) ⟨_, _, rfl, rfl, by first | (simp; done) | (intro hg_ hp_; simp [hp_]; done) | (simp <;> omega; done) | (simp_all; done) | grind⟩) rfl ?_
    refine W.nil ?_
    refine W.then ?_
    refine W.cond (.t rfl) (fun hc_t34 => ?_) (fun hc_t34 => ?_)
    · have hpar : Ex.par x.kind d := by simp at hc_t34; unfold Ex.par; omega
      have hp1 : Ex.ptx1 x.kind d = 40 :: (Ex.txt d ++ [41]) := if_pos hpar
      refine W.region ?_
      refine W.q (Ev.move (.t rfl)) rfl ?_
      refine W.q (Ev.cat .k (.t rfl) (fun _ => by first | omega | (simp only [List.length_append]; omega) | (simp [-List.length_flatMap]; omega) | (simp; omega))) rfl ?_
      refine W.q (Ev.cat (.t rfl) .k (fun _ => by first | omega | (simp only [List.length_append]; omega) | (simp [-List.length_flatMap]; omega) | (simp; omega))) rfl ?_
      refine W.q (Ev.assign (.t rfl)) rfl ?_
      refine W.nil ?_
      refine W.then ?_
      refine W.region ?_
      refine W.q (Ev.move (.t rfl)) rfl ?_
      refine W.q (Ev.move (.t rfl)) rfl ?_
      refine W.bs (es := [_]) Try.underlying42 ty9 ⟨rfl, (.t rfl), rfl, rfl, trivial⟩ rfl (by decide) rfl rfl ?_
      first | refine W.app 0 (.t rfl) rfl (.sl (.t rfl) (by simp [AV.okc, shV])) Try.underlying42 ni42 ty9 rfl rfl (by rw [List.length_map, List.length_map, List.length_take]; simp only [List.length_cons, List.length_nil]; omega) rfl ?_ | refine W.app 1 (.t rfl) rfl (.sl (.t rfl) (by simp [AV.okc, shV])) Try.underlying42 ni42 ty9 rfl rfl (by rw [List.length_map, List.length_map, List.length_take]; simp only [List.length_cons, List.length_nil]; omega) rfl ?_ | refine W.app 2 (.t rfl) rfl (.sl (.t rfl) (by simp [AV.okc, shV])) Try.underlying42 ni42 ty9 rfl rfl (by rw [List.length_map, List.length_map, List.length_take]; simp only [List.length_cons, List.length_nil]; omega) rfl ?_ | refine W.app 3 (.t rfl) rfl (.sl (.t rfl) (by simp [AV.okc, shV])) Try.underlying42 ni42 ty9 rfl rfl (by rw [List.length_map, List.length_map, List.length_take]; simp only [List.length_cons, List.length_nil]; omega) rfl ?_ | refine W.app 0 (.t rfl) rfl (.arr 0 (.t rfl) rfl (by simp [AV.okc, shV])) Try.underlying42 ni42 ty9 rfl rfl (by rw [List.length_map, List.length_map, List.length_take]; simp only [List.length_cons, List.length_nil]; omega) rfl ?_ | refine W.app 0 (.t rfl) rfl (.arr 1 (.t rfl) rfl (by simp [AV.okc, shV])) Try.underlying42 ni42 ty9 rfl rfl (by rw [List.length_map, List.length_map, List.length_take]; simp only [List.length_cons, List.length_nil]; omega) rfl ?_ | refine W.app 0 (.t rfl) rfl (.arr 2 (.t rfl) rfl (by simp [AV.okc, shV])) Try.underlying42 ni42 ty9 rfl rfl (by rw [List.length_map, List.length_map, List.length_take]; simp only [List.length_cons, List.length_nil]; omega) rfl ?_ | refine W.app 0 (.t rfl) rfl (.arr 3 (.t rfl) rfl (by simp [AV.okc, shV])) Try.underlying42 ni42 ty9 rfl rfl (by rw [List.length_map, List.length_map, List.length_take]; simp only [List.length_cons, List.length_nil]; omega) rfl ?_ | refine W.app 1 (.t rfl) rfl (.arr 0 (.t rfl) rfl (by simp [AV.okc, shV])) Try.underlying42 ni42 ty9 rfl rfl (by rw [List.length_map, List.length_map, List.length_take]; simp only [List.length_cons, List.length_nil]; omega) rfl ?_ | refine W.app 1 (.t rfl) rfl (.arr 1 (.t rfl) rfl (by simp [AV.okc, shV])) Try.underlying42 ni42 ty9 rfl rfl (by rw [List.length_map, List.length_map, List.length_take]; simp only [List.length_cons, List.length_nil]; omega) rfl ?_ | refine W.app 1 (.t rfl) rfl (.arr 2 (.t rfl) rfl (by simp [AV.okc, shV])) Try.underlying42 ni42 ty9 rfl rfl (by rw [List.length_map, List.length_map, List.length_take]; simp only [List.length_cons, List.length_nil]; omega) rfl ?_ | refine W.app 1 (.t rfl) rfl (.arr 3 (.t rfl) rfl (by simp [AV.okc, shV])) Try.underlying42 ni42 ty9 rfl rfl (by rw [List.length_map, List.length_map, List.length_take]; simp only [List.length_cons, List.length_nil]; omega) rfl ?_ | refine W.app 2 (.t rfl) rfl (.arr 0 (.t rfl) rfl (by simp [AV.okc, shV])) Try.underlying42 ni42 ty9 rfl rfl (by rw [List.length_map, List.length_map, List.length_take]; simp only [List.length_cons, List.length_nil]; omega) rfl ?_ | refine W.app 2 (.t rfl) rfl (.arr 1 (.t rfl) rfl (by simp [AV.okc, shV])) Try.underlying42 ni42 ty9 rfl rfl (by rw [List.length_map, List.length_map, List.length_take]; simp only [List.length_cons, List.length_nil]; omega) rfl ?_ | refine W.app 2 (.t rfl) rfl (.arr 2 (.t rfl) rfl (by simp [AV.okc, shV])) Try.underlying42 ni42 ty9 rfl rfl (by rw [List.length_map, List.length_map, List.length_take]; simp only [List.length_cons, List.length_nil]; omega) rfl ?_ | refine W.app 2 (.t rfl) rfl (.arr 3 (.t rfl) rfl (by simp [AV.okc, shV])) Try.underlying42 ni42 ty9 rfl rfl (by rw [List.length_map, List.length_map, List.length_take]; simp only [List.length_cons, List.length_nil]; omega) rfl ?_ | refine W.app 3 (.t rfl) rfl (.arr 0 (.t rfl) rfl (by simp [AV.okc, shV])) Try.underlying42 ni42 ty9 rfl rfl (by rw [List.length_map, List.length_map, List.length_take]; simp only [List.length_cons, List.length_nil]; omega) rfl ?_ | refine W.app 3 (.t rfl) rfl (.arr 1 (.t rfl) rfl (by simp [AV.okc, shV])) Try.underlying42 ni42 ty9 rfl rfl (by rw [List.length_map, List.length_map, List.length_take]; simp only [List.length_cons, List.length_nil]; omega) rfl ?_ | refine W.app 3 (.t rfl) rfl (.arr 2 (.t rfl) rfl (by simp [AV.okc, shV])) Try.underlying42 ni42 ty9 rfl rfl (by rw [List.length_map, List.length_map, List.length_take]; simp only [List.length_cons, List.length_nil]; omega) rfl ?_ | refine W.app 3 (.t rfl) rfl (.arr 3 (.t rfl) rfl (by simp [AV.okc, shV])) Try.underlying42 ni42 ty9 rfl rfl (by rw [List.length_map, List.length_map, List.length_take]; simp only [List.length_cons, List.length_nil]; omega) rfl ?_
      intro v41
      refine W.q (Ev.assign (.t rfl)) rfl ?_
      refine W.nil ?_
      refine W.blk_normal ?_
      refine W.then ?_
      refine W.region ?_
      first | refine W.q (Ev.add (.t rfl) .k (fun _ => by omega)) rfl ?_ | refine W.q (Ev.addw (.t rfl) .k) rfl ?_
      refine W.q (Ev.move (.t rfl)) rfl ?_
      refine W.nil ?_
      refine W.then ?_
      refine W.reach (D := [_]) (i + 1, v41) ⟨rfl, rfl, rfl, rfl, rfl, trivial⟩ (by rw [hsn, hp1, List.map_append]; exact List.perm_append_comm (l₁ := [_])) ⟨by show i + 1 ≤ _; omega, by show _ - (i + 1) < _; omega⟩
    · have hpar : ¬ Ex.par x.kind d := by unfold Ex.par; intro h; have h2 := Bool.eq_false_iff.1 hc_t34; simp at h2; omega
      have hp1 : Ex.ptx1 x.kind d = Ex.txt d := if_neg hpar
      refine W.skip ?_
      refine W.then ?_
      refine W.region ?_
      refine W.q (Ev.move (.t rfl)) rfl ?_
      refine W.q (Ev.move (.t rfl)) rfl ?_
      refine W.bs (es := [_]) Try.underlying42 ty9 ⟨rfl, (.t rfl), rfl, rfl, trivial⟩ rfl (by decide) rfl rfl ?_
      first | refine W.app 0 (.t rfl) rfl (.sl (.t rfl) (by simp [AV.okc, shV])) Try.underlying42 ni42 ty9 rfl rfl (by rw [List.length_map, List.length_map, List.length_take]; simp only [List.length_cons, List.length_nil]; omega) rfl ?_ | refine W.app 1 (.t rfl) rfl (.sl (.t rfl) (by simp [AV.okc, shV])) Try.underlying42 ni42 ty9 rfl rfl (by rw [List.length_map, List.length_map, List.length_take]; simp only [List.length_cons, List.length_nil]; omega) rfl ?_ | refine W.app 2 (.t rfl) rfl (.sl (.t rfl) (by simp [AV.okc, shV])) Try.underlying42 ni42 ty9 rfl rfl (by rw [List.length_map, List.length_map, List.length_take]; simp only [List.length_cons, List.length_nil]; omega) rfl ?_ | refine W.app 3 (.t rfl) rfl (.sl (.t rfl) (by simp [AV.okc, shV])) Try.underlying42 ni42 ty9 rfl rfl (by rw [List.length_map, List.length_map, List.length_take]; simp only [List.length_cons, List.length_nil]; omega) rfl ?_ | refine W.app 0 (.t rfl) rfl (.arr 0 (.t rfl) rfl (by simp [AV.okc, shV])) Try.underlying42 ni42 ty9 rfl rfl (by rw [List.length_map, List.length_map, List.length_take]; simp only [List.length_cons, List.length_nil]; omega) rfl ?_ | refine W.app 0 (.t rfl) rfl (.arr 1 (.t rfl) rfl (by simp [AV.okc, shV])) Try.underlying42 ni42 ty9 rfl rfl (by rw [List.length_map, List.length_map, List.length_take]; simp only [List.length_cons, List.length_nil]; omega) rfl ?_ | refine W.app 0 (.t rfl) rfl (.arr 2 (.t rfl) rfl (by simp [AV.okc, shV])) Try.underlying42 ni42 ty9 rfl rfl (by rw [List.length_map, List.length_map, List.length_take]; simp only [List.length_cons, List.length_nil]; omega) rfl ?_ | refine W.app 0 (.t rfl) rfl (.arr 3 (.t rfl) rfl (by simp [AV.okc, shV])) Try.underlying42 ni42 ty9 rfl rfl (by rw [List.length_map, List.length_map, List.length_take]; simp only [List.length_cons, List.length_nil]; omega) rfl ?_ | refine W.app 1 (.t rfl) rfl (.arr 0 (.t rfl) rfl (by simp [AV.okc, shV])) Try.underlying42 ni42 ty9 rfl rfl (by rw [List.length_map, List.length_map, List.length_take]; simp only [List.length_cons, List.length_nil]; omega) rfl ?_ | refine W.app 1 (.t rfl) rfl (.arr 1 (.t rfl) rfl (by simp [AV.okc, shV])) Try.underlying42 ni42 ty9 rfl rfl (by rw [List.length_map, List.length_map, List.length_take]; simp only [List.length_cons, List.length_nil]; omega) rfl ?_ | refine W.app 1 (.t rfl) rfl (.arr 2 (.t rfl) rfl (by simp [AV.okc, shV])) Try.underlying42 ni42 ty9 rfl rfl (by rw [List.length_map, List.length_map, List.length_take]; simp only [List.length_cons, List.length_nil]; omega) rfl ?_ | refine W.app 1 (.t rfl) rfl (.arr 3 (.t rfl) rfl (by simp [AV.okc, shV])) Try.underlying42 ni42 ty9 rfl rfl (by rw [List.length_map, List.length_map, List.length_take]; simp only [List.length_cons, List.length_nil]; omega) rfl ?_ | refine W.app 2 (.t rfl) rfl (.arr 0 (.t rfl) rfl (by simp [AV.okc, shV])) Try.underlying42 ni42 ty9 rfl rfl (by rw [List.length_map, List.length_map, List.length_take]; simp only [List.length_cons, List.length_nil]; omega) rfl ?_ | refine W.app 2 (.t rfl) rfl (.arr 1 (.t rfl) rfl (by simp [AV.okc, shV])) Try.underlying42 ni42 ty9 rfl rfl (by rw [List.length_map, List.length_map, List.length_take]; simp only [List.length_cons, List.length_nil]; omega) rfl ?_ | refine W.app 2 (.t rfl) rfl (.arr 2 (.t rfl) rfl (by simp [AV.okc, shV])) Try.underlying42 ni42 ty9 rfl rfl (by rw [List.length_map, List.length_map, List.length_take]; simp only [List.length_cons, List.length_nil]; omega) rfl ?_ | refine W.app 2 (.t rfl) rfl (.arr 3 (.t rfl) rfl (by simp [AV.okc, shV])) Try.underlying42 ni42 ty9 rfl rfl (by rw [List.length_map, List.length_map, List.length_take]; simp only [List.length_cons, List.length_nil]; omega) rfl ?_ | refine W.app 3 (.t rfl) rfl (.arr 0 (.t rfl) rfl (by simp [AV.okc, shV])) Try.underlying42 ni42 ty9 rfl rfl (by rw [List.length_map, List.length_map, List.length_take]; simp only [List.length_cons, List.length_nil]; omega) rfl ?_ | refine W.app 3 (.t rfl) rfl (.arr 1 (.t rfl) rfl (by simp [AV.okc, shV])) Try.underlying42 ni42 ty9 rfl rfl (by rw [List.length_map, List.length_map, List.length_take]; simp only [List.length_cons, List.length_nil]; omega) rfl ?_ | refine W.app 3 (.t rfl) rfl (.arr 2 (.t rfl) rfl (by simp [AV.okc, shV])) Try.underlying42 ni42 ty9 rfl rfl (by rw [List.length_map, List.length_map, List.length_take]; simp only [List.length_cons, List.length_nil]; omega) rfl ?_ | refine W.app 3 (.t rfl) rfl (.arr 3 (.t rfl) rfl (by simp [AV.okc, shV])) Try.underlying42 ni42 ty9 rfl rfl (by rw [List.length_map, List.length_map, List.length_take]; simp only [List.length_cons, List.length_nil]; omega) rfl ?_
      intro v41
      refine W.q (Ev.assign (.t rfl)) rfl ?_
      refine W.nil ?_
      refine W.blk_normal ?_
      refine W.then ?_
      refine W.region ?_
      first | refine W.q (Ev.add (.t rfl) .k (fun _ => by omega)) rfl ?_ | refine W.q (Ev.addw (.t rfl) .k) rfl ?_
      refine W.q (Ev.move (.t rfl)) rfl ?_
      refine W.nil ?_
      refine W.then ?_
      refine W.reach (D := [_]) (i + 1, v41) ⟨rfl, rfl, rfl, rfl, rfl, trivial⟩ (by rw [hsn, hp1, List.map_append]; exact List.perm_append_comm (l₁ := [_])) ⟨by show i + 1 ≤ _; omega, by show _ - (i + 1) < _; omega⟩
  · rw [List.take_of_length_le (show x.parts.length ≤ i from by omega)]
    refine W.seq ?_
    refine W.region ?_
    refine W.q (Ev.lti (.t rfl) (.t rfl)) rfl ?_
    refine W.nil ?_
    refine W.then ?_
    refine W.seq ?_
    refine W.is (t := 12) (g := true) (av' := .lit (.bool false)) rfl (congrArg (fun b => AV.lit (.bool b)) (by exact decide_eq_false (by omega))) ?_
    refine W.condF (.t rfl) ?_
    refine W.exit ?_
    refine W.then_exit ?_
    refine W.then_exit ?_
    refine W.blk_hit ?_
    refine W.then ?_
    refine W.seq ?_
    refine W.seq ?_
    refine W.region ?_
    first | refine W.q (Ev.fae (.t rfl) fa28_0 rfl) rfl ?_ | refine W.q (Ev.fab (.t rfl) fa28_0) rfl ?_ | refine W.q (Ev.faa (.t rfl) fa28_0) rfl ?_
    first | refine W.q (Ev.lde1 (.t rfl) ag3) rfl ?_ | refine W.q (Ev.ldb1 0 (.t rfl) rfl ag3 rfl) rfl ?_ | refine W.q (Ev.ldb1 1 (.t rfl) rfl ag3 rfl) rfl ?_ | refine W.q (Ev.ldb1 2 (.t rfl) rfl ag3 rfl) rfl ?_ | refine W.q (Ev.ldb1 3 (.t rfl) rfl ag3 rfl) rfl ?_
    refine W.nil ?_
    refine W.then ?_
    refine W.block ?_
    refine W.seq ?_
    refine W.region ?_
    refine W.q (Ev.eqi (.t rfl) .k) rfl ?_
    refine W.q (Ev.assign (.t rfl)) rfl ?_
    refine W.nil ?_
    refine W.then ?_
    refine W.cond (.t rfl) (fun hc_t45 => ?_) (fun hc_t45 => ?_)
    · have e45 : x.kind = 1 := eq_of_beq hc_t45
      refine W.seq ?_
      refine W.region ?_
      first | refine W.q (Ev.fae (.t rfl) fa28_1 rfl) rfl ?_ | refine W.q (Ev.fab (.t rfl) fa28_1) rfl ?_ | refine W.q (Ev.faa (.t rfl) fa28_1) rfl ?_
      first | refine W.q (Ev.lde1 (.t rfl) ag3) rfl ?_ | refine W.q (Ev.ldb1 0 (.t rfl) rfl ag3 rfl) rfl ?_ | refine W.q (Ev.ldb1 1 (.t rfl) rfl ag3 rfl) rfl ?_ | refine W.q (Ev.ldb1 2 (.t rfl) rfl ag3 rfl) rfl ?_ | refine W.q (Ev.ldb1 3 (.t rfl) rfl ag3 rfl) rfl ?_
      first | refine W.q (Ev.fae (.t rfl) fa28_1 rfl) rfl ?_ | refine W.q (Ev.fab (.t rfl) fa28_1) rfl ?_ | refine W.q (Ev.faa (.t rfl) fa28_1) rfl ?_
      first | refine W.q (Ev.lde1 (.t rfl) ag3) rfl ?_ | refine W.q (Ev.ldb1 0 (.t rfl) rfl ag3 rfl) rfl ?_ | refine W.q (Ev.ldb1 1 (.t rfl) rfl ag3 rfl) rfl ?_ | refine W.q (Ev.ldb1 2 (.t rfl) rfl ag3 rfl) rfl ?_ | refine W.q (Ev.ldb1 3 (.t rfl) rfl ag3 rfl) rfl ?_
      first | refine W.q (Ev.add (.t rfl) .k (fun _ => by omega)) rfl ?_ | refine W.q (Ev.addw (.t rfl) .k) rfl ?_
      refine W.q (Ev.subs (lo := some (.tmp 48)) (hi := some (.tmp 51)) .k Try.underlying9 (.t rfl) (.t rfl) (fun _ => by obtain ⟨h0, h8⟩ := k1; exact ⟨h0, by omega, by show x.type + 1 ≤ 8; omega⟩)) rfl ?_
      refine W.is (t := 52) (g := true) (av' := .str [97 + UInt8.ofNat x.type.toNat]) rfl (congrArg AV.str (Ex.letter8 x.type k1.1 k1.2)) ?_
      refine W.q (Ev.assign (.t rfl)) rfl ?_
      refine W.nil ?_
      refine W.then ?_
      refine W.ret ?_
      refine W.blk_ret ?_
      refine W.then_ret ?_
      refine W.retn (M' := []) (D := _) (rs := [.tmp 2]) (avs := [_]) Try.results17 ⟨rfl, trivial⟩ rfl (.refl _) ?_
      refine ⟨?_, rfl⟩
      rw [Ex.txt_eq]
      first | (rw [if_pos e45]; rfl) | (rw [if_neg e45, if_pos e53]; rfl) | (rw [if_neg e45, if_neg e53, if_pos e57]; rfl) | (rw [if_neg e45, if_neg e53, if_neg e57, hq, Ex.sign3 x.kind j hj hj3]; rfl)
    · have e45 : x.kind ≠ 1 := beq_eq_false_iff_ne.1 hc_t45
      refine W.seq ?_
      refine W.region ?_
      refine W.q (Ev.eqi (.t rfl) .k) rfl ?_
      refine W.q (Ev.assign (.t rfl)) rfl ?_
      refine W.nil ?_
      refine W.then ?_
      refine W.cond (.t rfl) (fun hc_t53 => ?_) (fun hc_t53 => ?_)
      · have e53 : x.kind = 2 := eq_of_beq hc_t53
        refine W.seq ?_
        refine W.region ?_
        refine W.q (Ev.move (.t rfl)) rfl ?_
        refine W.freezeA (M1 := [_]) (M2 := [_]) (D := []) (v := v) (L' := [(55, true, .sl 1 ((x.parts.map (Ex.ptx1 x.kind)).map AV.str))]) (.refl _) ⟨⟨_, rfl, .one .hit⟩, trivial⟩ (FrzMs.refl _) ?_
        refine W.callp (c_Join (x.parts.map (Ex.ptx1 x.kind)) [] (by rw [List.length_map]; omega) (by have := Ex.join0_le x; omega)) ⟨(.t rfl), .k, trivial⟩ rfl ?_
        refine W.q (Ev.assign (.t rfl)) rfl ?_
        refine W.nil ?_
        refine W.then ?_
        refine W.ret ?_
        refine W.blk_ret ?_
        refine W.then_ret ?_
        refine W.retn (M' := []) (D := _) (rs := [.tmp 2]) (avs := [_]) Try.results17 ⟨rfl, trivial⟩ rfl (.refl _) ?_
        refine ⟨?_, rfl⟩
        rw [Ex.txt_eq]
        first | (rw [if_pos e45]; rfl) | (rw [if_neg e45, if_pos e53]; rfl) | (rw [if_neg e45, if_neg e53, if_pos e57]; rfl) | (rw [if_neg e45, if_neg e53, if_neg e57, hq, Ex.sign3 x.kind j hj hj3]; rfl)
      · have e53 : x.kind ≠ 2 := beq_eq_false_iff_ne.1 hc_t53
        refine W.seq ?_
        refine W.region ?_
        refine W.q (Ev.eqi (.t rfl) .k) rfl ?_
        refine W.q (Ev.assign (.t rfl)) rfl ?_
        refine W.nil ?_
        refine W.then ?_
        refine W.cond (.t rfl) (fun hc_t57 => ?_) (fun hc_t57 => ?_)
        · have e57 : x.kind = 3 := eq_of_beq hc_t57
          refine W.seq ?_
          refine W.region ?_
          refine W.q (Ev.move (.t rfl)) rfl ?_
          refine W.freezeA (M1 := [_]) (M2 := [_]) (D := []) (v := v) (L' := [(59, true, .sl 1 ((x.parts.map (Ex.ptx1 x.kind)).map AV.str))]) (.refl _) ⟨⟨_, rfl, .one .hit⟩, trivial⟩ (FrzMs.refl _) ?_
          refine W.callp (c_Join (x.parts.map (Ex.ptx1 x.kind)) [124] (by rw [List.length_map]; omega) (by have := Ex.join1_le x; omega)) ⟨(.t rfl), .k, trivial⟩ rfl ?_
          refine W.q (Ev.assign (.t rfl)) rfl ?_
          refine W.nil ?_
          refine W.then ?_
          refine W.ret ?_
          refine W.blk_ret ?_
          refine W.then_ret ?_
          refine W.retn (M' := []) (D := _) (rs := [.tmp 2]) (avs := [_]) Try.results17 ⟨rfl, trivial⟩ rfl (.refl _) ?_
          refine ⟨?_, rfl⟩
          rw [Ex.txt_eq]
          first | (rw [if_pos e45]; rfl) | (rw [if_neg e45, if_pos e53]; rfl) | (rw [if_neg e45, if_neg e53, if_pos e57]; rfl) | (rw [if_neg e45, if_neg e53, if_neg e57, hq, Ex.sign3 x.kind j hj hj3]; rfl)
        · have e57 : x.kind ≠ 3 := beq_eq_false_iff_ne.1 hc_t57
          have e4 : 4 ≤ x.kind := by omega
          obtain ⟨q, hq⟩ : ∃ q, x.parts = [q] := List.length_eq_one_iff.1 (k6 e4)
          refine W.skip ?_
          refine W.blk_normal ?_
          refine W.then ?_
          refine W.seq ?_
          refine W.region ?_
          first | refine W.q (Ev.fae (.t rfl) fa28_0 rfl) rfl ?_ | refine W.q (Ev.fab (.t rfl) fa28_0) rfl ?_ | refine W.q (Ev.faa (.t rfl) fa28_0) rfl ?_
          first | refine W.q (Ev.lde1 (.t rfl) ag3) rfl ?_ | refine W.q (Ev.ldb1 0 (.t rfl) rfl ag3 rfl) rfl ?_ | refine W.q (Ev.ldb1 1 (.t rfl) rfl ag3 rfl) rfl ?_ | refine W.q (Ev.ldb1 2 (.t rfl) rfl ag3 rfl) rfl ?_ | refine W.q (Ev.ldb1 3 (.t rfl) rfl ag3 rfl) rfl ?_
          first | refine W.q (Ev.sub (.t rfl) .k (fun _ => by omega)) rfl ?_ | refine W.q (Ev.subw (.t rfl) .k) rfl ?_
          refine W.q (Ev.assign (.t rfl)) rfl ?_
          refine W.nil ?_
          obtain ⟨j, hj, hj3⟩ : ∃ j : Nat, x.kind - 4 = (j : Int) ∧ j < 3 := ⟨(x.kind - 4).toNat, by omega, by omega⟩
          refine W.is (t := 7) (g := true) (av' := .int (j : Int)) rfl (congrArg AV.int hj) ?_
          refine W.freezeA (M1 := [_]) (M2 := [_]) (D := []) (v := v) (L' := [(3, true, .sl 1 ((x.parts.map (Ex.ptx1 x.kind)).map AV.str))]) (.refl _) ⟨⟨_, rfl, .one .hit⟩, trivial⟩ (FrzMs.refl _) ?_
          have hg0 : ((x.parts.map (Ex.ptx1 x.kind)).map AV.str)[0]? = some (.str (Ex.ptx1 x.kind q)) := by rw [hq]; rfl
          have hql : (Ex.ptx1 x.kind q).length ≤ Ex.wz x := by rw [hwe, hq]; simp [Ex.sumL]; omega
          refine W.then ?_
          refine W.seq ?_
          refine W.drawn (by kernel_rfl) (by kernel_rfl) ?_
          refine DP.q (Ev.move (.t rfl)) rfl ?_
          refine DP.q (Ev.at (E := 9) (.t rfl) .k Try.underlying42 ty9 (fun _ => ⟨by decide, hg0⟩) rfl rfl) rfl ?_
          first | refine DP.q (Ev.lde1 (.t rfl) ag9) rfl ?_ | refine DP.q (Ev.ldb1 0 (.t rfl) rfl ag9 rfl) rfl ?_ | refine DP.q (Ev.ldb1 1 (.t rfl) rfl ag9 rfl) rfl ?_ | refine DP.q (Ev.ldb1 2 (.t rfl) rfl ag9 rfl) rfl ?_ | refine DP.q (Ev.ldb1 3 (.t rfl) rfl ag9 rfl) rfl ?_
          refine DP.q (Ev.move (.t rfl)) rfl ?_
          refine DP.q (Ev.move (.t rfl)) rfl ?_
          first | refine DP.q (Ev.add (.t rfl) .k (fun _ => by omega)) rfl ?_ | refine DP.q (Ev.addw (.t rfl) .k) rfl ?_
          refine DP.q (Ev.subs (lo := some (.tmp 67)) (hi := some (.tmp 69)) .k Try.underlying9 (.t rfl) (.t rfl) (fun _ => ⟨by omega, by omega, by show (j : Int) + 1 ≤ 3; omega⟩)) rfl ?_
          refine DP.q (Ev.cat (.t rfl) (.t rfl) (fun _ => by first | omega | (simp only [List.length_append]; omega) | (simp [-List.length_flatMap]; omega) | (simp; omega))) rfl ?_
          refine DP.q (Ev.assign (.t rfl)) rfl ?_
          refine DP.nil ?_
          refine W.then ?_
          refine W.ret ?_
          refine W.retn (M' := []) (D := _) (rs := [.tmp 2]) (avs := [_]) Try.results17 ⟨rfl, trivial⟩ rfl (.refl _) ?_
          refine ⟨?_, rfl⟩
          rw [Ex.txt_eq]
          first | (rw [if_pos e45]; rfl) | (rw [if_neg e45, if_pos e53]; rfl) | (rw [if_neg e45, if_neg e53, if_pos e57]; rfl) | (rw [if_neg e45, if_neg e53, if_neg e57, hq, Ex.sign3 x.kind j hj hj3]; rfl)

theorem c_text : ∀ x : Ex, Ex.ok x → x.sz ≤ 16777216 → (Ex.txt x).length ≤ 1048576 → FnP Try.prog 17 [Ex.avx x] (.str (Ex.txt x)) := by
  refine Ex.rec' fun x ih hx hz hl => ?_
  obtain ⟨h1, h2⟩ := (Ex.ok_iff x).1 hx
  have hw := Ex.wz_le x h1
  have hs := Ex.sz_eq x
  have hn := Ex.szs_len x.parts
  exact c_text_step x h1 hz (by omega) fun d hd => ih d hd (h2 d hd) (by have := Ex.part_sz hd; omega) (by have := Ex.part_txt x h1 d hd; omega)

end WText

end Go.Proofs.Ythhkionhimbekaa
