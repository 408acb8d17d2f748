/-
  Merged: WParse1 Rules Drawn Emit Ref WIndex WParse2 WFault ShelfB.
-/
import Derived.Test.YtacaemfkdieocaaGreatDoorG4
import Derived.Laws.Externs
import Derived.Lib.Bytealg
import Derived.Below
import Derived.Lib.Join

section
set_option linter.unusedVariables false
set_option linter.unusedSimpArgs false
set_option maxRecDepth 100000
namespace Go.Proofs.YtacaemfkdieocaaGreatDoor
open Go.Vl

namespace WParse1
theorem ty3 : Ty Tryz.prog 3 1 8 (.int .i64 0) := Ty.of (by kernel_rfl)
theorem ty9 : Ty Tryz.prog 9 1 16 (.string ⟨#[]⟩) := Ty.of (by kernel_rfl)
theorem ty41 : Ty Tryz.prog 41 1 24 (.slice none 0 0) := Ty.of (by kernel_rfl)
theorem ty43 : Ty Tryz.prog 43 3 40 (.agg #[.int .i64 0, .int .i64 0, .slice none 0 0]) := Ty.of (by kernel_rfl)
theorem ag3 : IsAgg Tryz.prog 3 false := ⟨_, Tryz.underlying3, rfl⟩
theorem ag9 : IsAgg Tryz.prog 9 false := ⟨_, Tryz.underlying9, rfl⟩
theorem ag41 : IsAgg Tryz.prog 41 false := ⟨_, Tryz.underlying41, rfl⟩
theorem ag43 : IsAgg Tryz.prog 43 true := ⟨_, Tryz.underlying43, rfl⟩
theorem fa43_0 : FieldAt Tryz.prog 43 0 0 1 false := ⟨_, _, Tryz.underlying43, rfl, rfl, ty3.size, ag3, by decide⟩
theorem fa43_2 : FieldAt Tryz.prog 43 2 2 1 false := ⟨_, _, Tryz.underlying43, rfl, rfl, ty41.size, ag41, by decide⟩
theorem fa83_0 : FieldAt Tryz.prog 83 0 0 1 false := ⟨_, _, Tryz.underlying83, rfl, rfl, ty9.size, ag9, by decide⟩
theorem st43 : StructAt Tryz.prog 43 [(0, 1), (1, 1), (2, 1)] := ⟨_, Tryz.underlying43, rfl, ty3.size, rfl, ty3.size, rfl, ty41.size, trivial⟩
theorem ni41 : NotInt Tryz.prog 41 := .inl ⟨_, Tryz.underlying41⟩
theorem c_takesT (b : Nat) (c : UInt8) (r : List UInt8) : FnC Tryz.prog 55 [.lit (.pointer (some ⟨b, 0, none⟩)), .u8 c] [.box b 83 [.str (c :: r), .bool false]] (fun x M => x = .bool true ∧ M = [.box b 83 [.str (r), .bool false]]) :=  by
  refine FnC.mk Tryz.func55 (by kernel_rfl) rfl Tryz.ntmps55 rfl (fun w0 F => ?_)
  refine W.seq ?_
  refine W.region ?_
  refine W.q (Ev.assign .k) rfl ?_
  refine W.nil ?_
  refine W.then ?_
  refine W.seq ?_
  refine W.seq ?_
  refine W.region ?_
  refine W.q (Ev.move (.t rfl)) rfl ?_
  refine W.q (Ev.nilc (.t rfl)) rfl ?_
  (refine W.q (Ev.fab (.t rfl) fa83_0) rfl ?_)
  (refine W.q (Ev.ldb1 0 (.t rfl) rfl ag9 rfl) rfl ?_)
  refine W.q (Ev.eqs (.t rfl) .k) rfl ?_
  refine W.q (Ev.move (.t rfl)) rfl ?_
  refine W.qgF rfl rfl (Ev.move (.t rfl)) rfl ?_
  refine W.qgF rfl rfl (Ev.nilc (.c rfl)) rfl ?_
  (refine W.qgF rfl rfl (Ev.fab (.c rfl) fa83_0) rfl ?_)
  (refine W.qgF rfl rfl (Ev.ldb1 0 (.c rfl) rfl ag9 rfl) rfl ?_)
  refine W.qgF rfl rfl (Ev.ats (b := c) (.c rfl) .k Tryz.underlying9 (fun _ => ⟨by decide, rfl⟩)) rfl ?_
  refine W.qgF rfl rfl (Ev.move (.t rfl)) rfl ?_
  refine W.qgF rfl rfl (Ev.nei (.c rfl) (.c rfl)) rfl ?_
  refine W.q (Ev.or (.t rfl) ⟨_, _, rfl, rfl, by ((simp; done))⟩) rfl ?_
  refine W.nil ?_
  refine W.then ?_
  refine W.is (t := 18) (g := true) (av' := .lit (.bool false)) rfl (congrArg (fun b => AV.lit (.bool b)) (by simp)) ?_
  refine W.condF (.t rfl) ?_
  refine W.skip ?_
  refine W.then ?_
  refine W.seq ?_
  refine W.region ?_
  refine W.q (Ev.move (.t rfl)) rfl ?_
  refine W.q (Ev.move (.t rfl)) rfl ?_
  refine W.q (Ev.nilc (.t rfl)) rfl ?_
  (refine W.q (Ev.fab (.t rfl) fa83_0) rfl ?_)
  (refine W.q (Ev.ldb1 0 (.t rfl) rfl ag9 rfl) rfl ?_)
  refine W.q (Ev.subs (lo := some (.const (.int .i64 1))) (hi := none) (.t rfl) Tryz.underlying9 (Ov.k (g := true) (L := [])) rfl (fun _ => by simp only [List.length_cons]; omega)) rfl ?_
  refine W.is (t := 24) (g := true) (av' := .str (r)) rfl (congrArg AV.str (It.tail1 _ _)) ?_
  refine W.q (Ev.nilc (.t rfl)) rfl ?_
  (refine W.q (Ev.fab (.t rfl) fa83_0) rfl ?_)
  (refine W.stb 0 (.t rfl) (.t rfl) rfl ty9 rfl rfl rfl ?_)
  refine W.nil ?_
  refine W.then ?_
  refine W.seq ?_
  refine W.region ?_
  refine W.q (Ev.assign .k) rfl ?_
  refine W.nil ?_
  refine W.then ?_
  refine W.ret ?_
  refine W.retn (M' := [_]) (rs := [.tmp 4]) (avs := [_]) Tryz.results55 ⟨rfl, trivial⟩ rfl (.refl _) ?_
  exact ⟨rfl, rfl⟩

theorem c_takesD (b : Nat) (c d : UInt8) (r : List UInt8) (hcd : d ≠ c) : FnC Tryz.prog 55 [.lit (.pointer (some ⟨b, 0, none⟩)), .u8 c] [.box b 83 [.str (d :: r), .bool false]] (fun x M => x = .bool false ∧ M = [.box b 83 [.str (d :: r), .bool false]]) :=  by
  refine FnC.mk Tryz.func55 (by kernel_rfl) rfl Tryz.ntmps55 rfl (fun w0 F => ?_)
  have hn : ((d.toNat : Nat) : Int) ≠ (c.toNat : Int) := fun h => hcd (UInt8.toNat_inj.1 (by omega))
  refine W.seq ?_
  refine W.region ?_
  refine W.q (Ev.assign .k) rfl ?_
  refine W.nil ?_
  refine W.then ?_
  refine W.seq ?_
  refine W.seq ?_
  refine W.region ?_
  refine W.q (Ev.move (.t rfl)) rfl ?_
  refine W.q (Ev.nilc (.t rfl)) rfl ?_
  (refine W.q (Ev.fab (.t rfl) fa83_0) rfl ?_)
  (refine W.q (Ev.ldb1 0 (.t rfl) rfl ag9 rfl) rfl ?_)
  refine W.q (Ev.eqs (.t rfl) .k) rfl ?_
  refine W.q (Ev.move (.t rfl)) rfl ?_
  refine W.qgF rfl rfl (Ev.move (.t rfl)) rfl ?_
  refine W.qgF rfl rfl (Ev.nilc (.c rfl)) rfl ?_
  (refine W.qgF rfl rfl (Ev.fab (.c rfl) fa83_0) rfl ?_)
  (refine W.qgF rfl rfl (Ev.ldb1 0 (.c rfl) rfl ag9 rfl) rfl ?_)
  refine W.qgF rfl rfl (Ev.ats (b := d) (.c rfl) .k Tryz.underlying9 (fun _ => ⟨by decide, rfl⟩)) rfl ?_
  refine W.qgF rfl rfl (Ev.move (.t rfl)) rfl ?_
  refine W.qgF rfl rfl (Ev.nei (.c rfl) (.c rfl)) rfl ?_
  refine W.q (Ev.or (.t rfl) ⟨_, _, rfl, rfl, by ((simp; done))⟩) rfl ?_
  refine W.nil ?_
  refine W.then ?_
  refine W.is (t := 18) (g := true) (av' := .lit (.bool true)) rfl (congrArg (fun b => AV.lit (.bool b)) (by simp; omega)) ?_
  refine W.condT (.t rfl) ?_
  refine W.seq ?_
  refine W.region ?_
  refine W.q (Ev.assign .k) rfl ?_
  refine W.nil ?_
  refine W.then ?_
  refine W.ret ?_
  refine W.then_ret ?_
  refine W.retn (M' := [_]) (rs := [.tmp 4]) (avs := [_]) Tryz.results55 ⟨rfl, trivial⟩ rfl (.refl _) ?_
  exact ⟨rfl, rfl⟩

theorem c_takesN (b : Nat) (c : UInt8) : FnC Tryz.prog 55 [.lit (.pointer (some ⟨b, 0, none⟩)), .u8 c] [.box b 83 [.str ([]), .bool false]] (fun x M => x = .bool false ∧ M = [.box b 83 [.str ([]), .bool false]]) :=  by
  refine FnC.mk Tryz.func55 (by kernel_rfl) rfl Tryz.ntmps55 rfl (fun w0 F => ?_)
  refine W.seq ?_
  refine W.region ?_
  refine W.q (Ev.assign .k) rfl ?_
  refine W.nil ?_
  refine W.then ?_
  refine W.seq ?_
  refine W.seq ?_
  refine W.region ?_
  refine W.q (Ev.move (.t rfl)) rfl ?_
  refine W.q (Ev.nilc (.t rfl)) rfl ?_
  (refine W.q (Ev.fab (.t rfl) fa83_0) rfl ?_)
  (refine W.q (Ev.ldb1 0 (.t rfl) rfl ag9 rfl) rfl ?_)
  refine W.q (Ev.eqs (.t rfl) .k) rfl ?_
  refine W.q (Ev.move (.t rfl)) rfl ?_
  refine W.gnob rfl rfl (by simp) rfl ?_
  refine W.gnob rfl rfl (by simp) rfl ?_
  refine W.gnob rfl rfl (by simp) rfl ?_
  refine W.gnob rfl rfl (by simp) rfl ?_
  refine W.gnob rfl rfl (by simp) rfl ?_
  refine W.gnob rfl rfl (by simp) rfl ?_
  refine W.gnob rfl rfl (by simp) rfl ?_
  refine W.q (Ev.or (.t rfl) ⟨_, _, rfl, rfl, by ((simp; done))⟩) rfl ?_
  refine W.nil ?_
  refine W.then ?_
  refine W.is (t := 18) (g := true) (av' := .lit (.bool true)) rfl (congrArg (fun b => AV.lit (.bool b)) (by simp)) ?_
  refine W.condT (.t rfl) ?_
  refine W.seq ?_
  refine W.region ?_
  refine W.q (Ev.assign .k) rfl ?_
  refine W.nil ?_
  refine W.then ?_
  refine W.ret ?_
  refine W.then_ret ?_
  refine W.retn (M' := [_]) (rs := [.tmp 4]) (avs := [_]) Tryz.results55 ⟨rfl, trivial⟩ rfl (.refl _) ?_
  exact ⟨rfl, rfl⟩

theorem c_takesF (b : Nat) (c : UInt8) (r : List UInt8) (h : ∀ t, r ≠ c :: t) : FnC Tryz.prog 55 [.lit (.pointer (some ⟨b, 0, none⟩)), .u8 c] [.box b 83 [.str (r), .bool false]] (fun x M => x = .bool false ∧ M = [.box b 83 [.str (r), .bool false]]) := by
  cases r with
  | nil => exact c_takesN b c
  | cons d t => exact c_takesD b c d t (fun e => h t (by rw [e]))

theorem c_together (k : Int) (l : List Ex) (hl : Ex.szs l ≤ 16777216) : FnP Tryz.prog 56 [.int k, .sl 3 (l.map Ex.av)] (Ex.tog k l).avx :=  by
  refine FnC.mk Tryz.func56 (by kernel_rfl) rfl Tryz.ntmps56 rfl (fun w0 F => ?_)
  have hll : (l.map Ex.av).length = l.length := List.length_map ..
  have hsl := Ex.szs_len l
  have hfs := Ex.flat_szs k l
  have hfl := Ex.szs_len (Ex.flat k l)
  refine W.seq ?_
  refine W.region ?_
  refine W.alloc ty43 rfl rfl ?_
  intro b4
  refine W.nil ?_
  refine W.then ?_
  refine W.seq ?_
  refine W.seq ?_
  refine W.region ?_
  refine W.q (Ev.move (.t rfl)) rfl ?_
  (refine W.q (Ev.lensl (.t rfl) Tryz.underlying41) rfl ?_)
  refine W.q (Ev.eqi (.t rfl) .k) rfl ?_
  refine W.nil ?_
  refine W.then ?_
  refine W.cond (.t rfl) (fun hc_t10 => ?_) (fun hc_t10 => ?_)
  · obtain ⟨x1, hx1⟩ : ∃ x, l = [x] := List.length_eq_one_iff.1 (by have := eq_of_beq hc_t10; omega)
    subst hx1
    refine W.seq ?_
    refine W.region ?_
    refine W.q (Ev.move (.t rfl)) rfl ?_
    refine W.q (Ev.at (E := 43) (.t rfl) .k Tryz.underlying41 ty43 (e := x1.avx) (fun _ => ⟨by decide, by show (List.map Ex.av [x1])[0]? = _; rw [← Ex.av_eq]; rfl⟩) rfl rfl) rfl ?_
    (refine W.q (Ev.lden (.t rfl) ag43 ty43 rfl rfl) rfl ?_)
    (refine W.stb 0 (.t rfl) (.t rfl) rfl ty43 rfl rfl rfl ?_)
    refine W.nil ?_
    refine W.then ?_
    refine W.ret ?_
    refine W.then_ret ?_
    refine W.retn (M' := []) (D := _) (rs := [.cell 4 43]) (avs := [_]) Tryz.results56 ⟨⟨_, _, _, rfl, by (exact List.mem_cons_self), rfl, by funext w; exact ag43.run w, by funext w; exact ty43.size w⟩, trivial⟩ rfl (.refl _) ?_
    refine ⟨?_, rfl⟩
    (rfl)
  · have h10 : l.length ≠ 1 := fun h => by rw [hll, h] at hc_t10; simp at hc_t10
    refine W.skip ?_
    refine W.then ?_
    refine W.seq ?_
    refine W.region ?_
    refine W.q (Ev.move (.t rfl)) rfl ?_
    refine W.q (Ev.build ty43 st43 rfl (fun hg => ⟨_, _, _, rfl, (.t rfl), rfl, rfl, rfl, rfl⟩)) rfl ?_
    refine W.alloc ty43 rfl rfl ?_
    intro b5
    (refine W.stb 0 (.t rfl) (.t rfl) rfl ty43 rfl rfl rfl ?_)
    refine W.nil ?_
    refine W.then ?_
    refine W.seq ?_
    refine W.seq ?_
    refine W.region ?_
    refine W.q (Ev.move (.t rfl)) rfl ?_
    (refine W.q (Ev.lensl (.t rfl) Tryz.underlying41) rfl ?_)
    refine W.q (Ev.move .k) rfl ?_
    refine W.nil ?_
    refine W.then ?_
    refine W.block ?_
    refine W.own_nil 43 3 ?_
    refine W.perm (List.Perm.refl _) ?_
    refine W.loop (D := []) (ι := Nat × Value) (fun z => [(18, true, .int (z.1 : Int)), (17, true, .int ((l.map Ex.av).length : Int)), (16, true, .sl 3 (l.map Ex.av)), (5, true, .lit (.pointer (some ⟨b5, 0, none⟩))), (0, true, .int k), (4, true, .lit (.pointer (some ⟨b4, 0, none⟩)))]) (fun z => [.arr z.2 43 3 ((Ex.flat k (l.take z.1)).map Ex.av), .box b5 43 [.int k, .int 0, .lit z.2], .box b4 43 [.int 0, .int 0, .lit (.slice none 0 0)]]) (fun z => z.1 ≤ l.length) (fun z => l.length - z.1) (0, .slice none 0 0) ⟨rfl, rfl, rfl, rfl, rfl, rfl, trivial⟩ (.refl _) (Nat.zero_le _) ?_
    rintro ⟨i, v⟩ hi
    dsimp only at hi ⊢
    rcases (show i < l.length ∨ i = l.length from by omega) with hlt | hend
    · have hga := Ex.at_av l i hlt
      have hsn := Ex.flat_snoc k l i hlt
      have hsz := Ex.szs_mem (getD_memG Ex.dflt l i hlt)
      have hft := Ex.flat_take k l i
      generalize hd : l.getD i Ex.dflt = d at hga hsn hsz
      have hse := Ex.sz_eq d
      refine W.seq ?_
      refine W.region ?_
      refine W.q (Ev.lti (.t rfl) (.t rfl)) rfl ?_
      refine W.nil ?_
      refine W.then ?_
      refine W.seq ?_
      refine W.is (t := 19) (g := true) (av' := .lit (.bool true)) rfl (congrArg (fun b => AV.lit (.bool b)) (by exact decide_eq_true (by omega))) ?_
      refine W.condT (.t rfl) ?_
      refine W.skip ?_
      refine W.then ?_
      refine W.seq ?_
      refine W.block ?_
      refine W.seq ?_
      refine W.region ?_
      refine W.q (Ev.at (E := 43) (.t rfl) (.t rfl) Tryz.underlying41 ty43 (fun _ => ⟨by omega, hga⟩) rfl rfl) rfl ?_
      (refine W.q (Ev.lden (.t rfl) ag43 ty43 rfl rfl) rfl ?_)
      refine W.alloc ty43 rfl rfl ?_
      intro b7
      (refine W.stb 0 (.t rfl) (.t rfl) rfl ty43 rfl rfl rfl ?_)
      refine W.nil ?_
      refine W.then ?_
      refine W.seq ?_
      refine W.region ?_
      (refine W.q (Ev.fab (.t rfl) fa43_0) rfl ?_)
      (refine W.q (Ev.ldb1 0 (.t rfl) rfl ag3 rfl) rfl ?_)
      refine W.q (Ev.move (.t rfl)) rfl ?_
      refine W.q (Ev.eqi (.t rfl) (.t rfl)) rfl ?_
      refine W.nil ?_
      refine W.then ?_
      refine W.cond (.t rfl) (fun hc_t25 => ?_) (fun hc_t25 => ?_)
      · have hek : d.kind = k := eq_of_beq hc_t25
        refine W.region ?_
        (refine W.q (Ev.fab (.t rfl) fa43_2) rfl ?_)
        (refine W.q (Ev.ldb1 2 (.t rfl) rfl ag41 rfl) rfl ?_)
        (refine W.q (Ev.fab (.t rfl) fa43_2) rfl ?_)
        (refine W.q (Ev.ldb1 0 (.t rfl) rfl ag41 rfl) rfl ?_)
        (refine W.app 1 (.t rfl) rfl (.sl (.t rfl) (Ex.okc_avs _)) Tryz.underlying41 ni41 ty43 rfl rfl (by rw [List.length_map, List.length_map]; have := Ex.szs_len d.parts; omega) rfl ?_)
        intro v30
        refine W.arr_inv 1 rfl (fun a30 n30 c30 h30 => ?_)
        subst h30
        (refine W.q (Ev.fab (.t rfl) fa43_2) rfl ?_)
        (refine W.stb 2 (.t rfl) (.t rfl) rfl ty41 rfl rfl rfl ?_)
        refine W.nil ?_
        refine W.blk_normal ?_
        refine W.then ?_
        refine W.region ?_
        (refine W.q (Ev.add (.t rfl) .k (fun _ => by omega)) rfl ?_)
        refine W.q (Ev.move (.t rfl)) rfl ?_
        refine W.nil ?_
        refine W.then ?_
        first
        | (rw [if_pos hek] at hsn; refine W.reach (D := [_]) (i + 1, _) ⟨rfl, rfl, rfl, rfl, rfl, rfl, trivial⟩ (by rw [hsn, List.map_append]; exact (List.perm_middle (l₁ := [_])).symm.trans (List.Perm.cons _ (List.perm_append_comm (l₁ := [_])))) ⟨by show i + 1 ≤ _; omega, by show _ - (i + 1) < _; omega⟩)
        | (rw [if_neg hek] at hsn; refine W.reach (D := [_]) (i + 1, _) ⟨rfl, rfl, rfl, rfl, rfl, rfl, trivial⟩ (by rw [hsn, Ex.map_snoc]; exact (List.perm_middle (l₁ := [_])).symm.trans (List.Perm.cons _ (List.perm_append_comm (l₁ := [_])))) ⟨by show i + 1 ≤ _; omega, by show _ - (i + 1) < _; omega⟩)
      · have hek : d.kind ≠ k := beq_eq_false_iff_ne.1 hc_t25
        refine W.region ?_
        (refine W.q (Ev.fab (.t rfl) fa43_2) rfl ?_)
        (refine W.q (Ev.ldb1 2 (.t rfl) rfl ag41 rfl) rfl ?_)
        (refine W.q (Ev.ldbn 0 (.t rfl) rfl ag43 ty43 rfl) rfl ?_)
        refine W.bs (es := [_]) Tryz.underlying41 ty43 ⟨rfl, (.t rfl), rfl, rfl, trivial⟩ rfl (by decide) rfl rfl ?_
        (refine W.app 1 (.t rfl) rfl (.sl (.t rfl) (by simp [AV.okc, shV])) Tryz.underlying41 ni41 ty43 rfl rfl (by rw [List.length_map]; simp only [List.length_cons, List.length_nil]; omega) rfl ?_)
        intro v36
        refine W.arr_inv 1 rfl (fun a36 n36 c36 h36 => ?_)
        subst h36
        (refine W.q (Ev.fab (.t rfl) fa43_2) rfl ?_)
        (refine W.stb 2 (.t rfl) (.t rfl) rfl ty41 rfl rfl rfl ?_)
        refine W.nil ?_
        refine W.blk_normal ?_
        refine W.then ?_
        refine W.region ?_
        (refine W.q (Ev.add (.t rfl) .k (fun _ => by omega)) rfl ?_)
        refine W.q (Ev.move (.t rfl)) rfl ?_
        refine W.nil ?_
        refine W.then ?_
        first
        | (rw [if_pos hek] at hsn; refine W.reach (D := [_]) (i + 1, _) ⟨rfl, rfl, rfl, rfl, rfl, rfl, trivial⟩ (by rw [hsn, List.map_append]; exact (List.perm_middle (l₁ := [_])).symm.trans (List.Perm.cons _ (List.perm_append_comm (l₁ := [_])))) ⟨by show i + 1 ≤ _; omega, by show _ - (i + 1) < _; omega⟩)
        | (rw [if_neg hek] at hsn; refine W.reach (D := [_]) (i + 1, _) ⟨rfl, rfl, rfl, rfl, rfl, rfl, trivial⟩ (by rw [hsn, Ex.map_snoc]; exact (List.perm_middle (l₁ := [_])).symm.trans (List.Perm.cons _ (List.perm_append_comm (l₁ := [_])))) ⟨by show i + 1 ≤ _; omega, by show _ - (i + 1) < _; omega⟩)
    · rw [List.take_of_length_le (show l.length ≤ i from by omega)]
      refine W.seq ?_
      refine W.region ?_
      refine W.q (Ev.lti (.t rfl) (.t rfl)) rfl ?_
      refine W.nil ?_
      refine W.then ?_
      refine W.seq ?_
      refine W.is (t := 19) (g := true) (av' := .lit (.bool false)) rfl (congrArg (fun b => AV.lit (.bool b)) (by exact decide_eq_false (by omega))) ?_
      refine W.condF (.t rfl) ?_
      refine W.exit ?_
      refine W.then_exit ?_
      refine W.then_exit ?_
      refine W.blk_hit ?_
      refine W.then ?_
      refine W.seq ?_
      refine W.seq ?_
      refine W.region ?_
      (refine W.q (Ev.fab (.t rfl) fa43_2) rfl ?_)
      (refine W.q (Ev.ldb1 1 (.t rfl) rfl ag41 rfl) rfl ?_)
      (refine W.q (Ev.lenar (i := 0) (.t rfl) rfl Tryz.underlying41) rfl ?_)
      refine W.q (Ev.eqi (.t rfl) .k) rfl ?_
      refine W.nil ?_
      refine W.then ?_
      refine W.cond (.t rfl) (fun hc_t42 => ?_) (fun hc_t42 => ?_)
      · obtain ⟨y1, hy1⟩ : ∃ y, Ex.flat k l = [y] := List.length_eq_one_iff.1 (by have := eq_of_beq hc_t42; rw [List.length_map] at this; omega)
        refine W.seq ?_
        refine W.region ?_
        (refine W.q (Ev.fab (.t rfl) fa43_2) rfl ?_)
        (refine W.q (Ev.ldb1 1 (.t rfl) rfl ag41 rfl) rfl ?_)
        refine W.q (Ev.ata 0 (.t rfl) rfl .k Tryz.underlying41 ty43 (fun _ => by rw [List.length_map, hy1]; simp)) rfl ?_
        refine W.q (Ev.ldan 0 0 (e := y1.avx) (.t rfl) rfl (by rw [hy1, ← Ex.av_eq]; rfl) rfl rfl ag43 ty43) rfl ?_
        (refine W.stb 2 (.t rfl) (.t rfl) rfl ty43 rfl rfl rfl ?_)
        refine W.nil ?_
        refine W.then ?_
        refine W.ret ?_
        refine W.then_ret ?_
        refine W.retn (M' := []) (D := _) (rs := [.cell 4 43]) (avs := [_]) Tryz.results56 ⟨⟨_, _, _, rfl, by (exact List.mem_cons_of_mem _ (List.mem_cons_of_mem _ List.mem_cons_self)), rfl, by funext w; exact ag43.run w, by funext w; exact ty43.size w⟩, trivial⟩ rfl (.refl _) ?_
        refine ⟨?_, rfl⟩
        ((rw [Ex.tog_y k l y1 h10 hy1]; rfl))
      · have h42 : (Ex.flat k l).length ≠ 1 := fun h => by rw [List.length_map, h] at hc_t42; simp at hc_t42
        refine W.skip ?_
        refine W.then ?_
        refine W.seq ?_
        refine W.region ?_
        refine W.freezeA (M1 := [.box b5 43 _, _]) (M2 := [.box b5 43 [.int k, .int 0, .sl 3 ((Ex.flat k l).map Ex.av)], _]) (D := []) (v := v) (L' := []) (.refl _) trivial ⟨.box ⟨.refl _, .refl _, .hit, trivial⟩, .refl _, trivial⟩ ?_
        (refine W.q (Ev.ldbn 0 (.t rfl) rfl ag43 ty43 rfl) rfl ?_)
        (refine W.stb 1 (.t rfl) (.t rfl) rfl ty43 rfl rfl rfl ?_)
        refine W.nil ?_
        refine W.then ?_
        refine W.ret ?_
        refine W.retn (M' := []) (D := _) (rs := [.cell 4 43]) (avs := [_]) Tryz.results56 ⟨⟨_, _, _, rfl, by (exact List.mem_cons_of_mem _ List.mem_cons_self), rfl, by funext w; exact ag43.run w, by funext w; exact ty43.size w⟩, trivial⟩ rfl (.refl _) ?_
        refine ⟨?_, rfl⟩
        ((rw [Ex.tog_n k l h10 h42]; rfl))

end WParse1

end Go.Proofs.YtacaemfkdieocaaGreatDoor
end

section
set_option linter.unusedVariables false
set_option linter.unusedSimpArgs false
namespace Go.Vl
structure Rl where
  name : List UInt8
  act : Int
  to : List UInt8
abbrev rav (r : Rl) : AV := .agg [.str r.name, .int r.act, .str r.to]
namespace Nd
theorem text_mk (n : List UInt8) (a : List Dc) (t : List UInt8) (q : List Nd) : (mk n a t q).text = t := rfl
/-- is the last one a text? (p: where there is none) -/
def lastT (p : Bool) (l : List Nd) : Bool := match l.getLast? with
  | none => p
  | some d => d.name == []
mutual
/-- texts are not empty, hold nothing, and do not stand side by side (p: does one stand ahead?); elements have no text -/
def apt : Nd → Bool
  | mk _ _ _ q => apts false q
def apts : Bool → List Nd → Bool
  | _, [] => true
  | p, d :: l => (if d.name = [] then (!(d.text == []) && (d.parts.length == 0 && d.attrs.length == 0)) && !p else (d.text == []) && apt d) && apts (d.name == []) l
end
def apt1 (p : Bool) (d : Nd) : Bool := if d.name = [] then (!(d.text == []) && (d.parts.length == 0 && d.attrs.length == 0)) && !p else (d.text == []) && apts false d.parts
mutual
/-- all texts, one behind the other -/
def wd : Nd → List UInt8
  | mk _ _ _ q => wds q
def wds : List Nd → List UInt8
  | [] => []
  | d :: l => (d.text ++ wd d) ++ wds l
end
mutual
/-- the bytes of all texts, and of all names and values -/
def tsz : Nd → Nat
  | mk _ _ t q => t.length + tszs q
def tszs : List Nd → Nat
  | [] => 0
  | d :: l => tsz d + tszs l
end
mutual
theorem wd_len : ∀ d : Nd, d.text.length + (wd d).length = tsz d
  | mk _ _ t q => by have := wds_len q; simp only [wd, tsz, text_mk]; omega
theorem wds_len : ∀ l : List Nd, (wds l).length = tszs l
  | [] => rfl
  | d :: l => by have := wd_len d; have := wds_len l; simp only [wds, tszs, List.length_append]; omega
end
mutual
/-- have all elements one of these names? -/
def onl (ns : List (List UInt8)) : Nd → Bool
  | mk _ _ _ q => onls ns q
def onls (ns : List (List UInt8)) : List Nd → Bool
  | [] => true
  | d :: l => ((d.name == [] || ns.any fun s => d.name == s) && onl ns d) && onls ns l
end
/-- a node behind others; texts side by side are one -/
def jn1 (out : List Nd) (n : Nd) : List Nd :=
  if n.name = [] ∧ lastT false out = true then out.dropLast ++ [mk [] (out.getD (out.length - 1) dflt).attrs ((out.getD (out.length - 1) dflt).text ++ n.text) (out.getD (out.length - 1) dflt).parts] else out ++ [n]
def jn : List Nd → List Nd → List Nd
  | out, [] => out
  | out, n :: more => jn (jn1 out n) more
end Nd
namespace Rl
open Nd
abbrev dfl : Rl := ⟨[], 2, []⟩
/-- what is done with an element of a name -/
def of (rs : List Rl) (nm : List UInt8) : Rl := if 0 ≤ idxI (fun q => q.name == nm) rs then rs.getD (idxI (fun q => q.name == nm) rs).toNat dfl else dfl
def step (rs : List Rl) (out : List Nd) (d : Nd) (sub : List Nd) : List Nd :=
  if d.name = [] then (if d.text = [] then out else jn1 out (Nd.mk [] [] d.text []))
  else if (of rs d.name).act = 1 then out ++ [Nd.mk (of rs d.name).to d.attrs [] sub]
  else if (of rs d.name).act = 2 then jn out sub else out
mutual
def subs (rs : List Rl) : Nd → List Nd
  | .mk _ _ _ q => run rs [] q
def run (rs : List Rl) : List Nd → List Nd → List Nd
  | out, [] => out
  | out, d :: l => run rs (step rs out d (subs rs d)) l
end
theorem subs_eq (rs : List Rl) (d : Nd) : subs rs d = run rs [] d.parts := by cases d; rfl
theorem run_append (rs : List Rl) (l m : List Nd) : ∀ out, run rs out (l ++ m) = run rs (run rs out l) m := by
  induction l with
  | nil => intro out; rfl
  | cons d l ih => intro out; rw [List.cons_append, run, run, ih]
theorem run_snoc (rs : List Rl) (out l : List Nd) (i : Nat) (h : i < l.length) : run rs out (l.take (i + 1)) = step rs (run rs out (l.take i)) (l.getD i dflt) (run rs [] (l.getD i dflt).parts) := by
  rw [take_getDG dflt l i h, run_append, run, run, subs_eq]
mutual
/-- elements have no text, texts hold nothing -/
def plain : Nd → Prop
  | .mk n a t q => (n = [] → q = [] ∧ a = []) ∧ (n ≠ [] → t = []) ∧ plains q
def plains : List Nd → Prop
  | [] => True
  | d :: l => plain d ∧ plains l
end
/-- elements that are kept as_ they are -/
def kept (rs : List Rl) (nm : List UInt8) : Prop := (of rs nm).act = 1 ∧ (of rs nm).to = nm
mutual
def kp (rs : List Rl) : Nd → Prop
  | .mk n _ _ q => (n ≠ [] → kept rs n) ∧ kps rs q
def kps (rs : List Rl) : List Nd → Prop
  | [] => True
  | d :: l => kp rs d ∧ kps rs l
end
/-- texts that stand in no element -/
def outer (l : List Nd) : List UInt8 := l.flatMap text
end Rl
end Go.Vl
end

section
set_option linter.unusedVariables false
set_option linter.unusedSimpArgs false
namespace Go.Vl
namespace Nd
abbrev tx6 : List (List UInt8) := [[120], [97, 60, 98], [38, 97, 109, 112, 59], [121, 32, 122], [32], [60, 112, 62]]
abbrev vd2 : List (List UInt8) := [[98, 114], [105, 109, 103]]
abbrev el6 : List (List UInt8) := [[100, 105, 118], [98], [101, 109], [112], [97], [117, 108]]
abbrev vl5 : List (List UInt8) := [[], [120], [97, 34, 98, 38], [60], [104, 116, 116, 112, 58, 47, 47, 121]]
abbrev href : List UInt8 := [104, 114, 101, 102]
mutual
/-- what is drawn; k: not deeper than so; p: does a text stand ahead? -/
def dr : Nat → Nd → Prop
  | k, mk n a t q => (n = [] ∧ a = [] ∧ t ∈ tx6 ∧ q = []) ∨ (n ∈ vd2 ∧ a = [] ∧ t = [] ∧ q = []) ∨ (n ∈ el6 ∧ (a = [] ∨ ∃ v ∈ vl5, a = [(href, v)]) ∧ t = [] ∧ 2 ≤ k ∧ drs (k - 1) false q ∧ q.length ≤ 4)
def drs : Nat → Bool → List Nd → Prop
  | _, _, [] => True
  | k, p, d :: l => (d.name = [] → p = false) ∧ dr k d ∧ drs k (d.name == []) l
end
end Nd
namespace Rl
/-- rules that may be -/
structure ok (r : Rl) : Prop where
  n : nameOk r.name = true
  nl : r.name.length ≤ 1000
  a1 : 1 ≤ r.act
  a3 : r.act ≤ 3
  t : r.act = 1 → nameOk r.to = true
  tl : r.to.length ≤ 1000
  t0 : r.act ≠ 1 → r.to = []
structure oks (l : List Rl) : Prop where
  len : l.length ≤ 12
  all : ∀ r ∈ l, r.ok
  one : ∀ i, i < l.length → ((l.take i).any fun q => q.name == (l.getD i dfl).name) = false
abbrev nm6 : List (List UInt8) := [[100, 105, 118], [98], [101, 109], [112], [97], [117, 108]]
abbrev nm8 : List (List UInt8) := [[100, 105, 118], [98], [101, 109], [112], [97], [117, 108], [98, 114], [105, 109, 103]]
/-- rules of the first names -/
structure drawn (l : List Rl) : Prop where
  names : l.map (·.name) = nm6.take l.length
  all : ∀ r ∈ l, r.ok
abbrev tn (r : Rl) : Rl := ⟨r.name, r.act, if r.act = 1 then r.name else r.to⟩
/-- all elements left out -/
abbrev lv (l : List (List UInt8)) : List Rl := l.map fun s => ⟨s, 3, []⟩
/-- names that are kept -/
def kn (l : List Rl) : List (List UInt8) := (l.filter fun r => r.act == 1).map (·.to)
end Rl
end Go.Vl
end

section
set_option linter.unusedVariables false
set_option linter.unusedSimpArgs false
namespace Go.Vl
/-- a byte, escaped -/
def esc1 (q : Bool) (c : UInt8) : List UInt8 := if c = 38 then [38, 97, 109, 112, 59] else if c = 60 then [38, 108, 116, 59] else if c = 62 then [38, 103, 116, 59] else if c = 34 ∧ q = true then [38, 113, 117, 111, 116, 59] else [c]
def esc (q : Bool) (s : List UInt8) : List UInt8 := s.flatMap (esc1 q)
/-- a token -/
structure Tk where
  kind : Int
  name : List UInt8
  attrs : List Dc
  self : Bool
  text : List UInt8
abbrev tav (t : Tk) : AV := .agg [.int t.kind, .str t.name, .sl 2 (t.attrs.map dav), .bool t.self, .str t.text]
def attrS (a : Dc) : List UInt8 := (([32] ++ a.1) ++ [61, 34] ++ esc true a.2) ++ [34]
def tagS (name : List UInt8) (attrs : List Dc) (self : Bool) : List UInt8 := (([60] ++ name) ++ attrs.flatMap attrS ++ (if self then [47] else [])) ++ [62]
/-- attributes that may be -/
structure okAt (l : List Dc) : Prop where
  len : l.length ≤ 4
  all : ∀ a ∈ l, nameOk a.1 = true ∧ a.1.length ≤ 1000
  one : ∀ i, i < l.length → ((l.take i).any fun b => (l.getD i ([], [])).1 == b.1) = false
namespace Tk
abbrev dfl : Tk := ⟨0, [], [], false, []⟩
def txt (t : Tk) : List UInt8 := if t.kind = 1 then tagS t.name t.attrs t.self else if t.kind = 2 then ([60, 47] ++ t.name) ++ [62] else esc false t.text
def txts (l : List Tk) : List UInt8 := l.flatMap txt
abbrev nm5 : List (List UInt8) := [[112], [98], [105], [108, 105], [104, 45, 49]]
abbrev tx7 : List (List UInt8) := [[120], [97, 60, 98], [38, 97, 109, 112, 59], [34, 113, 34], [60, 112, 62], [32, 62, 32], [38, 35, 54, 48, 59]]
abbrev vl6 : List (List UInt8) := [[], [120], [97, 34, 98], [60, 38, 62], [97, 32, 98], [38, 108, 116, 59]]
abbrev at2 : List (List UInt8) := [[99, 108, 97, 115, 115], [104, 114, 101, 102]]
abbrev raws : List (List UInt8) := [[115, 99, 114, 105, 112, 116], [115, 116, 121, 108, 101], [116, 101, 120, 116, 97, 114, 101, 97], [116, 105, 116, 108, 101]]
/-- a token that is drawn -/
def drawn (t : Tk) : Prop := (t.kind = 1 ∧ t.name ∈ nm5 ∧ (t.attrs.map (·.1) = at2.take t.attrs.length ∧ ∀ a ∈ t.attrs, a.2 ∈ vl6) ∧ t.text = []) ∨ (t.kind = 2 ∧ t.name ∈ nm5 ∧ t.attrs = [] ∧ t.self = false ∧ t.text = []) ∨ (t.kind = 3 ∧ t.name = [] ∧ t.attrs = [] ∧ t.self = false ∧ t.text ∈ tx7)
def drawns : Bool → List Tk → Prop
  | _, [] => True
  | p, t :: l => (t.kind = 3 → p = false) ∧ drawn t ∧ drawns (t.kind == 3) l
def lastK (p : Bool) (l : List Tk) : Bool := match l.getLast? with
  | none => p
  | some t => t.kind == 3
end Tk
end Go.Vl
end

section
set_option linter.unusedVariables false
set_option linter.unusedSimpArgs false
namespace Go.Vl
/-- a letter of an escaped text: as_ it is, or by its name -/
abbrev Pc := UInt8 × Bool
namespace Pc
def nm (c : UInt8) : List UInt8 := if c = 38 then [97, 109, 112] else if c = 60 then [108, 116] else if c = 62 then [103, 116] else [113, 117, 111, 116]
def txt (p : Pc) : List UInt8 := if p.2 = true then 38 :: (nm p.1 ++ [59]) else [p.1]
def ok (p : Pc) : Prop := if p.2 = true then (p.1 = 38 ∨ p.1 = 60 ∨ p.1 = 62 ∨ p.1 = 34) else p.1 ≠ 38
def flat (e : List Pc) : List UInt8 := e.flatMap txt
def of (q : Bool) (c : UInt8) : Pc := (c, decide (c = 38 ∨ c = 60 ∨ c = 62 ∨ (c = 34 ∧ q = true)))
abbrev dfl : Pc := (0, false)
theorem flat_snoc (e : List Pc) (k : Nat) (h : k < e.length) : flat (e.take (k + 1)) = flat (e.take k) ++ txt (e.getD k dfl) := by
  rw [take_getDG dfl e k h, flat, List.flatMap_append]; simp [flat]
end Pc
open Go Go.Sem
theorem idx_lib (c : UInt8) : ∀ l : List UInt8, Lib.indexByte l c = idxI (fun b => b == c) l
  | [] => rfl
  | b :: l => by
    have ih := idx_lib c l
    have hg := idxI_ge (fun b => b == c) l
    rw [Lib.indexByte, idxI, ih]
    by_cases h : (b == c) = true
    · rw [if_pos h, if_pos h]
    · rw [if_neg h, if_neg h]
      by_cases h2 : idxI (fun b => b == c) l = -1
      · rw [h2]; rfl
      · rw [if_neg (by simpa using h2), if_neg (by omega)]
/-- the model stands in for internal/bytealg.IndexByteString -/
theorem Ev.ixb {x : Cx} {g : Bool} {L : List (Tmp × Bool × AV)} {M : List ME} {ty : TypeId} {o1 o2 : Operand} {f : FuncId} {fn : Func} {ats : Array TypeId} {l : List UInt8} {c : UInt8} (hf : x.P.funcs[f]? = some fn) (hname : (fn.name == "runtime.NumGoroutine") = false)
    (hb : fn.body.isNone = true) (hn : Extern.findNext fn = none) (he : Extern.find fn = some Extern.BytealgIndexByte.indexByte) (h1 : Ov g L o1 (.str l)) (h2 : Ov g L o2 (.lit (.int .u8 (c.toNat : Int)))) :
    Ev x g L M (.call ⟨.value (.func f), #[o1, o2], ats⟩) ty (.lit (.int .i64 (idxI (fun b => b == c) l))) :=
  Ev.pure fun a w hst hg => by
    have e1 : a.eval o1 = .string ⟨l.toArray⟩ := h1.lit hg hst
    have e2 : a.eval o2 = .int .u8 (c.toNat : Int) := h2.lit hg hst
    have hv : a.eval (.func f) = .func (.func f) #[] #[] := rfl
    have hc : ((c.toNat : Int)).toNat.toUInt8 = c := by simp
    have hr : (callFunc f #[.string ⟨l.toArray⟩, .int .u8 (c.toNat : Int)]).run x.P w = .ok (.value (.int .i64 (idxI (fun b => b == c) l))) w := by
      rw [run_callFunc_extern hf hname hb hn he, Lib.run_indexByteString, Result.andThen_ok, hc, idx_lib]
    simp only [execOp, resolve, hv, Deferred.ofValue, Sem.run_bind, Sem.run_pure, Result.andThen_ok, invoke, List.map_toArray, List.map_cons, List.map_nil, e1, e2]
    simpa using hr
end Go.Vl
end

section
set_option linter.unusedVariables false
set_option linter.unusedSimpArgs false
set_option maxRecDepth 100000
namespace Go.Proofs.YtacaemfkdieocaaGreatDoor
open Go.Vl

namespace WIndex

theorem c_IndexByte0 (l : List UInt8) (c : UInt8) : FnP Tryz.prog 98 [.str l, .lit (.int .u8 (c.toNat : Int))] (.int (idxI (fun b => b == c) l)) :=  by
  refine FnC.mk Tryz.func98 (by kernel_rfl) rfl Tryz.ntmps98 rfl (fun w0 F => ?_)
  refine W.seq ?_
  refine W.region ?_
  refine W.q (Ev.assign .k) rfl ?_
  refine W.nil ?_
  refine W.then ?_
  refine W.seq ?_
  refine W.region ?_
  refine W.q (Ev.move (.t rfl)) rfl ?_
  refine W.q (Ev.move (.t rfl)) rfl ?_
  refine W.q (Ev.ixb (fn := Tryz.f110) Tryz.func110 rfl rfl rfl rfl (.t rfl) (.t rfl)) rfl ?_
  refine W.q (Ev.assign (.t rfl)) rfl ?_
  refine W.nil ?_
  refine W.then ?_
  refine W.ret ?_
  refine W.retn (M' := []) (rs := [.tmp 4]) (avs := [_]) Tryz.results98 ⟨rfl, trivial⟩ rfl (.refl _) ?_
  exact ⟨rfl, rfl⟩

theorem c_IndexByte (l : List UInt8) (c : UInt8) : FnP Tryz.prog 82 [.str l, .lit (.int .u8 (c.toNat : Int))] (.int (idxI (fun b => b == c) l)) :=  by
  refine FnC.mk Tryz.func82 (by kernel_rfl) rfl Tryz.ntmps82 rfl (fun w0 F => ?_)
  refine W.seq ?_
  refine W.region ?_
  refine W.q (Ev.assign .k) rfl ?_
  refine W.nil ?_
  refine W.then ?_
  refine W.seq ?_
  refine W.region ?_
  refine W.q (Ev.move (.t rfl)) rfl ?_
  refine W.q (Ev.move (.t rfl)) rfl ?_
  refine W.callp (c_IndexByte0 l c) ⟨(.t rfl), (.t rfl), trivial⟩ rfl ?_
  refine W.q (Ev.assign (.t rfl)) rfl ?_
  refine W.nil ?_
  refine W.then ?_
  refine W.ret ?_
  refine W.retn (M' := []) (rs := [.tmp 4]) (avs := [_]) Tryz.results82 ⟨rfl, trivial⟩ rfl (.refl _) ?_
  exact ⟨rfl, rfl⟩

end WIndex

end Go.Proofs.YtacaemfkdieocaaGreatDoor
end

section
set_option linter.unusedVariables false
set_option linter.unusedSimpArgs false
set_option maxRecDepth 100000
namespace Go.Proofs.YtacaemfkdieocaaGreatDoor
open Go.Vl

namespace WParse2
theorem ty3 : Ty Tryz.prog 3 1 8 (.int .i64 0) := Ty.of (by kernel_rfl)
theorem ty4 : Ty Tryz.prog 4 1 1 (.bool false) := Ty.of (by kernel_rfl)
theorem ty9 : Ty Tryz.prog 9 1 16 (.string ⟨#[]⟩) := Ty.of (by kernel_rfl)
theorem ty41 : Ty Tryz.prog 41 1 24 (.slice none 0 0) := Ty.of (by kernel_rfl)
theorem ty43 : Ty Tryz.prog 43 3 40 (.agg #[.int .i64 0, .int .i64 0, .slice none 0 0]) := Ty.of (by kernel_rfl)
theorem ag4 : IsAgg Tryz.prog 4 false := ⟨_, Tryz.underlying4, rfl⟩
theorem ag9 : IsAgg Tryz.prog 9 false := ⟨_, Tryz.underlying9, rfl⟩
theorem ag43 : IsAgg Tryz.prog 43 true := ⟨_, Tryz.underlying43, rfl⟩
theorem fa83_0 : FieldAt Tryz.prog 83 0 0 1 false := ⟨_, _, Tryz.underlying83, rfl, rfl, ty9.size, ag9, by decide⟩
theorem fa83_1 : FieldAt Tryz.prog 83 1 1 1 false := ⟨_, _, Tryz.underlying83, rfl, rfl, ty4.size, ag4, by decide⟩
theorem st43 : StructAt Tryz.prog 43 [(0, 1), (1, 1), (2, 1)] := ⟨_, Tryz.underlying43, rfl, ty3.size, rfl, ty3.size, rfl, ty41.size, trivial⟩
theorem ni41 : NotInt Tryz.prog 41 := .inl ⟨_, Tryz.underlying41⟩
theorem c_item_ch (b n : Nat) (sf : List Nat) (r : List UInt8) (hn : n < 8) (hsf : ∀ k ∈ sf, k < 3) (hr : It.endI r) : FnC Tryz.prog 73 [.lit (.pointer (some ⟨b, 0, none⟩))] [.box b 83 [.str (It.tx (.ch n sf) ++ r), .bool false]] (fun x M => x = (It.ev (.ch n sf)).avx ∧ M = [.box b 83 [.str (r), .bool false]]) :=  by
  refine FnC.mk Tryz.func73 (by kernel_rfl) rfl Tryz.ntmps73 rfl (fun w0 F => ?_)
  rw [It.tx, List.cons_append]
  have hcn := It.ch_nat n hn
  generalize 97 + UInt8.ofNat n = c0 at hcn ⊢
  refine W.seq ?_
  refine W.region ?_
  refine W.alloc ty43 rfl rfl ?_
  intro b2
  refine W.nil ?_
  refine W.then ?_
  refine W.seq ?_
  refine W.region ?_
  refine W.q (Ev.move (.t rfl)) rfl ?_
  refine W.q (Ev.nilc (.t rfl)) rfl ?_
  (refine W.q (Ev.fab (.t rfl) fa83_0) rfl ?_)
  (refine W.q (Ev.ldb1 1 (.t rfl) rfl ag9 rfl) rfl ?_)
  refine W.q (Ev.ats (b := c0) (.t rfl) .k Tryz.underlying9 (fun _ => ⟨by decide, rfl⟩)) rfl ?_
  refine W.q (Ev.assign (.t rfl)) rfl ?_
  refine W.nil ?_
  refine W.then ?_
  refine W.seq ?_
  refine W.region ?_
  refine W.q (Ev.move (.t rfl)) rfl ?_
  refine W.q (Ev.move (.t rfl)) rfl ?_
  refine W.q (Ev.nilc (.t rfl)) rfl ?_
  (refine W.q (Ev.fab (.t rfl) fa83_0) rfl ?_)
  (refine W.q (Ev.ldb1 1 (.t rfl) rfl ag9 rfl) rfl ?_)
  refine W.q (Ev.subs (lo := some (.const (.int .i64 1))) (hi := none) (.t rfl) Tryz.underlying9 (Ov.k (g := true) (L := [])) rfl (fun _ => by simp only [List.length_cons]; omega)) rfl ?_
  refine W.is (t := 16) (g := true) (av' := .str (sf.map sg ++ r)) rfl (congrArg AV.str (It.tail1 _ _)) ?_
  refine W.q (Ev.nilc (.t rfl)) rfl ?_
  (refine W.q (Ev.fab (.t rfl) fa83_0) rfl ?_)
  (refine W.stb 1 (.t rfl) (.t rfl) rfl ty9 rfl rfl rfl ?_)
  refine W.nil ?_
  refine W.then ?_
  refine W.seq ?_
  refine W.region ?_
  refine W.alloc ty43 rfl rfl ?_
  intro b4
  refine W.nil ?_
  refine W.then ?_
  refine W.seq ?_
  refine W.block ?_
  refine W.seq ?_
  refine W.region ?_
  refine W.q (Ev.move (.t rfl)) rfl ?_
  refine W.q (Ev.gei (.t rfl) .k) rfl ?_
  refine W.q (Ev.move (.t rfl)) rfl ?_
  refine W.qgT rfl rfl (Ev.move (.t rfl)) rfl ?_
  refine W.qgT rfl rfl (Ev.lei (.c rfl) .k) rfl ?_
  refine W.q (Ev.and (.t rfl) ⟨_, _, rfl, rfl, by ((simp; done))⟩) rfl ?_
  refine W.q (Ev.assign (.t rfl)) rfl ?_
  refine W.nil ?_
  refine W.then ?_
  refine W.is (t := 22) (g := true) (av' := .lit (.bool true)) rfl (congrArg (fun b => AV.lit (.bool b)) (by simp; omega)) ?_
  refine W.condT (.t rfl) ?_
  refine W.region ?_
  refine W.q (Ev.move (.t rfl)) rfl ?_
  refine W.q (Ev.subw (.t rfl) .k) rfl ?_
  refine W.is (t := 30) (g := true) (av' := .lit (.int .u8 (n : Int))) rfl (congrArg (fun z => AV.lit (.int .u8 z)) (by rw [hcn]; simp [IntKind.wrap, IntKind.signed, IntKind.bits]; omega)) ?_
  (refine W.q (Ev.conv64 (.t rfl) ⟨_, Tryz.underlying5⟩ Tryz.underlying3 (fun _ => by omega)) rfl ?_)
  refine W.q (Ev.build ty43 st43 rfl (fun hg => ⟨_, _, _, rfl, .k, rfl, rfl, rfl, _, _, _, rfl, (.t rfl), rfl, rfl, rfl, rfl⟩)) rfl ?_
  refine W.nils (t := 32) (g := true) (cs' := [.int 1, .int (n : Int), .sl 3 []]) rfl ⟨.inl rfl, .inl rfl, .inr ⟨rfl, 3, rfl⟩, trivial⟩ ?_
  (refine W.stb 0 (.t rfl) (.t rfl) rfl ty43 rfl rfl rfl ?_)
  refine W.nil ?_
  refine W.blk_normal ?_
  refine W.then ?_
  refine W.seq ?_
  refine W.block ?_
  refine W.loop (D := []) (ι := Nat) (fun k => [(0, true, .lit (.pointer (some ⟨b, 0, none⟩))), (4, true, .lit (.pointer (some ⟨b4, 0, none⟩))), (2, true, .lit (.pointer (some ⟨b2, 0, none⟩)))]) (fun k => [.box b4 43 (Ex.sfe (.mk 1 (n : Int) []) (sf.take k)).avx.cells, .box b2 43 [.int 0, .int 0, .lit (.slice none 0 0)], .box b 83 [.str ((sf.drop k).map sg ++ r), .bool false]]) (fun k => k ≤ sf.length) (fun k => sf.length - k) 0 ⟨rfl, rfl, rfl, trivial⟩ (.refl _) (Nat.zero_le _) ?_
  intro k hk
  dsimp only at hk ⊢
  rcases (show k < sf.length ∨ (k = sf.length ∧ r = []) ∨ (k = sf.length ∧ ∃ c t, r = c :: t) from by
    rcases Nat.lt_or_ge k sf.length with h | h
    · exact .inl h
    · cases r with
      | nil => exact .inr (.inl ⟨by omega, rfl⟩)
      | cons c t => exact .inr (.inr ⟨by omega, c, t, rfl⟩)) with hlt | ⟨hend, hr0⟩ | ⟨hend, c, t, hr0⟩
  · rw [It.sfdrop sf k hlt r]
    have hk3 := hsf _ (getD_memG 0 sf k hlt)
    have hsn := Ex.sfe_snoc (.mk 1 (n : Int) []) sf k hlt
    generalize hkk : sf.getD k 0 = kk at hk3 hsn ⊢
    refine W.seq ?_
    refine W.seq ?_
    refine W.region ?_
    refine W.q (Ev.move (.t rfl)) rfl ?_
    refine W.q (Ev.nilc (.t rfl)) rfl ?_
    (refine W.q (Ev.fab (.t rfl) fa83_0) rfl ?_)
    (refine W.q (Ev.ldb1 2 (.t rfl) rfl ag9 rfl) rfl ?_)
    refine W.q (Ev.nes (.t rfl) .k) rfl ?_
    refine W.nil ?_
    refine W.then ?_
    refine W.is (t := 54) (g := true) (av' := .lit (.bool true)) rfl (congrArg (fun b => AV.lit (.bool b)) (by rfl)) ?_
    refine W.condT (.t rfl) ?_
    refine W.skip ?_
    refine W.then ?_
    refine W.block ?_
    refine W.seq ?_
    refine W.region ?_
    refine W.q (Ev.move (.t rfl)) rfl ?_
    refine W.q (Ev.nilc (.t rfl)) rfl ?_
    (refine W.q (Ev.fab (.t rfl) fa83_0) rfl ?_)
    (refine W.q (Ev.ldb1 2 (.t rfl) rfl ag9 rfl) rfl ?_)
    refine W.q (Ev.ats (b := sg kk) (.t rfl) .k Tryz.underlying9 (fun _ => ⟨by decide, rfl⟩)) rfl ?_
    refine W.callp (WIndex.c_IndexByte [42, 43, 63] (sg kk)) ⟨.k, (.t rfl), trivial⟩ rfl ?_
    refine W.q (Ev.assign (.t rfl)) rfl ?_
    refine W.nil ?_
    refine W.then ?_
    refine W.seq ?_
    refine W.seq ?_
    refine W.region ?_
    refine W.q (Ev.move (.t rfl)) rfl ?_
    refine W.q (Ev.lti (.t rfl) .k) rfl ?_
    refine W.nil ?_
    refine W.then ?_
    refine W.is (t := 62) (g := true) (av' := .lit (.bool false)) rfl (congrArg (fun b => AV.lit (.bool b)) (by rw [It.sg_idx kk hk3]; exact decide_eq_false (by omega))) ?_
    refine W.condF (.t rfl) ?_
    refine W.skip ?_
    refine W.then ?_
    refine W.seq ?_
    refine W.region ?_
    refine W.q (Ev.move (.t rfl)) rfl ?_
    refine W.q (Ev.move (.t rfl)) rfl ?_
    refine W.q (Ev.nilc (.t rfl)) rfl ?_
    (refine W.q (Ev.fab (.t rfl) fa83_0) rfl ?_)
    (refine W.q (Ev.ldb1 2 (.t rfl) rfl ag9 rfl) rfl ?_)
    refine W.q (Ev.subs (lo := some (.const (.int .i64 1))) (hi := none) (.t rfl) Tryz.underlying9 (Ov.k (g := true) (L := [])) rfl (fun _ => by simp only [List.length_cons]; omega)) rfl ?_
    refine W.is (t := 68) (g := true) (av' := .str ((sf.drop (k + 1)).map sg ++ r)) rfl (congrArg AV.str (It.tail1 _ _)) ?_
    refine W.q (Ev.nilc (.t rfl)) rfl ?_
    (refine W.q (Ev.fab (.t rfl) fa83_0) rfl ?_)
    (refine W.stb 2 (.t rfl) (.t rfl) rfl ty9 rfl rfl rfl ?_)
    refine W.nil ?_
    refine W.then ?_
    refine W.region ?_
    refine W.q (Ev.move (.t rfl)) rfl ?_
    refine W.is (t := 71) (g := true) (av' := .int (kk : Int)) rfl (congrArg AV.int (It.sg_idx kk hk3)) ?_
    (refine W.q (Ev.add .k (.t rfl) (fun _ => by omega)) rfl ?_)
    (refine W.q (Ev.ldbn 0 (.t rfl) rfl ag43 ty43 rfl) rfl ?_)
    refine W.bs (es := [_]) Tryz.underlying41 ty43 ⟨rfl, (.t rfl), rfl, rfl, trivial⟩ rfl (by decide) rfl rfl ?_
    refine W.q (Ev.build ty43 st43 rfl (fun hg => ⟨_, _, _, rfl, (.t rfl), rfl, rfl, rfl, _, _, _, rfl, (.t rfl), rfl, rfl, rfl, rfl⟩)) rfl ?_
    (refine W.stb 0 (.t rfl) (.t rfl) rfl ty43 rfl rfl rfl ?_)
    refine W.nil ?_
    refine W.blk_normal ?_
    refine W.then ?_
    refine W.reach (D := []) (k + 1) ⟨rfl, rfl, rfl, trivial⟩ (by rw [hsn, Ex.avx_one]; exact .refl _) ⟨by show k + 1 ≤ _; omega, by show _ - (k + 1) < _; omega⟩
  · subst hr0
    rw [hend, List.drop_length, List.take_length]
    refine W.seq ?_
    refine W.seq ?_
    refine W.region ?_
    refine W.q (Ev.move (.t rfl)) rfl ?_
    refine W.q (Ev.nilc (.t rfl)) rfl ?_
    (refine W.q (Ev.fab (.t rfl) fa83_0) rfl ?_)
    (refine W.q (Ev.ldb1 2 (.t rfl) rfl ag9 rfl) rfl ?_)
    refine W.q (Ev.nes (.t rfl) .k) rfl ?_
    refine W.nil ?_
    refine W.then ?_
    refine W.is (t := 54) (g := true) (av' := .lit (.bool false)) rfl (congrArg (fun b => AV.lit (.bool b)) (by rfl)) ?_
    refine W.condF (.t rfl) ?_
    refine W.exit ?_
    refine W.then_exit ?_
    refine W.then_exit ?_
    refine W.blk_hit ?_
    refine W.then ?_
    refine W.seq ?_
    refine W.region ?_
    (refine W.q (Ev.ldbn 0 (.t rfl) rfl ag43 ty43 rfl) rfl ?_)
    (refine W.stb 1 (.t rfl) (.t rfl) rfl ty43 rfl rfl rfl ?_)
    refine W.nil ?_
    refine W.then ?_
    refine W.ret ?_
    refine W.retn (M' := [_]) (D := _) (rs := [.cell 2 43]) (avs := [_]) Tryz.results73 ⟨⟨_, _, _, rfl, by (exact List.mem_cons_of_mem _ List.mem_cons_self), rfl, by funext w; exact ag43.run w, by funext w; exact ty43.size w⟩, trivial⟩ rfl (List.perm_middle (l₁ := [_, _])) ?_
    exact ⟨by rw [It.ev]; rfl, rfl⟩
  · subst hr0
    rw [hend, List.drop_length, List.take_length]
    have hc3 := hr c t rfl
    refine W.seq ?_
    refine W.seq ?_
    refine W.region ?_
    refine W.q (Ev.move (.t rfl)) rfl ?_
    refine W.q (Ev.nilc (.t rfl)) rfl ?_
    (refine W.q (Ev.fab (.t rfl) fa83_0) rfl ?_)
    (refine W.q (Ev.ldb1 2 (.t rfl) rfl ag9 rfl) rfl ?_)
    refine W.q (Ev.nes (.t rfl) .k) rfl ?_
    refine W.nil ?_
    refine W.then ?_
    refine W.is (t := 54) (g := true) (av' := .lit (.bool true)) rfl (congrArg (fun b => AV.lit (.bool b)) (by rfl)) ?_
    refine W.condT (.t rfl) ?_
    refine W.skip ?_
    refine W.then ?_
    refine W.block ?_
    refine W.seq ?_
    refine W.region ?_
    refine W.q (Ev.move (.t rfl)) rfl ?_
    refine W.q (Ev.nilc (.t rfl)) rfl ?_
    (refine W.q (Ev.fab (.t rfl) fa83_0) rfl ?_)
    (refine W.q (Ev.ldb1 2 (.t rfl) rfl ag9 rfl) rfl ?_)
    refine W.q (Ev.ats (b := c) (.t rfl) .k Tryz.underlying9 (fun _ => ⟨by decide, rfl⟩)) rfl ?_
    refine W.callp (WIndex.c_IndexByte [42, 43, 63] c) ⟨.k, (.t rfl), trivial⟩ rfl ?_
    refine W.q (Ev.assign (.t rfl)) rfl ?_
    refine W.nil ?_
    refine W.then ?_
    refine W.seq ?_
    refine W.seq ?_
    refine W.region ?_
    refine W.q (Ev.move (.t rfl)) rfl ?_
    refine W.q (Ev.lti (.t rfl) .k) rfl ?_
    refine W.nil ?_
    refine W.then ?_
    refine W.is (t := 62) (g := true) (av' := .lit (.bool true)) rfl (congrArg (fun b => AV.lit (.bool b)) (by rw [It.idx_no c hc3]; rfl)) ?_
    refine W.condT (.t rfl) ?_
    refine W.exit ?_
    refine W.then_exit ?_
    refine W.blk_miss rfl ?_
    refine W.then_exit ?_
    refine W.blk_hit ?_
    refine W.then ?_
    refine W.seq ?_
    refine W.region ?_
    (refine W.q (Ev.ldbn 0 (.t rfl) rfl ag43 ty43 rfl) rfl ?_)
    (refine W.stb 1 (.t rfl) (.t rfl) rfl ty43 rfl rfl rfl ?_)
    refine W.nil ?_
    refine W.then ?_
    refine W.ret ?_
    refine W.retn (M' := [_]) (D := _) (rs := [.cell 2 43]) (avs := [_]) Tryz.results73 ⟨⟨_, _, _, rfl, by (exact List.mem_cons_of_mem _ List.mem_cons_self), rfl, by funext w; exact ag43.run w, by funext w; exact ty43.size w⟩, trivial⟩ rfl (List.perm_middle (l₁ := [_, _])) ?_
    exact ⟨by rw [It.ev]; rfl, rfl⟩

theorem c_item_gr (b : Nat) (s : List It) (a : List (List It)) (sf : List Nat) (r : List UInt8) (hA : ∀ r, It.endA r → FnC Tryz.prog 38 [.lit (.pointer (some ⟨b, 0, none⟩))] [.box b 83 [.str (It.stx (s) ++ (It.atl (a) ++ r)), .bool false]] (fun x M => x = (It.al (s) (a)).avx ∧ M = [.box b 83 [.str (r), .bool false]])) (hsf : ∀ k ∈ sf, k < 3) (hr : It.endI r) : FnC Tryz.prog 73 [.lit (.pointer (some ⟨b, 0, none⟩))] [.box b 83 [.str (It.tx (.gr s a sf) ++ r), .bool false]] (fun x M => x = (It.ev (.gr s a sf)).avx ∧ M = [.box b 83 [.str (r), .bool false]]) :=  by
  refine FnC.mk Tryz.func73 (by kernel_rfl) rfl Tryz.ntmps73 rfl (fun w0 F => ?_)
  rw [It.tx, show (40 :: (It.stx s ++ (It.atl a ++ 41 :: sf.map sg)) ++ r : List UInt8) = 40 :: (It.stx s ++ (It.atl a ++ (41 :: (sf.map sg ++ r)))) from by simp]
  refine W.seq ?_
  refine W.region ?_
  refine W.alloc ty43 rfl rfl ?_
  intro b2
  refine W.nil ?_
  refine W.then ?_
  refine W.seq ?_
  refine W.region ?_
  refine W.q (Ev.move (.t rfl)) rfl ?_
  refine W.q (Ev.nilc (.t rfl)) rfl ?_
  (refine W.q (Ev.fab (.t rfl) fa83_0) rfl ?_)
  (refine W.q (Ev.ldb1 1 (.t rfl) rfl ag9 rfl) rfl ?_)
  refine W.q (Ev.ats (b := 40) (.t rfl) .k Tryz.underlying9 (fun _ => ⟨by decide, rfl⟩)) rfl ?_
  refine W.q (Ev.assign (.t rfl)) rfl ?_
  refine W.nil ?_
  refine W.then ?_
  refine W.seq ?_
  refine W.region ?_
  refine W.q (Ev.move (.t rfl)) rfl ?_
  refine W.q (Ev.move (.t rfl)) rfl ?_
  refine W.q (Ev.nilc (.t rfl)) rfl ?_
  (refine W.q (Ev.fab (.t rfl) fa83_0) rfl ?_)
  (refine W.q (Ev.ldb1 1 (.t rfl) rfl ag9 rfl) rfl ?_)
  refine W.q (Ev.subs (lo := some (.const (.int .i64 1))) (hi := none) (.t rfl) Tryz.underlying9 (Ov.k (g := true) (L := [])) rfl (fun _ => by simp only [List.length_cons]; omega)) rfl ?_
  refine W.is (t := 16) (g := true) (av' := .str (It.stx s ++ (It.atl a ++ (41 :: (sf.map sg ++ r))))) rfl (congrArg AV.str (It.tail1 _ _)) ?_
  refine W.q (Ev.nilc (.t rfl)) rfl ?_
  (refine W.q (Ev.fab (.t rfl) fa83_0) rfl ?_)
  (refine W.stb 1 (.t rfl) (.t rfl) rfl ty9 rfl rfl rfl ?_)
  refine W.nil ?_
  refine W.then ?_
  refine W.seq ?_
  refine W.region ?_
  refine W.alloc ty43 rfl rfl ?_
  intro b4
  refine W.nil ?_
  refine W.then ?_
  refine W.seq ?_
  refine W.block ?_
  refine W.seq ?_
  refine W.region ?_
  refine W.q (Ev.move (.t rfl)) rfl ?_
  refine W.q (Ev.gei (.t rfl) .k) rfl ?_
  refine W.q (Ev.move (.t rfl)) rfl ?_
  refine W.qgT rfl rfl (Ev.move (.t rfl)) rfl ?_
  refine W.qgT rfl rfl (Ev.lei (.c rfl) .k) rfl ?_
  refine W.q (Ev.and (.t rfl) ⟨_, _, rfl, rfl, by ((simp; done))⟩) rfl ?_
  refine W.q (Ev.assign (.t rfl)) rfl ?_
  refine W.nil ?_
  refine W.then ?_
  refine W.is (t := 22) (g := true) (av' := .lit (.bool false)) rfl (congrArg (fun b => AV.lit (.bool b)) (by rfl)) ?_
  refine W.condF (.t rfl) ?_
  refine W.seq ?_
  refine W.region ?_
  refine W.q (Ev.move (.t rfl)) rfl ?_
  refine W.q (Ev.eqi (.t rfl) .k) rfl ?_
  refine W.q (Ev.assign (.t rfl)) rfl ?_
  refine W.nil ?_
  refine W.then ?_
  refine W.is (t := 33) (g := true) (av' := .lit (.bool true)) rfl (congrArg (fun b => AV.lit (.bool b)) (by rfl)) ?_
  refine W.condT (.t rfl) ?_
  refine W.seq ?_
  refine W.region ?_
  refine W.q (Ev.move (.t rfl)) rfl ?_
  refine W.call (hA _ (It.endA_close (sf.map sg ++ r))) ⟨(.t rfl), trivial⟩ ((List.perm_middle (l₁ := [_, _]))) rfl ?_
  rintro _ _ ⟨rfl, rfl⟩
  (refine W.stb 1 (.t rfl) (.t rfl) rfl ty43 rfl rfl rfl ?_)
  refine W.nil ?_
  refine W.then ?_
  refine W.region ?_
  refine W.q (Ev.move (.t rfl)) rfl ?_
  refine W.q (Ev.move (.t rfl)) rfl ?_
  refine W.q (Ev.nilc (.t rfl)) rfl ?_
  (refine W.q (Ev.fab (.t rfl) fa83_1) rfl ?_)
  (refine W.q (Ev.ldb1 0 (.t rfl) rfl ag4 rfl) rfl ?_)
  refine W.q (Ev.move (.t rfl)) rfl ?_
  refine W.gyes rfl rfl ?_
  refine W.q (Ev.move (.t rfl)) rfl ?_
  refine W.gyes rfl rfl ?_
  refine W.call (WParse1.c_takesT b 41 (sf.map sg ++ r)) ⟨(.t rfl), .k, trivial⟩ (.refl _) rfl ?_
  rintro _ _ ⟨rfl, rfl⟩
  refine W.gyes rfl rfl ?_
  refine W.q (Ev.not (.t rfl)) rfl ?_
  refine W.q (Ev.or (.t rfl) ⟨_, _, rfl, rfl, by ((simp; done))⟩) rfl ?_
  refine W.q (Ev.nilc (.t rfl)) rfl ?_
  (refine W.q (Ev.fab (.t rfl) fa83_1) rfl ?_)
  (refine W.stb 0 (.t rfl) (.t rfl) rfl ty4 rfl rfl rfl ?_)
  refine W.nil ?_
  refine W.blk_normal ?_
  refine W.then ?_
  refine W.seq ?_
  refine W.block ?_
  refine W.loop (D := []) (ι := Nat) (fun k => [(0, true, .lit (.pointer (some ⟨b, 0, none⟩))), (4, true, .lit (.pointer (some ⟨b4, 0, none⟩))), (2, true, .lit (.pointer (some ⟨b2, 0, none⟩)))]) (fun k => [.box b4 43 (Ex.sfe (It.al s a) (sf.take k)).avx.cells, .box b2 43 [.int 0, .int 0, .lit (.slice none 0 0)], .box b 83 [.str ((sf.drop k).map sg ++ r), .bool false]]) (fun k => k ≤ sf.length) (fun k => sf.length - k) 0 ⟨rfl, rfl, rfl, trivial⟩ ((List.perm_append_comm (l₁ := [_]))) (Nat.zero_le _) ?_
  intro k hk
  dsimp only at hk ⊢
  rcases (show k < sf.length ∨ (k = sf.length ∧ r = []) ∨ (k = sf.length ∧ ∃ c t, r = c :: t) from by
    rcases Nat.lt_or_ge k sf.length with h | h
    · exact .inl h
    · cases r with
      | nil => exact .inr (.inl ⟨by omega, rfl⟩)
      | cons c t => exact .inr (.inr ⟨by omega, c, t, rfl⟩)) with hlt | ⟨hend, hr0⟩ | ⟨hend, c, t, hr0⟩
  · rw [It.sfdrop sf k hlt r]
    have hk3 := hsf _ (getD_memG 0 sf k hlt)
    have hsn := Ex.sfe_snoc (It.al s a) sf k hlt
    generalize hkk : sf.getD k 0 = kk at hk3 hsn ⊢
    refine W.seq ?_
    refine W.seq ?_
    refine W.region ?_
    refine W.q (Ev.move (.t rfl)) rfl ?_
    refine W.q (Ev.nilc (.t rfl)) rfl ?_
    (refine W.q (Ev.fab (.t rfl) fa83_0) rfl ?_)
    (refine W.q (Ev.ldb1 2 (.t rfl) rfl ag9 rfl) rfl ?_)
    refine W.q (Ev.nes (.t rfl) .k) rfl ?_
    refine W.nil ?_
    refine W.then ?_
    refine W.is (t := 54) (g := true) (av' := .lit (.bool true)) rfl (congrArg (fun b => AV.lit (.bool b)) (by rfl)) ?_
    refine W.condT (.t rfl) ?_
    refine W.skip ?_
    refine W.then ?_
    refine W.block ?_
    refine W.seq ?_
    refine W.region ?_
    refine W.q (Ev.move (.t rfl)) rfl ?_
    refine W.q (Ev.nilc (.t rfl)) rfl ?_
    (refine W.q (Ev.fab (.t rfl) fa83_0) rfl ?_)
    (refine W.q (Ev.ldb1 2 (.t rfl) rfl ag9 rfl) rfl ?_)
    refine W.q (Ev.ats (b := sg kk) (.t rfl) .k Tryz.underlying9 (fun _ => ⟨by decide, rfl⟩)) rfl ?_
    refine W.callp (WIndex.c_IndexByte [42, 43, 63] (sg kk)) ⟨.k, (.t rfl), trivial⟩ rfl ?_
    refine W.q (Ev.assign (.t rfl)) rfl ?_
    refine W.nil ?_
    refine W.then ?_
    refine W.seq ?_
    refine W.seq ?_
    refine W.region ?_
    refine W.q (Ev.move (.t rfl)) rfl ?_
    refine W.q (Ev.lti (.t rfl) .k) rfl ?_
    refine W.nil ?_
    refine W.then ?_
    refine W.is (t := 62) (g := true) (av' := .lit (.bool false)) rfl (congrArg (fun b => AV.lit (.bool b)) (by rw [It.sg_idx kk hk3]; exact decide_eq_false (by omega))) ?_
    refine W.condF (.t rfl) ?_
    refine W.skip ?_
    refine W.then ?_
    refine W.seq ?_
    refine W.region ?_
    refine W.q (Ev.move (.t rfl)) rfl ?_
    refine W.q (Ev.move (.t rfl)) rfl ?_
    refine W.q (Ev.nilc (.t rfl)) rfl ?_
    (refine W.q (Ev.fab (.t rfl) fa83_0) rfl ?_)
    (refine W.q (Ev.ldb1 2 (.t rfl) rfl ag9 rfl) rfl ?_)
    refine W.q (Ev.subs (lo := some (.const (.int .i64 1))) (hi := none) (.t rfl) Tryz.underlying9 (Ov.k (g := true) (L := [])) rfl (fun _ => by simp only [List.length_cons]; omega)) rfl ?_
    refine W.is (t := 68) (g := true) (av' := .str ((sf.drop (k + 1)).map sg ++ r)) rfl (congrArg AV.str (It.tail1 _ _)) ?_
    refine W.q (Ev.nilc (.t rfl)) rfl ?_
    (refine W.q (Ev.fab (.t rfl) fa83_0) rfl ?_)
    (refine W.stb 2 (.t rfl) (.t rfl) rfl ty9 rfl rfl rfl ?_)
    refine W.nil ?_
    refine W.then ?_
    refine W.region ?_
    refine W.q (Ev.move (.t rfl)) rfl ?_
    refine W.is (t := 71) (g := true) (av' := .int (kk : Int)) rfl (congrArg AV.int (It.sg_idx kk hk3)) ?_
    (refine W.q (Ev.add .k (.t rfl) (fun _ => by omega)) rfl ?_)
    (refine W.q (Ev.ldbn 0 (.t rfl) rfl ag43 ty43 rfl) rfl ?_)
    refine W.bs (es := [_]) Tryz.underlying41 ty43 ⟨rfl, (.t rfl), rfl, rfl, trivial⟩ rfl (by decide) rfl rfl ?_
    refine W.q (Ev.build ty43 st43 rfl (fun hg => ⟨_, _, _, rfl, (.t rfl), rfl, rfl, rfl, _, _, _, rfl, (.t rfl), rfl, rfl, rfl, rfl⟩)) rfl ?_
    (refine W.stb 0 (.t rfl) (.t rfl) rfl ty43 rfl rfl rfl ?_)
    refine W.nil ?_
    refine W.blk_normal ?_
    refine W.then ?_
    refine W.reach (D := []) (k + 1) ⟨rfl, rfl, rfl, trivial⟩ (by rw [hsn, Ex.avx_one]; exact .refl _) ⟨by show k + 1 ≤ _; omega, by show _ - (k + 1) < _; omega⟩
  · subst hr0
    rw [hend, List.drop_length, List.take_length]
    refine W.seq ?_
    refine W.seq ?_
    refine W.region ?_
    refine W.q (Ev.move (.t rfl)) rfl ?_
    refine W.q (Ev.nilc (.t rfl)) rfl ?_
    (refine W.q (Ev.fab (.t rfl) fa83_0) rfl ?_)
    (refine W.q (Ev.ldb1 2 (.t rfl) rfl ag9 rfl) rfl ?_)
    refine W.q (Ev.nes (.t rfl) .k) rfl ?_
    refine W.nil ?_
    refine W.then ?_
    refine W.is (t := 54) (g := true) (av' := .lit (.bool false)) rfl (congrArg (fun b => AV.lit (.bool b)) (by rfl)) ?_
    refine W.condF (.t rfl) ?_
    refine W.exit ?_
    refine W.then_exit ?_
    refine W.then_exit ?_
    refine W.blk_hit ?_
    refine W.then ?_
    refine W.seq ?_
    refine W.region ?_
    (refine W.q (Ev.ldbn 0 (.t rfl) rfl ag43 ty43 rfl) rfl ?_)
    (refine W.stb 1 (.t rfl) (.t rfl) rfl ty43 rfl rfl rfl ?_)
    refine W.nil ?_
    refine W.then ?_
    refine W.ret ?_
    refine W.retn (M' := [_]) (D := _) (rs := [.cell 2 43]) (avs := [_]) Tryz.results73 ⟨⟨_, _, _, rfl, by (exact List.mem_cons_of_mem _ List.mem_cons_self), rfl, by funext w; exact ag43.run w, by funext w; exact ty43.size w⟩, trivial⟩ rfl (List.perm_middle (l₁ := [_, _])) ?_
    exact ⟨by rw [It.ev]; rfl, rfl⟩
  · subst hr0
    rw [hend, List.drop_length, List.take_length]
    have hc3 := hr c t rfl
    refine W.seq ?_
    refine W.seq ?_
    refine W.region ?_
    refine W.q (Ev.move (.t rfl)) rfl ?_
    refine W.q (Ev.nilc (.t rfl)) rfl ?_
    (refine W.q (Ev.fab (.t rfl) fa83_0) rfl ?_)
    (refine W.q (Ev.ldb1 2 (.t rfl) rfl ag9 rfl) rfl ?_)
    refine W.q (Ev.nes (.t rfl) .k) rfl ?_
    refine W.nil ?_
    refine W.then ?_
    refine W.is (t := 54) (g := true) (av' := .lit (.bool true)) rfl (congrArg (fun b => AV.lit (.bool b)) (by rfl)) ?_
    refine W.condT (.t rfl) ?_
    refine W.skip ?_
    refine W.then ?_
    refine W.block ?_
    refine W.seq ?_
    refine W.region ?_
    refine W.q (Ev.move (.t rfl)) rfl ?_
    refine W.q (Ev.nilc (.t rfl)) rfl ?_
    (refine W.q (Ev.fab (.t rfl) fa83_0) rfl ?_)
    (refine W.q (Ev.ldb1 2 (.t rfl) rfl ag9 rfl) rfl ?_)
    refine W.q (Ev.ats (b := c) (.t rfl) .k Tryz.underlying9 (fun _ => ⟨by decide, rfl⟩)) rfl ?_
    refine W.callp (WIndex.c_IndexByte [42, 43, 63] c) ⟨.k, (.t rfl), trivial⟩ rfl ?_
    refine W.q (Ev.assign (.t rfl)) rfl ?_
    refine W.nil ?_
    refine W.then ?_
    refine W.seq ?_
    refine W.seq ?_
    refine W.region ?_
    refine W.q (Ev.move (.t rfl)) rfl ?_
    refine W.q (Ev.lti (.t rfl) .k) rfl ?_
    refine W.nil ?_
    refine W.then ?_
    refine W.is (t := 62) (g := true) (av' := .lit (.bool true)) rfl (congrArg (fun b => AV.lit (.bool b)) (by rw [It.idx_no c hc3]; rfl)) ?_
    refine W.condT (.t rfl) ?_
    refine W.exit ?_
    refine W.then_exit ?_
    refine W.blk_miss rfl ?_
    refine W.then_exit ?_
    refine W.blk_hit ?_
    refine W.then ?_
    refine W.seq ?_
    refine W.region ?_
    (refine W.q (Ev.ldbn 0 (.t rfl) rfl ag43 ty43 rfl) rfl ?_)
    (refine W.stb 1 (.t rfl) (.t rfl) rfl ty43 rfl rfl rfl ?_)
    refine W.nil ?_
    refine W.then ?_
    refine W.ret ?_
    refine W.retn (M' := [_]) (D := _) (rs := [.cell 2 43]) (avs := [_]) Tryz.results73 ⟨⟨_, _, _, rfl, by (exact List.mem_cons_of_mem _ List.mem_cons_self), rfl, by funext w; exact ag43.run w, by funext w; exact ty43.size w⟩, trivial⟩ rfl (List.perm_middle (l₁ := [_, _])) ?_
    exact ⟨by rw [It.ev]; rfl, rfl⟩

theorem c_seq (b : Nat) (s : List It) (r : List UInt8) (hs : It.oks s) (hz : Ex.szs (It.sev s) ≤ 16777216) (hI : ∀ i ∈ s, ∀ r, It.endI r → FnC Tryz.prog 73 [.lit (.pointer (some ⟨b, 0, none⟩))] [.box b 83 [.str (It.tx (i) ++ r), .bool false]] (fun x M => x = (It.ev (i)).avx ∧ M = [.box b 83 [.str (r), .bool false]])) (hr : It.endS r) : FnC Tryz.prog 54 [.lit (.pointer (some ⟨b, 0, none⟩))] [.box b 83 [.str (It.stx (s) ++ r), .bool false]] (fun x M => x = (It.sq (s)).avx ∧ M = [.box b 83 [.str (r), .bool false]]) :=  by
  refine FnC.mk Tryz.func54 (by kernel_rfl) rfl Tryz.ntmps54 rfl (fun w0 F => ?_)
  have hsm : (It.sev s).length = s.length := by rw [It.sev_map, List.length_map]
  have hsz := Ex.szs_len (It.sev s)
  refine W.seq ?_
  refine W.region ?_
  refine W.alloc ty43 rfl rfl ?_
  intro b2
  refine W.nil ?_
  refine W.then ?_
  refine W.seq ?_
  refine W.region ?_
  refine W.q (Ev.assign .k) rfl ?_
  refine W.nil ?_
  refine W.then ?_
  refine W.seq ?_
  refine W.block ?_
  refine W.own_nil 43 3 ?_
  refine W.loop (D := []) (ι := Nat × Value) (fun z => [(0, true, .lit (.pointer (some ⟨b, 0, none⟩))), (2, true, .lit (.pointer (some ⟨b2, 0, none⟩))), (3, true, .lit z.2)]) (fun z => [.box b 83 [.str (It.stx (s.drop z.1) ++ r), .bool false], .arr z.2 43 3 (((It.sev s).take z.1).map Ex.av), .box b2 43 [.int 0, .int 0, .lit (.slice none 0 0)]]) (fun z => z.1 ≤ s.length) (fun z => s.length - z.1) (0, .slice none 0 0) ⟨rfl, rfl, rfl, trivial⟩ (List.perm_middle (l₁ := [_, _])) (Nat.zero_le _) ?_
  rintro ⟨k, v⟩ hk
  dsimp only at hk ⊢
  rcases (show k < s.length ∨ (k = s.length ∧ r = []) ∨ (k = s.length ∧ ∃ c t, r = c :: t) from by
    rcases Nat.lt_or_ge k s.length with h | h
    · exact .inl h
    · cases r with
      | nil => exact .inr (.inl ⟨by omega, rfl⟩)
      | cons c t => exact .inr (.inr ⟨by omega, c, t, rfl⟩)) with hlt | ⟨hend, hr0⟩ | ⟨hend, c, t, hr0⟩
  · have him := getD_memG (It.ch 0 []) s k hlt
    have hok := (It.oks_iff s).1 hs
    have hdr := It.drop_cons s k hlt
    have hsn : (It.sev s).take (k + 1) = (It.sev s).take k ++ [(s.getD k (It.ch 0 [])).ev] := by rw [It.sev_map, ← List.map_take, take_getDG (It.ch 0 []) s k hlt, List.map_append, ← List.map_take]; rfl
    have hei : It.endI (It.stx (s.drop (k + 1)) ++ r) := It.endI_stx _ ((It.oks_iff _).2 fun j hj => hok j (List.mem_of_mem_drop hj)) hr
    generalize s.getD k (It.ch 0 []) = i at him hdr hsn
    have cI := hI i him _ hei
    obtain ⟨c0, t0, ht0, hc0⟩ := It.tx_head i (hok i him)
    rw [hdr, List.append_assoc]
    rw [ht0, List.cons_append] at cI ⊢
    have hcn : c0 ≠ 124 ∧ c0 ≠ 41 := by rcases hc0 with h | rfl; constructor <;> (rintro rfl; simp at h); decide
    have h124 := It.u8ne (n := 124) (by decide) hcn.1
    have h41 := It.u8ne (n := 41) (by decide) hcn.2
    refine W.seq ?_
    refine W.seq ?_
    refine W.region ?_
    refine W.q (Ev.move (.t rfl)) rfl ?_
    refine W.q (Ev.nilc (.t rfl)) rfl ?_
    (refine W.q (Ev.fab (.t rfl) fa83_1) rfl ?_)
    (refine W.q (Ev.ldb1 0 (.t rfl) rfl ag4 rfl) rfl ?_)
    refine W.q (Ev.not (.t rfl)) rfl ?_
    refine W.q (Ev.move (.t rfl)) rfl ?_
    refine W.qgT rfl rfl (Ev.move (.t rfl)) rfl ?_
    refine W.qgT rfl rfl (Ev.nilc (.c rfl)) rfl ?_
    (refine W.qgT rfl rfl (Ev.fab (.c rfl) fa83_0) rfl ?_)
    (refine W.qgT rfl rfl (Ev.ldb1 0 (.c rfl) rfl ag9 rfl) rfl ?_)
    refine W.qgT rfl rfl (Ev.nes (.c rfl) .k) rfl ?_
    refine W.q (Ev.and (.t rfl) ⟨_, _, rfl, rfl, by ((simp; done))⟩) rfl ?_
    refine W.q (Ev.move (.t rfl)) rfl ?_
    refine W.qgT rfl rfl (Ev.move (.t rfl)) rfl ?_
    refine W.qgT rfl rfl (Ev.nilc (.c rfl)) rfl ?_
    (refine W.qgT rfl rfl (Ev.fab (.c rfl) fa83_0) rfl ?_)
    (refine W.qgT rfl rfl (Ev.ldb1 0 (.c rfl) rfl ag9 rfl) rfl ?_)
    refine W.qgT rfl rfl (Ev.ats (b := c0) (.c rfl) .k Tryz.underlying9 (fun _ => ⟨by decide, rfl⟩)) rfl ?_
    refine W.qgT rfl rfl (Ev.nei (.c rfl) .k) rfl ?_
    refine W.q (Ev.and (.t rfl) ⟨_, _, rfl, rfl, by ((simp; done))⟩) rfl ?_
    refine W.q (Ev.move (.t rfl)) rfl ?_
    refine W.qgT rfl rfl (Ev.move (.t rfl)) rfl ?_
    refine W.qgT rfl rfl (Ev.nilc (.c rfl)) rfl ?_
    (refine W.qgT rfl rfl (Ev.fab (.c rfl) fa83_0) rfl ?_)
    (refine W.qgT rfl rfl (Ev.ldb1 0 (.c rfl) rfl ag9 rfl) rfl ?_)
    refine W.qgT rfl rfl (Ev.ats (b := c0) (.c rfl) .k Tryz.underlying9 (fun _ => ⟨by decide, rfl⟩)) rfl ?_
    refine W.qgT rfl rfl (Ev.nei (.c rfl) .k) rfl ?_
    refine W.q (Ev.and (.t rfl) ⟨_, _, rfl, rfl, by ((simp; done))⟩) rfl ?_
    refine W.nil ?_
    refine W.then ?_
    refine W.is (t := 31) (g := true) (av' := .lit (.bool true)) rfl (congrArg (fun b => AV.lit (.bool b)) (by simp; omega)) ?_
    refine W.condT (.t rfl) ?_
    refine W.skip ?_
    refine W.then ?_
    refine W.block ?_
    refine W.region ?_
    refine W.q (Ev.move (.t rfl)) rfl ?_
    refine W.q (Ev.move (.t rfl)) rfl ?_
    refine W.call (cI) ⟨(.t rfl), trivial⟩ (.refl _) rfl ?_
    rintro _ _ ⟨rfl, rfl⟩
    refine W.bs (es := [_]) Tryz.underlying41 ty43 ⟨rfl, (.t rfl), rfl, rfl, trivial⟩ rfl (by decide) rfl rfl ?_
    (refine W.app 1 (.t rfl) rfl (.sl (.t rfl) (by simp [AV.okc, shV])) Tryz.underlying41 ni41 ty43 rfl rfl (by rw [List.length_map, List.length_take]; simp only [List.length_cons, List.length_nil]; omega) rfl ?_)
    intro v36
    refine W.q (Ev.assign (.t rfl)) rfl ?_
    refine W.nil ?_
    refine W.blk_normal ?_
    refine W.then ?_
    refine W.reach (D := []) (k + 1, v36) ⟨rfl, rfl, rfl, trivial⟩ (by rw [hsn, Ex.map_snoc]; exact .refl _) ⟨by show k + 1 ≤ _; omega, by show _ - (k + 1) < _; omega⟩
  · subst hr0
    rw [hend, List.drop_length, show (It.stx [] ++ [] : List UInt8) = [] from rfl, List.take_of_length_le (show (It.sev s).length ≤ s.length from by omega)]
    refine W.seq ?_
    refine W.seq ?_
    refine W.region ?_
    refine W.q (Ev.move (.t rfl)) rfl ?_
    refine W.q (Ev.nilc (.t rfl)) rfl ?_
    (refine W.q (Ev.fab (.t rfl) fa83_1) rfl ?_)
    (refine W.q (Ev.ldb1 0 (.t rfl) rfl ag4 rfl) rfl ?_)
    refine W.q (Ev.not (.t rfl)) rfl ?_
    refine W.q (Ev.move (.t rfl)) rfl ?_
    refine W.qgT rfl rfl (Ev.move (.t rfl)) rfl ?_
    refine W.qgT rfl rfl (Ev.nilc (.c rfl)) rfl ?_
    (refine W.qgT rfl rfl (Ev.fab (.c rfl) fa83_0) rfl ?_)
    (refine W.qgT rfl rfl (Ev.ldb1 0 (.c rfl) rfl ag9 rfl) rfl ?_)
    refine W.qgT rfl rfl (Ev.nes (.c rfl) .k) rfl ?_
    refine W.q (Ev.and (.t rfl) ⟨_, _, rfl, rfl, by ((simp; done))⟩) rfl ?_
    refine W.q (Ev.move (.t rfl)) rfl ?_
    refine W.is (t := 16) (g := true) (av' := .bool false) rfl rfl ?_
    refine W.gnob rfl rfl (by simp) rfl ?_
    refine W.gnob rfl rfl (by simp) rfl ?_
    refine W.gnob rfl rfl (by simp) rfl ?_
    refine W.gnob rfl rfl (by simp) rfl ?_
    refine W.gnob rfl rfl (by simp) rfl ?_
    refine W.gnob rfl rfl (by simp) rfl ?_
    refine W.q (Ev.and (.t rfl) ⟨_, _, rfl, rfl, by ((simp; done))⟩) rfl ?_
    refine W.q (Ev.move (.t rfl)) rfl ?_
    refine W.is (t := 24) (g := true) (av' := .bool false) rfl rfl ?_
    refine W.gnob rfl rfl (by simp) rfl ?_
    refine W.gnob rfl rfl (by simp) rfl ?_
    refine W.gnob rfl rfl (by simp) rfl ?_
    refine W.gnob rfl rfl (by simp) rfl ?_
    refine W.gnob rfl rfl (by simp) rfl ?_
    refine W.gnob rfl rfl (by simp) rfl ?_
    refine W.q (Ev.and (.t rfl) ⟨_, _, rfl, rfl, by ((simp; done))⟩) rfl ?_
    refine W.nil ?_
    refine W.then ?_
    refine W.is (t := 31) (g := true) (av' := .lit (.bool false)) rfl (congrArg (fun b => AV.lit (.bool b)) (by rfl)) ?_
    refine W.condF (.t rfl) ?_
    refine W.exit ?_
    refine W.then_exit ?_
    refine W.then_exit ?_
    refine W.blk_hit ?_
    refine W.then ?_
    refine W.seq ?_
    refine W.region ?_
    refine W.q (Ev.move (.t rfl)) rfl ?_
    refine W.freezeA (M1 := [_, _]) (M2 := [_, _]) (D := []) (v := v) (L' := [(37, true, .sl 3 ((It.sev s).map Ex.av))]) (List.perm_middle (l₁ := [_])) ⟨⟨_, rfl, .one .hit⟩, trivial⟩ (FrzMs.refl _) ?_
    refine W.callp (WParse1.c_together 2 (It.sev s) hz) ⟨.k, (.t rfl), trivial⟩ rfl ?_
    (refine W.stb 1 (.t rfl) (.t rfl) rfl ty43 rfl rfl rfl ?_)
    refine W.nil ?_
    refine W.then ?_
    refine W.ret ?_
    refine W.retn (M' := [_]) (D := _) (rs := [.cell 2 43]) (avs := [_]) Tryz.results54 ⟨⟨_, _, _, rfl, by (exact List.mem_cons_of_mem _ List.mem_cons_self), rfl, by funext w; exact ag43.run w, by funext w; exact ty43.size w⟩, trivial⟩ rfl (.refl _) ?_
    exact ⟨rfl, rfl⟩
  · subst hr0
    rw [hend, List.drop_length, show (It.stx [] ++ c :: t : List UInt8) = c :: t from rfl, List.take_of_length_le (show (It.sev s).length ≤ s.length from by omega)]
    have hcc : ((c.toNat : Nat) : Int) = 124 ∨ ((c.toNat : Nat) : Int) = 41 := by
      rcases hr with h | ⟨t2, h | h⟩
      · cases h
      · rw [(List.cons.inj h).1]; exact .inr rfl
      · rw [(List.cons.inj h).1]; exact .inl rfl
    refine W.seq ?_
    refine W.seq ?_
    refine W.region ?_
    refine W.q (Ev.move (.t rfl)) rfl ?_
    refine W.q (Ev.nilc (.t rfl)) rfl ?_
    (refine W.q (Ev.fab (.t rfl) fa83_1) rfl ?_)
    (refine W.q (Ev.ldb1 0 (.t rfl) rfl ag4 rfl) rfl ?_)
    refine W.q (Ev.not (.t rfl)) rfl ?_
    refine W.q (Ev.move (.t rfl)) rfl ?_
    refine W.qgT rfl rfl (Ev.move (.t rfl)) rfl ?_
    refine W.qgT rfl rfl (Ev.nilc (.c rfl)) rfl ?_
    (refine W.qgT rfl rfl (Ev.fab (.c rfl) fa83_0) rfl ?_)
    (refine W.qgT rfl rfl (Ev.ldb1 0 (.c rfl) rfl ag9 rfl) rfl ?_)
    refine W.qgT rfl rfl (Ev.nes (.c rfl) .k) rfl ?_
    refine W.q (Ev.and (.t rfl) ⟨_, _, rfl, rfl, by ((simp; done))⟩) rfl ?_
    refine W.q (Ev.move (.t rfl)) rfl ?_
    refine W.qgT rfl rfl (Ev.move (.t rfl)) rfl ?_
    refine W.qgT rfl rfl (Ev.nilc (.c rfl)) rfl ?_
    (refine W.qgT rfl rfl (Ev.fab (.c rfl) fa83_0) rfl ?_)
    (refine W.qgT rfl rfl (Ev.ldb1 0 (.c rfl) rfl ag9 rfl) rfl ?_)
    refine W.qgT rfl rfl (Ev.ats (b := c) (.c rfl) .k Tryz.underlying9 (fun _ => ⟨by decide, rfl⟩)) rfl ?_
    refine W.qgT rfl rfl (Ev.nei (.c rfl) .k) rfl ?_
    refine W.q (Ev.and (.t rfl) ⟨_, _, rfl, rfl, by ((simp; done))⟩) rfl ?_
    refine W.q (Ev.move (.t rfl)) rfl ?_
    refine W.qgT rfl rfl (Ev.move (.t rfl)) rfl ?_
    refine W.qgT rfl rfl (Ev.nilc (.c rfl)) rfl ?_
    (refine W.qgT rfl rfl (Ev.fab (.c rfl) fa83_0) rfl ?_)
    (refine W.qgT rfl rfl (Ev.ldb1 0 (.c rfl) rfl ag9 rfl) rfl ?_)
    refine W.qgT rfl rfl (Ev.ats (b := c) (.c rfl) .k Tryz.underlying9 (fun _ => ⟨by decide, rfl⟩)) rfl ?_
    refine W.qgT rfl rfl (Ev.nei (.c rfl) .k) rfl ?_
    refine W.q (Ev.and (.t rfl) ⟨_, _, rfl, rfl, by ((simp; done))⟩) rfl ?_
    refine W.nil ?_
    refine W.then ?_
    refine W.is (t := 31) (g := true) (av' := .lit (.bool false)) rfl (congrArg (fun b => AV.lit (.bool b)) (by rcases hcc with h | h <;> rw [h] <;> simp)) ?_
    refine W.condF (.t rfl) ?_
    refine W.exit ?_
    refine W.then_exit ?_
    refine W.then_exit ?_
    refine W.blk_hit ?_
    refine W.then ?_
    refine W.seq ?_
    refine W.region ?_
    refine W.q (Ev.move (.t rfl)) rfl ?_
    refine W.freezeA (M1 := [_, _]) (M2 := [_, _]) (D := []) (v := v) (L' := [(37, true, .sl 3 ((It.sev s).map Ex.av))]) (List.perm_middle (l₁ := [_])) ⟨⟨_, rfl, .one .hit⟩, trivial⟩ (FrzMs.refl _) ?_
    refine W.callp (WParse1.c_together 2 (It.sev s) hz) ⟨.k, (.t rfl), trivial⟩ rfl ?_
    (refine W.stb 1 (.t rfl) (.t rfl) rfl ty43 rfl rfl rfl ?_)
    refine W.nil ?_
    refine W.then ?_
    refine W.ret ?_
    refine W.retn (M' := [_]) (D := _) (rs := [.cell 2 43]) (avs := [_]) Tryz.results54 ⟨⟨_, _, _, rfl, by (exact List.mem_cons_of_mem _ List.mem_cons_self), rfl, by funext w; exact ag43.run w, by funext w; exact ty43.size w⟩, trivial⟩ rfl (.refl _) ?_
    exact ⟨rfl, rfl⟩

theorem c_alt (b : Nat) (s : List It) (a : List (List It)) (r : List UInt8) (hz : Ex.szs (It.sq s :: It.aev a) ≤ 16777216) (hS : ∀ t, (t = s ∨ t ∈ a) → ∀ r, It.endS r → FnC Tryz.prog 54 [.lit (.pointer (some ⟨b, 0, none⟩))] [.box b 83 [.str (It.stx (t) ++ r), .bool false]] (fun x M => x = (It.sq (t)).avx ∧ M = [.box b 83 [.str (r), .bool false]])) (hr : It.endA r) : FnC Tryz.prog 38 [.lit (.pointer (some ⟨b, 0, none⟩))] [.box b 83 [.str (It.stx (s) ++ (It.atl (a) ++ r)), .bool false]] (fun x M => x = (It.al (s) (a)).avx ∧ M = [.box b 83 [.str (r), .bool false]]) :=  by
  refine FnC.mk Tryz.func38 (by kernel_rfl) rfl Tryz.ntmps38 rfl (fun w0 F => ?_)
  have ham : (It.aev a).length = a.length := by rw [It.aev_map, List.length_map]
  have hsz := Ex.szs_len (It.sq s :: It.aev a)
  rw [List.length_cons] at hsz
  refine W.seq ?_
  refine W.region ?_
  refine W.alloc ty43 rfl rfl ?_
  intro b2
  refine W.nil ?_
  refine W.then ?_
  refine W.seq ?_
  refine W.region ?_
  refine W.q (Ev.move (.t rfl)) rfl ?_
  refine W.call (hS s (.inl rfl) _ (It.endS_atl a hr)) ⟨(.t rfl), trivial⟩ ((List.Perm.swap _ _ [])) rfl ?_
  rintro _ _ ⟨rfl, rfl⟩
  refine W.bso (es := [_]) Tryz.underlying41 ty43 ⟨rfl, (.t rfl), rfl, rfl, trivial⟩ rfl (by decide) rfl rfl ?_
  intro v6
  refine W.q (Ev.assign (.t rfl)) rfl ?_
  refine W.nil ?_
  refine W.then ?_
  refine W.seq ?_
  refine W.block ?_
  refine W.loop (D := []) (ι := Nat × Value) (fun z => [(0, true, .lit (.pointer (some ⟨b, 0, none⟩))), (2, true, .lit (.pointer (some ⟨b2, 0, none⟩))), (3, true, .lit z.2)]) (fun z => [.box b 83 [.str (It.atl (a.drop z.1) ++ r), .bool false], .arr z.2 43 3 (([It.sq s] ++ (It.aev a).take z.1).map Ex.av), .box b2 43 [.int 0, .int 0, .lit (.slice none 0 0)]]) (fun z => z.1 ≤ a.length) (fun z => a.length - z.1) (0, v6) ⟨rfl, rfl, rfl, trivial⟩ (by have e : ([It.sq s] ++ (It.aev a).take 0).map Ex.av = [(It.sq s).avx] := (by rw [List.take_zero]; show [(It.sq s).av] = _; rw [Ex.av_eq]); dsimp only; rw [e]; exact List.Perm.swap _ _ _) (Nat.zero_le _) ?_
  rintro ⟨k, v⟩ hk
  dsimp only at hk ⊢
  rcases (show k < a.length ∨ k = a.length from by omega) with hlt | hend
  · have htm := getD_memG [] a k hlt
    have hdr := It.atl_drop a k hlt
    have hsn : (It.aev a).take (k + 1) = (It.aev a).take k ++ [It.sq (a.getD k [])] := by rw [It.aev_map, ← List.map_take, take_getDG [] a k hlt, List.map_append, ← List.map_take]; rfl
    generalize a.getD k [] = u at htm hdr hsn
    rw [hdr, List.cons_append, List.append_assoc]
    refine W.seq ?_
    refine W.seq ?_
    refine W.region ?_
    refine W.q (Ev.move (.t rfl)) rfl ?_
    refine W.call (WParse1.c_takesT b 124 _) ⟨(.t rfl), .k, trivial⟩ (.refl _) rfl ?_
    rintro _ _ ⟨rfl, rfl⟩
    refine W.nil ?_
    refine W.then ?_
    refine W.is (t := 8) (g := true) (av' := .lit (.bool true)) rfl (congrArg (fun b => AV.lit (.bool b)) (by rfl)) ?_
    refine W.condT (.t rfl) ?_
    refine W.skip ?_
    refine W.then ?_
    refine W.block ?_
    refine W.region ?_
    refine W.q (Ev.move (.t rfl)) rfl ?_
    refine W.q (Ev.move (.t rfl)) rfl ?_
    refine W.call (hS u (.inr htm) _ (It.endS_atl _ hr)) ⟨(.t rfl), trivial⟩ (.refl _) rfl ?_
    rintro _ _ ⟨rfl, rfl⟩
    refine W.bs (es := [_]) Tryz.underlying41 ty43 ⟨rfl, (.t rfl), rfl, rfl, trivial⟩ rfl (by decide) rfl rfl ?_
    (refine W.app 1 (.t rfl) rfl (.sl (.t rfl) (by simp [AV.okc, shV])) Tryz.underlying41 ni41 ty43 rfl rfl (by rw [List.length_map, List.length_append, List.length_take]; simp only [List.length_cons, List.length_nil]; omega) rfl ?_)
    intro v13
    refine W.q (Ev.assign (.t rfl)) rfl ?_
    refine W.nil ?_
    refine W.blk_normal ?_
    refine W.then ?_
    refine W.reach (D := []) (k + 1, v13) ⟨rfl, rfl, rfl, trivial⟩ (by rw [hsn, ← List.append_assoc, Ex.map_snoc]; exact .refl _) ⟨by show k + 1 ≤ _; omega, by show _ - (k + 1) < _; omega⟩
  · rw [hend, List.drop_length, show (It.atl [] ++ r : List UInt8) = r from rfl, List.take_of_length_le (show (It.aev a).length ≤ a.length from by omega), show [It.sq s] ++ It.aev a = It.sq s :: It.aev a from rfl]
    refine W.seq ?_
    refine W.seq ?_
    refine W.region ?_
    refine W.q (Ev.move (.t rfl)) rfl ?_
    refine W.call (WParse1.c_takesF b 124 r (fun t e => by rcases hr with h | ⟨t2, h⟩ <;> (rw [h] at e; cases e))) ⟨(.t rfl), .k, trivial⟩ (.refl _) rfl ?_
    rintro _ _ ⟨rfl, rfl⟩
    refine W.nil ?_
    refine W.then ?_
    refine W.is (t := 8) (g := true) (av' := .lit (.bool false)) rfl (congrArg (fun b => AV.lit (.bool b)) (by rfl)) ?_
    refine W.condF (.t rfl) ?_
    refine W.exit ?_
    refine W.then_exit ?_
    refine W.then_exit ?_
    refine W.blk_hit ?_
    refine W.then ?_
    refine W.seq ?_
    refine W.region ?_
    refine W.q (Ev.move (.t rfl)) rfl ?_
    refine W.freezeA (M1 := [_, _]) (M2 := [_, _]) (D := []) (v := v) (L' := [(14, true, .sl 3 ((It.sq s :: It.aev a).map Ex.av))]) (List.perm_middle (l₁ := [_])) ⟨⟨_, rfl, .one .hit⟩, trivial⟩ (FrzMs.refl _) ?_
    refine W.callp (WParse1.c_together 3 (It.sq s :: It.aev a) hz) ⟨.k, (.t rfl), trivial⟩ rfl ?_
    (refine W.stb 1 (.t rfl) (.t rfl) rfl ty43 rfl rfl rfl ?_)
    refine W.nil ?_
    refine W.then ?_
    refine W.ret ?_
    refine W.retn (M' := [.box b 83 [.str (r), .bool false]]) (D := _) (rs := [.cell 2 43]) (avs := [_]) Tryz.results38 ⟨⟨_, _, _, rfl, by (exact List.mem_cons_of_mem _ List.mem_cons_self), rfl, by funext w; exact ag43.run w, by funext w; exact ty43.size w⟩, trivial⟩ rfl (.refl _) ?_
    exact ⟨rfl, rfl⟩

theorem c_item (b : Nat) : ∀ i : It, It.ok i → (It.tx i).length ≤ 1048576 → ∀ r, It.endI r → FnC Tryz.prog 73 [.lit (.pointer (some ⟨b, 0, none⟩))] [.box b 83 [.str (It.tx (i) ++ r), .bool false]] (fun x M => x = (It.ev (i)).avx ∧ M = [.box b 83 [.str (r), .bool false]]) := by
  suffices H : ∀ n, ∀ i : It, It.sz i ≤ n → It.ok i → (It.tx i).length ≤ 1048576 → ∀ r, It.endI r → FnC Tryz.prog 73 [.lit (.pointer (some ⟨b, 0, none⟩))] [.box b 83 [.str (It.tx (i) ++ r), .bool false]] (fun x M => x = (It.ev (i)).avx ∧ M = [.box b 83 [.str (r), .bool false]]) from fun i => H _ i (Nat.le_refl _)
  intro n
  induction n with
  | zero => intro i hi; cases i <;> simp only [It.sz] at hi <;> omega
  | succ n ih =>
    intro i hi hok hz r hr
    cases i with
    | ch m sf => simp only [It.ok] at hok; exact c_item_ch b m sf r hok.1 hok.2 hr
    | gr s a sf =>
      simp only [It.sz] at hi
      simp only [It.ok] at hok
      have hal := It.al_big s a
      have hle : (It.stx s ++ It.atl a).length ≤ 1048576 := by rw [It.tx] at hz; simp only [List.length_cons, List.length_append] at hz ⊢; omega
      refine c_item_gr b s a sf r (fun r hr => c_alt b s a r (by omega) (fun t ht r hr => ?_) hr) hok.2 hr
      have hto : It.oks t := ht.elim (fun e => e ▸ hok.1.1) fun hm => (It.oka_iff a).1 hok.1.2 t hm
      have htz : It.szs t ≤ n := ht.elim (fun e => by subst e; omega) fun hm => by have := It.szs_mem hm; omega
      have htl := It.al_mem ht
      have hts := It.sev_big t
      exact c_seq b t r hto (by omega) (fun i hi' r hr => ih i (by have := It.sz_mem hi'; omega) ((It.oks_iff t).1 hto i hi') (by have := It.stx_mem hi'; omega) r hr) hr
theorem c_top (b : Nat) (s : List It) (a : List (List It)) (hs : It.oks s) (ha : It.oka a) (hz : (It.stx s ++ It.atl a).length ≤ 1048576) : FnC Tryz.prog 38 [.lit (.pointer (some ⟨b, 0, none⟩))] [.box b 83 [.str (It.stx (s) ++ (It.atl (a) ++ [])), .bool false]] (fun x M => x = (It.al (s) (a)).avx ∧ M = [.box b 83 [.str ([]), .bool false]]) := by
  have hal := It.al_big s a
  refine c_alt b s a [] (by omega) (fun t ht r hr => ?_) (.inl rfl)
  have hto : It.oks t := ht.elim (fun e => e ▸ hs) fun hm => (It.oka_iff a).1 ha t hm
  have htl := It.al_mem ht
  have hts := It.sev_big t
  exact c_seq b t r hto (by omega) (fun i hi' r hr => c_item b i ((It.oks_iff t).1 hto i hi') (by have := It.stx_mem hi'; omega) r hr) hr

end WParse2

end Go.Proofs.YtacaemfkdieocaaGreatDoor
end

section
set_option linter.unusedVariables false
set_option linter.unusedSimpArgs false
set_option maxRecDepth 100000
namespace Go.Proofs.YtacaemfkdieocaaGreatDoor
open Go.Vl

namespace WFault
theorem ty3 : Ty Tryz.prog 3 1 8 (.int .i64 0) := Ty.of (by kernel_rfl)
theorem ty41 : Ty Tryz.prog 41 1 24 (.slice none 0 0) := Ty.of (by kernel_rfl)
theorem ty43 : Ty Tryz.prog 43 3 40 (.agg #[.int .i64 0, .int .i64 0, .slice none 0 0]) := Ty.of (by kernel_rfl)
theorem ag3 : IsAgg Tryz.prog 3 false := ⟨_, Tryz.underlying3, rfl⟩
theorem ag41 : IsAgg Tryz.prog 41 false := ⟨_, Tryz.underlying41, rfl⟩
theorem ag43 : IsAgg Tryz.prog 43 true := ⟨_, Tryz.underlying43, rfl⟩
theorem fa43_0 : FieldAt Tryz.prog 43 0 0 1 false := ⟨_, _, Tryz.underlying43, rfl, rfl, ty3.size, ag3, by decide⟩
theorem fa43_1 : FieldAt Tryz.prog 43 1 1 1 false := ⟨_, _, Tryz.underlying43, rfl, rfl, ty3.size, ag3, by decide⟩
theorem fa43_2 : FieldAt Tryz.prog 43 2 2 1 false := ⟨_, _, Tryz.underlying43, rfl, rfl, ty41.size, ag41, by decide⟩
theorem c_IndexFuncX (l : List Ex) (g : Nat) (caps : List Value) (M0 : List ME) (p : Ex → Bool) (hg : ∀ d ∈ l, FnC Tryz.prog g ([Ex.avx d] ++ caps.map .lit) M0 (fun r M => r = .bool (p d) ∧ M = M0)) (hn : l.length ≤ 1099511627776) : FnC Tryz.prog 74 [.sl 3 (l.map Ex.av), .lit (.func (.func g) #[] caps.toArray)] M0 (fun r M => r = .int (idxI p l) ∧ M = M0) :=  by
  refine FnC.mk Tryz.func74 (by kernel_rfl) rfl Tryz.ntmps74 rfl (fun w0 F => ?_)
  have hnl : (l.map Ex.av).length = l.length := List.length_map ..
  refine W.seq ?_
  refine W.region ?_
  refine W.q (Ev.assign .k) rfl ?_
  refine W.nil ?_
  refine W.then ?_
  refine W.seq ?_
  refine W.seq ?_
  refine W.region ?_
  refine W.q (Ev.move (.t rfl)) rfl ?_
  (refine W.q (Ev.lensl (.t rfl) Tryz.underlying41) rfl ?_)
  refine W.q (Ev.move .k) rfl ?_
  refine W.nil ?_
  refine W.then ?_
  refine W.block ?_
  refine W.loop (D := []) (ι := Nat) (fun i => [(8, true, .int (i : Int)), (7, true, .int ((l.map Ex.av).length : Int)), (0, true, .sl 3 (l.map Ex.av)), (1, true, .lit (.func (.func g) #[] caps.toArray))]) (fun _ => M0) (fun i => i ≤ l.length ∧ ∀ d ∈ l.take i, p d = false) (fun i => l.length - i) 0 ⟨rfl, rfl, rfl, rfl, trivial⟩ (List.Perm.of_eq (List.append_nil _).symm) ⟨Nat.zero_le _, by simp⟩ ?_
  rintro i ⟨hi1, hi2⟩
  dsimp only at hi1 hi2 ⊢
  rcases (show i < l.length ∨ i = l.length from by omega) with hlt | hend
  · have hga := Ex.at_av l i hlt
    refine W.seq ?_
    refine W.region ?_
    refine W.q (Ev.lti (.t rfl) (.t rfl)) rfl ?_
    refine W.nil ?_
    refine W.then ?_
    refine W.seq ?_
    refine W.is (t := 9) (g := true) (av' := .lit (.bool true)) rfl (congrArg (fun b => AV.lit (.bool b)) (by simp; omega)) ?_
    refine W.condT (.t rfl) ?_
    refine W.skip ?_
    refine W.then ?_
    refine W.seq ?_
    refine W.block ?_
    refine W.seq ?_
    refine W.region ?_
    refine W.q (Ev.move (.t rfl)) rfl ?_
    refine W.q (Ev.assign (.t rfl)) rfl ?_
    refine W.nil ?_
    refine W.then ?_
    refine W.seq ?_
    refine W.region ?_
    refine W.q (Ev.move (.t rfl)) rfl ?_
    refine W.q (Ev.move (.t rfl)) rfl ?_
    refine W.q (Ev.move (.t rfl)) rfl ?_
    refine W.q (Ev.at (E := 43) (.t rfl) (.t rfl) Tryz.underlying41 ty43 (fun _ => ⟨by omega, hga⟩) rfl rfl) rfl ?_
    (refine W.q (Ev.lden (.t rfl) ag43 ty43 rfl rfl) rfl ?_)
    refine W.callv (caps := caps) (avs := [_]) (hg (l.getD i Ex.dflt) (getD_memG Ex.dflt l i hlt)) (.t rfl) ⟨(.t rfl), trivial⟩ rfl ((List.Perm.of_eq (List.append_nil _).symm)) rfl ?_
    rintro _ M' ⟨rfl, hM⟩
    rw [hM, List.append_nil]
    refine W.nil ?_
    refine W.then ?_
    refine W.cond (.t rfl) (fun hc_t16 => ?_) (fun hc_t16 => ?_)
    · have hq := idxI_hit p Ex.dflt l i hlt hi2 hc_t16
      refine W.seq ?_
      refine W.region ?_
      refine W.q (Ev.move (.t rfl)) rfl ?_
      refine W.q (Ev.assign (.t rfl)) rfl ?_
      refine W.nil ?_
      refine W.then ?_
      refine W.ret ?_
      refine W.blk_ret ?_
      refine W.then_ret ?_
      refine W.then_ret ?_
      refine W.blk_ret ?_
      refine W.then_ret ?_
      refine W.retn (M' := M0) (D := []) (rs := [.tmp 4]) (avs := [_]) Tryz.results74 ⟨rfl, trivial⟩ rfl (List.Perm.of_eq (List.append_nil _).symm) ?_
      exact ⟨congrArg AV.int (by rw [hq]), rfl⟩
    · have hq : p (l.getD i Ex.dflt) = false := hc_t16
      refine W.skip ?_
      refine W.blk_normal ?_
      refine W.then ?_
      refine W.region ?_
      (refine W.q (Ev.add (.t rfl) .k (fun _ => by omega)) rfl ?_)
      refine W.q (Ev.move (.t rfl)) rfl ?_
      refine W.nil ?_
      refine W.then ?_
      refine W.reach (D := []) (i + 1) ⟨rfl, rfl, rfl, rfl, trivial⟩ (List.Perm.of_eq (List.append_nil _).symm) ⟨⟨by omega, ?_⟩, by omega⟩
      rw [take_getDG Ex.dflt l i hlt]
      intro d hd
      cases List.mem_append.1 hd with
      | inl h => exact hi2 d h
      | inr h => rw [List.mem_singleton.1 h]; exact hq
  · rw [List.take_of_length_le (by omega)] at hi2
    have hq := idxI_miss p l hi2
    refine W.seq ?_
    refine W.region ?_
    refine W.q (Ev.lti (.t rfl) (.t rfl)) rfl ?_
    refine W.nil ?_
    refine W.then ?_
    refine W.seq ?_
    refine W.is (t := 9) (g := true) (av' := .lit (.bool false)) rfl (congrArg (fun b => AV.lit (.bool b)) (by simp; omega)) ?_
    refine W.condF (.t rfl) ?_
    refine W.exit ?_
    refine W.then_exit ?_
    refine W.then_exit ?_
    refine W.blk_hit ?_
    refine W.then ?_
    refine W.seq ?_
    refine W.region ?_
    refine W.q (Ev.assign .k) rfl ?_
    refine W.nil ?_
    refine W.then ?_
    refine W.ret ?_
    refine W.retn (M' := M0) (D := []) (rs := [.tmp 4]) (avs := [_]) Tryz.results74 ⟨rfl, trivial⟩ rfl (List.Perm.of_eq (List.append_nil _).symm) ?_
    exact ⟨congrArg AV.int (by rw [hq]), rfl⟩

theorem c_ContainsFuncX (l : List Ex) (g : Nat) (caps : List Value) (M0 : List ME) (p : Ex → Bool) (hg : ∀ d ∈ l, FnC Tryz.prog g ([Ex.avx d] ++ caps.map .lit) M0 (fun r M => r = .bool (p d) ∧ M = M0)) (hn : l.length ≤ 1099511627776) : FnC Tryz.prog 60 [.sl 3 (l.map Ex.av), .lit (.func (.func g) #[] caps.toArray)] M0 (fun r M => r = .bool (l.any p) ∧ M = M0) :=  by
  refine FnC.mk Tryz.func60 (by kernel_rfl) rfl Tryz.ntmps60 rfl (fun w0 F => ?_)
  refine W.seq ?_
  refine W.region ?_
  refine W.q (Ev.assign .k) rfl ?_
  refine W.nil ?_
  refine W.then ?_
  refine W.seq ?_
  refine W.region ?_
  refine W.q (Ev.move (.t rfl)) rfl ?_
  refine W.q (Ev.move (.t rfl)) rfl ?_
  refine W.call (c_IndexFuncX l g caps M0 p hg hn) ⟨(.t rfl), (.t rfl), trivial⟩ ((List.Perm.of_eq (List.append_nil _).symm)) rfl ?_
  rintro _ M' ⟨rfl, hM⟩
  rw [hM, List.append_nil]
  refine W.q (Ev.gei (.t rfl) .k) rfl ?_
  refine W.q (Ev.assign (.t rfl)) rfl ?_
  refine W.nil ?_
  refine W.then ?_
  refine W.ret ?_
  refine W.retn (M' := M0) (D := []) (rs := [.tmp 4]) (avs := [_]) Tryz.results60 ⟨rfl, trivial⟩ rfl (List.Perm.of_eq (List.append_nil _).symm) ?_
  exact ⟨congrArg AV.bool (idxI_any p l), rfl⟩

theorem c_fault1 (b : Nat) (x d : Ex) : FnC Tryz.prog 61 ([Ex.avx d] ++ [Value.pointer (some ⟨b, 0, none⟩)].map .lit) [.box b 43 x.avx.cells] (fun r M => r = .bool (d.kind == x.kind) ∧ M = [.box b 43 x.avx.cells]) :=  by
  refine FnC.mk Tryz.func61 (by kernel_rfl) rfl Tryz.ntmps61 rfl (fun w0 F => ?_)
  refine W.seq ?_
  refine W.region ?_
  refine W.box (.t rfl) rfl rfl ?_
  intro b2
  refine W.q (Ev.assign .k) rfl ?_
  refine W.nil ?_
  refine W.then ?_
  refine W.seq ?_
  refine W.region ?_
  (refine W.q (Ev.fab (.t rfl) fa43_0) rfl ?_)
  (refine W.q (Ev.ldb1 0 (.t rfl) rfl ag3 rfl) rfl ?_)
  (refine W.q (Ev.fab (.t rfl) fa43_0) rfl ?_)
  (refine W.q (Ev.ldb1 1 (.t rfl) rfl ag3 rfl) rfl ?_)
  refine W.q (Ev.eqi (.t rfl) (.t rfl)) rfl ?_
  refine W.q (Ev.assign (.t rfl)) rfl ?_
  refine W.nil ?_
  refine W.then ?_
  refine W.ret ?_
  refine W.retn (M' := [.box b 43 _]) (D := _) (rs := [.tmp 3]) (avs := [_]) Tryz.results61 ⟨rfl, trivial⟩ rfl (List.Perm.swap _ _ []) ?_
  exact ⟨rfl, rfl⟩

theorem c_fault_step (x : Ex) (h1 : Ex.ok1 x) (hz : x.sz ≤ 16777216) (ih : ∀ d ∈ x.parts, FnP Tryz.prog 41 [Ex.avx d] (.int 0)) : FnP Tryz.prog 41 [Ex.avx x] (.int 0) :=  by
  refine FnC.mk Tryz.func41 (by kernel_rfl) rfl Tryz.ntmps41 rfl (fun w0 F => ?_)
  have hpl : (x.parts.map Ex.av).length = x.parts.length := List.length_map ..
  have hse := Ex.sz_eq x
  have hsl := Ex.szs_len x.parts
  obtain ⟨k0, k1, k2, k3, k4, k5, k6, k7⟩ := Ex.ok1_facts h1
  refine W.seq ?_
  refine W.region ?_
  refine W.box (.t rfl) rfl rfl ?_
  intro b1
  refine W.q (Ev.assign .k) rfl ?_
  refine W.nil ?_
  refine W.then ?_
  refine W.seq ?_
  refine W.region ?_
  (refine W.q (Ev.fab (.t rfl) fa43_2) rfl ?_)
  (refine W.q (Ev.ldb1 0 (.t rfl) rfl ag41 rfl) rfl ?_)
  (refine W.q (Ev.lensl (.t rfl) Tryz.underlying41) rfl ?_)
  refine W.q (Ev.assign (.t rfl)) rfl ?_
  refine W.nil ?_
  refine W.then ?_
  refine W.seq ?_
  refine W.region ?_
  (refine W.q (Ev.fab (.t rfl) fa43_0) rfl ?_)
  (refine W.q (Ev.ldb1 0 (.t rfl) rfl ag3 rfl) rfl ?_)
  refine W.q (Ev.eqi (.t rfl) .k) rfl ?_
  refine W.q (Ev.move (.t rfl)) rfl ?_
  (refine W.qgF rfl rfl (Ev.fab (.t rfl) fa43_0) rfl ?_)
  (refine W.qgF rfl rfl (Ev.ldb1 0 (.c rfl) rfl ag3 rfl) rfl ?_)
  refine W.qgF rfl rfl (Ev.eqi (.c rfl) .k) rfl ?_
  refine W.q (Ev.or (.t rfl) ⟨_, _, rfl, rfl, by ((simp; done))⟩) rfl ?_
  refine W.q (Ev.assign (.t rfl)) rfl ?_
  refine W.nil ?_
  refine W.then ?_
  refine W.seq ?_
  refine W.block ?_
  refine W.seq ?_
  refine W.region ?_
  (refine W.q (Ev.fab (.t rfl) fa43_0) rfl ?_)
  (refine W.q (Ev.ldb1 0 (.t rfl) rfl ag3 rfl) rfl ?_)
  refine W.q (Ev.lti (.t rfl) .k) rfl ?_
  refine W.q (Ev.move (.t rfl)) rfl ?_
  (refine W.qgF rfl rfl (Ev.fab (.t rfl) fa43_0) rfl ?_)
  (refine W.qgF rfl rfl (Ev.ldb1 0 (.c rfl) rfl ag3 rfl) rfl ?_)
  refine W.qgF rfl rfl (Ev.gti (.c rfl) .k) rfl ?_
  refine W.q (Ev.or (.t rfl) ⟨_, _, rfl, rfl, by ((simp; done))⟩) rfl ?_
  refine W.q (Ev.assign (.t rfl)) rfl ?_
  refine W.nil ?_
  refine W.then ?_
  refine W.is (t := 19) (g := true) (av' := .lit (.bool false)) rfl (congrArg (fun b => AV.lit (.bool b)) (by exact Bool.eq_false_iff.2 (fun h => by simp at h; omega))) ?_
  refine W.condF (.t rfl) ?_
  refine W.seq ?_
  refine W.seq ?_
  refine W.region ?_
  (refine W.q (Ev.fab (.t rfl) fa43_0) rfl ?_)
  (refine W.q (Ev.ldb1 0 (.t rfl) rfl ag3 rfl) rfl ?_)
  refine W.q (Ev.eqi (.t rfl) .k) rfl ?_
  refine W.q (Ev.move (.t rfl)) rfl ?_
  refine W.qgT rfl rfl (Ev.move (.t rfl)) rfl ?_
  refine W.qgT rfl rfl (Ev.gti (.c rfl) .k) rfl ?_
  refine W.q (Ev.and (.t rfl) ⟨_, _, rfl, rfl, by ((simp; done))⟩) rfl ?_
  refine W.q (Ev.assign (.t rfl)) rfl ?_
  refine W.nil ?_
  refine W.then ?_
  refine W.is (t := 28) (g := true) (av' := .lit (.bool false)) rfl (congrArg (fun b => AV.lit (.bool b)) (by exact Bool.eq_false_iff.2 (fun h => by simp only [Bool.and_eq_true, Bool.or_eq_true, beq_iff_eq, bne_iff_ne, decide_eq_true_eq, ne_eq] at h; omega))) ?_
  refine W.condF (.t rfl) ?_
  refine W.seq ?_
  refine W.region ?_
  (refine W.q (Ev.fab (.t rfl) fa43_0) rfl ?_)
  (refine W.q (Ev.ldb1 0 (.t rfl) rfl ag3 rfl) rfl ?_)
  refine W.q (Ev.nei (.t rfl) .k) rfl ?_
  refine W.q (Ev.move (.t rfl)) rfl ?_
  (refine W.qgT rfl rfl (Ev.fab (.t rfl) fa43_1) rfl ?_)
  (refine W.qgT rfl rfl (Ev.ldb1 0 (.c rfl) rfl ag3 rfl) rfl ?_)
  refine W.qgT rfl rfl (Ev.nei (.c rfl) .k) rfl ?_
  refine W.q (Ev.and (.t rfl) ⟨_, _, rfl, rfl, by ((simp; done))⟩) rfl ?_
  refine W.q (Ev.assign (.t rfl)) rfl ?_
  refine W.nil ?_
  refine W.then ?_
  refine W.is (t := 28) (g := true) (av' := .lit (.bool false)) rfl (congrArg (fun b => AV.lit (.bool b)) (by exact Bool.eq_false_iff.2 (fun h => by simp only [Bool.and_eq_true, Bool.or_eq_true, beq_iff_eq, bne_iff_ne, decide_eq_true_eq, ne_eq] at h; omega))) ?_
  refine W.condF (.t rfl) ?_
  refine W.seq ?_
  refine W.region ?_
  refine W.q (Ev.move (.t rfl)) rfl ?_
  refine W.q (Ev.move (.t rfl)) rfl ?_
  refine W.qgT rfl rfl (Ev.move (.t rfl)) rfl ?_
  refine W.qgT rfl rfl (Ev.eqi (.c rfl) .k) rfl ?_
  refine W.q (Ev.and (.t rfl) ⟨_, _, rfl, rfl, by ((simp; done))⟩) rfl ?_
  refine W.q (Ev.assign (.t rfl)) rfl ?_
  refine W.nil ?_
  refine W.then ?_
  refine W.is (t := 28) (g := true) (av' := .lit (.bool false)) rfl (congrArg (fun b => AV.lit (.bool b)) (by exact Bool.eq_false_iff.2 (fun h => by simp only [Bool.and_eq_true, Bool.or_eq_true, beq_iff_eq, bne_iff_ne, decide_eq_true_eq, ne_eq] at h; omega))) ?_
  refine W.condF (.t rfl) ?_
  refine W.seq ?_
  refine W.region ?_
  (refine W.q (Ev.fab (.t rfl) fa43_0) rfl ?_)
  (refine W.q (Ev.ldb1 0 (.t rfl) rfl ag3 rfl) rfl ?_)
  refine W.q (Ev.eqi (.t rfl) .k) rfl ?_
  refine W.q (Ev.move (.t rfl)) rfl ?_
  refine W.qgT rfl rfl (Ev.move (.t rfl)) rfl ?_
  refine W.qgT rfl rfl (Ev.eqi (.c rfl) .k) rfl ?_
  refine W.q (Ev.and (.t rfl) ⟨_, _, rfl, rfl, by ((simp; done))⟩) rfl ?_
  refine W.q (Ev.assign (.t rfl)) rfl ?_
  refine W.nil ?_
  refine W.then ?_
  refine W.is (t := 28) (g := true) (av' := .lit (.bool false)) rfl (congrArg (fun b => AV.lit (.bool b)) (by exact Bool.eq_false_iff.2 (fun h => by simp only [Bool.and_eq_true, Bool.or_eq_true, beq_iff_eq, bne_iff_ne, decide_eq_true_eq, ne_eq] at h; omega))) ?_
  refine W.condF (.t rfl) ?_
  refine W.region ?_
  (refine W.q (Ev.fab (.t rfl) fa43_0) rfl ?_)
  (refine W.q (Ev.ldb1 0 (.t rfl) rfl ag3 rfl) rfl ?_)
  refine W.q (Ev.gei (.t rfl) .k) rfl ?_
  refine W.q (Ev.move (.t rfl)) rfl ?_
  refine W.qgT rfl rfl (Ev.move (.t rfl)) rfl ?_
  refine W.qgT rfl rfl (Ev.nei (.c rfl) .k) rfl ?_
  refine W.q (Ev.and (.t rfl) ⟨_, _, rfl, rfl, by ((simp; done))⟩) rfl ?_
  refine W.q (Ev.assign (.t rfl)) rfl ?_
  refine W.nil ?_
  refine W.then ?_
  refine W.is (t := 28) (g := true) (av' := .lit (.bool false)) rfl (congrArg (fun b => AV.lit (.bool b)) (by exact Bool.eq_false_iff.2 (fun h => by simp only [Bool.and_eq_true, Bool.or_eq_true, beq_iff_eq, bne_iff_ne, decide_eq_true_eq, ne_eq] at h; omega))) ?_
  refine W.condF (.t rfl) ?_
  refine W.seq ?_
  refine W.region ?_
  refine W.q (Ev.move (.t rfl)) rfl ?_
  refine W.q (Ev.move (.t rfl)) rfl ?_
  (refine W.qgT rfl rfl (Ev.fab (.t rfl) fa43_2) rfl ?_)
  (refine W.qgT rfl rfl (Ev.ldb1 0 (.c rfl) rfl ag41 rfl) rfl ?_)
  refine W.qgT rfl rfl (Ev.mkfn (caps := [.tmp 1]) (vs := [_]) ⟨(.t rfl), trivial⟩) rfl ?_
  refine W.callgT (Min := _) (caps := []) (avs := [_, _]) rfl rfl (fun hg => c_ContainsFuncX x.parts 61 [.pointer (some ⟨b1, 0, none⟩)] [.box b1 43 x.avx.cells] (fun d => d.kind == x.kind) (fun d _ => c_fault1 b1 x d) (by omega)) (fun hg => .f) (fun hg => ⟨(.i rfl (fun _ => hg)), (.i rfl (fun _ => hg)), trivial⟩) rfl (.refl _) rfl ?_
  refine W.q (Ev.and (.t rfl) ⟨_, _, rfl, rfl, by ((simp; done))⟩) rfl ?_
  refine W.q (Ev.assign (.t rfl)) rfl ?_
  refine W.nil ?_
  refine W.then ?_
  refine W.is (t := 63) (g := true) (av' := .lit (.bool false)) rfl (congrArg (fun b => AV.lit (.bool b)) (by exact Bool.eq_false_iff.2 (fun h => by have h1 := (Bool.and_eq_true _ _).mp h; rw [k7 h1.1] at h1; exact absurd h1.2 (by decide)))) ?_
  refine W.condF (.t rfl) ?_
  refine W.seq ?_
  refine W.region ?_
  (refine W.q (Ev.fab (.t rfl) fa43_1) rfl ?_)
  (refine W.q (Ev.ldb1 0 (.t rfl) rfl ag3 rfl) rfl ?_)
  refine W.q (Ev.lti (.t rfl) .k) rfl ?_
  refine W.q (Ev.move (.t rfl)) rfl ?_
  (refine W.qgF rfl rfl (Ev.fab (.t rfl) fa43_1) rfl ?_)
  (refine W.qgF rfl rfl (Ev.ldb1 0 (.c rfl) rfl ag3 rfl) rfl ?_)
  refine W.qgF rfl rfl (Ev.gei (.c rfl) .k) rfl ?_
  refine W.q (Ev.or (.t rfl) ⟨_, _, rfl, rfl, by ((simp; done))⟩) rfl ?_
  refine W.q (Ev.assign (.t rfl)) rfl ?_
  refine W.nil ?_
  refine W.then ?_
  refine W.is (t := 71) (g := true) (av' := .lit (.bool false)) rfl (congrArg (fun b => AV.lit (.bool b)) (by exact Bool.eq_false_iff.2 (fun h => by simp at h; omega))) ?_
  refine W.condF (.t rfl) ?_
  refine W.skip ?_
  refine W.blk_normal ?_
  refine W.then ?_
  refine W.seq ?_
  refine W.seq ?_
  refine W.region ?_
  (refine W.q (Ev.fab (.t rfl) fa43_2) rfl ?_)
  (refine W.q (Ev.ldb1 0 (.t rfl) rfl ag41 rfl) rfl ?_)
  (refine W.q (Ev.lensl (.t rfl) Tryz.underlying41) rfl ?_)
  refine W.q (Ev.move .k) rfl ?_
  refine W.nil ?_
  refine W.then ?_
  refine W.block ?_
  refine W.loop (D := []) (ι := Nat) (fun i => [(83, true, .int (i : Int)), (82, true, .int ((x.parts.map Ex.av).length : Int)), (81, true, .sl 3 (x.parts.map Ex.av)), (1, true, .lit (.pointer (some ⟨b1, 0, none⟩)))]) (fun i => [.box b1 43 x.avx.cells]) (fun i => i ≤ x.parts.length) (fun i => x.parts.length - i) 0 ⟨rfl, rfl, rfl, rfl, trivial⟩ (.refl _) (Nat.zero_le _) ?_
  intro i hi
  dsimp only at hi ⊢
  rcases (show i < x.parts.length ∨ i = x.parts.length from by omega) with hlt | hend
  · have hga := Ex.at_av x.parts i hlt
    have hdm := getD_memG Ex.dflt x.parts i hlt
    generalize hd : x.parts.getD i Ex.dflt = d at hga hdm
    refine W.seq ?_
    refine W.region ?_
    refine W.q (Ev.lti (.t rfl) (.t rfl)) rfl ?_
    refine W.nil ?_
    refine W.then ?_
    refine W.seq ?_
    refine W.is (t := 84) (g := true) (av' := .lit (.bool true)) rfl (congrArg (fun b => AV.lit (.bool b)) (by exact decide_eq_true (by omega))) ?_
    refine W.condT (.t rfl) ?_
    refine W.skip ?_
    refine W.then ?_
    refine W.seq ?_
    refine W.block ?_
    refine W.seq ?_
    refine W.region ?_
    refine W.q (Ev.at (E := 43) (.t rfl) (.t rfl) Tryz.underlying41 ty43 (fun _ => ⟨by omega, hga⟩) rfl rfl) rfl ?_
    (refine W.q (Ev.lden (.t rfl) ag43 ty43 rfl rfl) rfl ?_)
    refine W.alloc ty43 rfl rfl ?_
    intro b6
    (refine W.stb 0 (.t rfl) (.t rfl) rfl ty43 rfl rfl rfl ?_)
    refine W.nil ?_
    refine W.then ?_
    refine W.seq ?_
    refine W.region ?_
    (refine W.q (Ev.ldbn 0 (.t rfl) rfl ag43 ty43 rfl) rfl ?_)
    refine W.callp (ih d hdm) ⟨(.t rfl), trivial⟩ rfl ?_
    refine W.q (Ev.assign (.t rfl)) rfl ?_
    refine W.nil ?_
    refine W.then ?_
    refine W.seq ?_
    refine W.region ?_
    refine W.q (Ev.move (.t rfl)) rfl ?_
    refine W.q (Ev.nei (.t rfl) .k) rfl ?_
    refine W.nil ?_
    refine W.then ?_
    refine W.is (t := 90) (g := true) (av' := .lit (.bool false)) rfl (congrArg (fun b => AV.lit (.bool b)) (by rfl)) ?_
    refine W.condF (.t rfl) ?_
    refine W.skip ?_
    refine W.blk_normal ?_
    refine W.then ?_
    refine W.region ?_
    (refine W.q (Ev.add (.t rfl) .k (fun _ => by omega)) rfl ?_)
    refine W.q (Ev.move (.t rfl)) rfl ?_
    refine W.nil ?_
    refine W.then ?_
    refine W.reach (D := [_]) (i + 1) ⟨rfl, rfl, rfl, rfl, trivial⟩ (List.Perm.swap _ _ []) ⟨by show i + 1 ≤ _; omega, by show _ - (i + 1) < _; omega⟩
  · skip
    refine W.seq ?_
    refine W.region ?_
    refine W.q (Ev.lti (.t rfl) (.t rfl)) rfl ?_
    refine W.nil ?_
    refine W.then ?_
    refine W.seq ?_
    refine W.is (t := 84) (g := true) (av' := .lit (.bool false)) rfl (congrArg (fun b => AV.lit (.bool b)) (by exact decide_eq_false (by omega))) ?_
    refine W.condF (.t rfl) ?_
    refine W.exit ?_
    refine W.then_exit ?_
    refine W.then_exit ?_
    refine W.blk_hit ?_
    refine W.then ?_
    refine W.seq ?_
    refine W.region ?_
    refine W.q (Ev.assign .k) rfl ?_
    refine W.nil ?_
    refine W.then ?_
    refine W.ret ?_
    refine W.retn (M' := []) (D := _) (rs := [.tmp 2]) (avs := [_]) Tryz.results41 ⟨rfl, trivial⟩ rfl (.refl _) ?_
    exact ⟨rfl, rfl⟩

theorem c_fault : ∀ x : Ex, Ex.ok x → x.sz ≤ 16777216 → FnP Tryz.prog 41 [Ex.avx x] (.int 0) := by
  refine Ex.rec' fun x ih hx hz => ?_
  obtain ⟨h1, h2⟩ := (Ex.ok_iff x).1 hx
  exact c_fault_step x h1 hz fun d hd => ih d hd (h2 d hd) (by have := Ex.part_sz hd; omega)

end WFault

end Go.Proofs.YtacaemfkdieocaaGreatDoor
end

section
set_option linter.unusedVariables false
set_option linter.unusedSimpArgs false
namespace Go.Vl
open Go.RowKit (Below)
theorem Fr.of_below {w w' : World} (h : Below w.heap.size w w') : Fr w [] w' [] :=
  ⟨h.os, h.tape, h.output, h.size, fun k hk _ => ⟨h.block k hk, by simp⟩⟩
theorem FnP.of_below {P : Program} {f : FuncId} {args : List AV} {r : AV} (hc : CallOk P f)
    (h : ∀ (w : World) (F : List Nat) (vs : List Value), RepT w F args vs → Calls P f vs.toArray w fun e w' => ∃ v, e = .returned v ∧ Rep w' F r v ∧ Below w.heap.size w w') : FnP P f args r :=
  ⟨hc, fun w F vs hF hm ha => (h w F vs (by simpa [bl] using ha)).mono fun e w' ⟨v, he, hr, hb⟩ => ⟨v, r, [], he, ⟨rfl, rfl⟩, MOk.nil w' F, by simpa [bl] using hr, by simpa [bl] using Fr.of_below hb⟩⟩
theorem CallOk.of {P : Program} {f : FuncId} {fn : Func} (h1 : P.funcs[f]? = some fn) (h2 : (fn.name == "runtime.NumGoroutine") = false) (h3 : fn.body.isNone = false) : CallOk P f := ⟨fn, h1, h2, h3⟩
theorem RepE.strs {w : World} {N : List Nat} {l : List (List UInt8)} {row : List Value} (h : RepE w N 1 (l.map AV.str) row) (j : Nat) (x : List UInt8) (hj : l[j]? = some x) : row[j]? = some (.string ⟨x.toArray⟩) := by
  obtain ⟨h1, h2⟩ := RepE.get (i := j) (e := AV.str x) h (by rw [List.getElem?_map, hj]; rfl)
  simp only [RepC, Nat.mul_one] at h2
  have h3 : (List.take 1 (List.drop j row)) = [Value.string ⟨x.toArray⟩] := h2
  have : (List.take 1 (List.drop j row))[0]? = row[j]? := by simp [List.getElem?_take, List.getElem?_drop]
  rw [← this, h3]; rfl
theorem joinP {P : Program} {f : FuncId} (hc : CallOk P f)
    (h0 : ∀ (a : Option Addr) (c : Nat) (sep : ByteArray) (w : World), Calls P f #[.slice a 0 c, .string sep] w fun e w' => e = .returned (.string ⟨#[]⟩) ∧ w' = w)
    (h1 : ∀ (bk o c : Nat) (xs : List ByteArray) (sep : ByteArray) (w : World), (∀ (j : Nat) x, xs[j]? = some x → w.cell? ⟨bk, o + j, none⟩ = some (.string x)) → bk < w.heap.size → xs.length ≤ 140737488355328 → xs.length ≤ c →
      (Lib.join (xs.map (·.data.toList)) sep.data.toList).length ≤ 140737488355328 → Calls P f #[.slice (some ⟨bk, o, none⟩) xs.length c, .string sep] w fun e w' => e = .returned (.string ⟨(Lib.join (xs.map (·.data.toList)) sep.data.toList).toArray⟩) ∧ Below w.heap.size w w')
    (l : List (List UInt8)) (sep : List UInt8) (hl : l.length ≤ 140737488355328) (hj : (Lib.join l sep).length ≤ 140737488355328) : FnP P f [.sl 1 (l.map AV.str), .str sep] (.str (Lib.join l sep)) := by
  refine FnP.of_below hc fun w F vs ha => ?_
  simp only [RepT] at ha
  obtain ⟨v0, _, rfl, ⟨hs0, h2⟩, v1, _, rfl, ⟨hs1, h3⟩, rfl⟩ := ha
  have e1 : v1 = .string ⟨sep.toArray⟩ := Rep.lit_iff.1 (show Rep w F (.str sep) v1 from ⟨hs1, h3⟩)
  subst e1
  obtain ⟨a, cap, rfl, h4, h5, h6⟩ := Rep.sl_inv (show Rep w F (.sl 1 (l.map AV.str)) v0 from ⟨hs0, h2⟩)
  rw [List.length_map] at h4
  rcases h6 with h6 | ⟨b, off, cur, T, fr, rfl, hb, hcur, he⟩
  · obtain rfl : l = [] := by simpa using h6
    refine (h0 a cap ⟨sep.toArray⟩ w).mono fun e w' ⟨e1, e2⟩ => ?_
    subst e2
    exact ⟨_, e1, Rep.lit _, Below.refl _ _⟩
  · have hx : (l.map fun x => (⟨x.toArray⟩ : ByteArray)).map (·.data.toList) = l := by rw [List.map_map]; exact List.map_id' _
    have key := h1 b off cap (l.map fun x => (⟨x.toArray⟩ : ByteArray)) ⟨sep.toArray⟩ w (fun j x hjx => by
      rw [List.getElem?_map] at hjx
      obtain ⟨y, hy, rfl⟩ := Option.map_eq_some_iff.1 hjx
      have := RepE.strs he j y hy
      rw [cell_of hcur]
      rw [List.getElem?_drop, Array.getElem?_toList] at this
      exact this) (heap_lt hcur) (by rw [List.length_map]; exact hl) (by rw [List.length_map]; exact h4) (by rw [hx]; exact hj)
    rw [hx, List.length_map] at key
    rw [List.length_map]
    exact key.mono fun e w' ⟨e1, e2⟩ => ⟨_, e1, Rep.lit _, e2⟩
end Go.Vl
end
