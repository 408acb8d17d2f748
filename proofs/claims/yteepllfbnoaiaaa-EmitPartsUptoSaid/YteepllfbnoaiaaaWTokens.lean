/-
  Tokens that are drawn.
-/
import Derived.Test.YteepllfbnoaiaaaEmit
import Derived.Test.YteepllfbnoaiaaaBase
set_option linter.unusedVariables false
set_option linter.unusedSimpArgs false
set_option maxRecDepth 100000
namespace Go.Proofs.Yteepllfbnoaiaaa
open Go.Vl

namespace WTokens
theorem ty3 : Ty Try.prog 3 1 8 (.int .i64 0) := Ty.of (by kernel_rfl)
theorem ty4 : Ty Try.prog 4 1 1 (.bool false) := Ty.of (by kernel_rfl)
theorem ty9 : Ty Try.prog 9 1 16 (.string ⟨#[]⟩) := Ty.of (by kernel_rfl)
theorem ty33 : Ty Try.prog 33 1 24 (.slice none 0 0) := Ty.of (by kernel_rfl)
theorem ty72 : Ty Try.prog 72 5 72 (.agg #[.int .i64 0, .string ⟨#[]⟩, .slice none 0 0, .bool false, .string ⟨#[]⟩]) := Ty.of (by kernel_rfl)
theorem ty78 : Ty Try.prog 78 2 32 (.agg #[.string ⟨#[]⟩, .string ⟨#[]⟩]) := Ty.of (by kernel_rfl)
theorem ag3 : IsAgg Try.prog 3 false := ⟨_, Try.underlying3, rfl⟩
theorem ag4 : IsAgg Try.prog 4 false := ⟨_, Try.underlying4, rfl⟩
theorem ag9 : IsAgg Try.prog 9 false := ⟨_, Try.underlying9, rfl⟩
theorem ag33 : IsAgg Try.prog 33 false := ⟨_, Try.underlying33, rfl⟩
theorem ag72 : IsAgg Try.prog 72 true := ⟨_, Try.underlying72, rfl⟩
theorem fa72_0 : FieldAt Try.prog 72 0 0 1 false := ⟨_, _, Try.underlying72, rfl, rfl, ty3.size, ag3, by decide⟩
theorem fa72_2 : FieldAt Try.prog 72 2 2 1 false := ⟨_, _, Try.underlying72, rfl, rfl, ty33.size, ag33, by decide⟩
theorem fa72_3 : FieldAt Try.prog 72 3 3 1 false := ⟨_, _, Try.underlying72, rfl, rfl, ty4.size, ag4, by decide⟩
theorem st72 : StructAt Try.prog 72 [(0, 1), (1, 1), (2, 1), (3, 1), (4, 1)] := ⟨_, Try.underlying72, rfl, ty3.size, rfl, ty9.size, rfl, ty33.size, rfl, ty4.size, rfl, ty9.size, trivial⟩
theorem st78 : StructAt Try.prog 78 [(0, 1), (1, 1)] := ⟨_, Try.underlying78, rfl, ty9.size, rfl, ty9.size, trivial⟩
theorem ni33 : NotInt Try.prog 33 := .inl ⟨_, Try.underlying33⟩
theorem ni67 : NotInt Try.prog 67 := .inl ⟨_, Try.underlying67⟩
theorem c_Tokens (l : List Int) (hl : l.length ≤ 1099511627776) (n : Nat) (hn : n ≤ 1000) : FnC Try.prog 34 [.sl 1 (l.map AV.int), .int (n : Int)] [] (fun r M => ∃ (v : Value) (ts : List Tk), r = .lit v ∧ M = [.arr v 72 5 (ts.map tav)] ∧ Tk.drawns false ts ∧ ts.length ≤ n) :=  by
  refine FnC.mk Try.func34 (by kernel_rfl) rfl Try.ntmps34 rfl (fun w0 F => ?_)
  have hll : (l.map AV.int).length = l.length := List.length_map ..
  refine W.seq ?_
  refine W.region ?_
  refine W.q (Ev.assign .k) rfl ?_
  refine W.nil ?_
  refine W.then ?_
  refine W.seq ?_
  refine W.region ?_
  refine W.q (Ev.assign .k) rfl ?_
  refine W.nil ?_
  refine W.then ?_
  refine W.seq ?_
  refine W.seq ?_
  refine W.region ?_
  refine W.q (Ev.assign .k) rfl ?_
  refine W.nil ?_
  refine W.then ?_
  refine W.block ?_
  refine W.own_nil 72 5 ?_
  refine W.loop (D := []) (ι := Nat × List Tk × Value) (fun z => [(6, true, .int (z.1 : Int)), (0, true, .sl 1 (l.map AV.int)), (1, true, .int (n : Int)), (5, true, .lit z.2.2)]) (fun z => [.arr z.2.2 72 5 (z.2.1.map tav)]) (fun z => z.1 ≤ l.length ∧ Tk.drawns false z.2.1 ∧ z.2.1.length ≤ n) (fun z => l.length - z.1) (0, [], .slice none 0 0) ⟨rfl, rfl, rfl, rfl, trivial⟩ (.refl _) ⟨Nat.zero_le _, trivial, Nat.zero_le _⟩ ?_
  rintro ⟨i, ts, v⟩ ⟨hi1, hi2, hi3⟩
  dsimp only at hi1 hi2 hi3 ⊢
  have htl : (ts.map tav).length = ts.length := List.length_map ..
  rcases (show (i < l.length ∧ ts.length < n) ∨ ¬ (i < l.length ∧ ts.length < n) from by omega) with hlt | hge
  · have hgx : (l.map AV.int)[i]? = some (AV.int (l.getD i 0)) := getD_map l i hlt.1
    generalize hz : l.getD i 0 = x at hgx
    refine W.seq ?_
    refine W.seq ?_
    refine W.region ?_
    refine W.q (Ev.move (.t rfl)) rfl ?_
    refine W.q (Ev.move (.t rfl)) rfl ?_
    first | refine W.q (Ev.lensl (.t rfl) Try.underlying22) rfl ?_ | refine W.q (Ev.lenar (i := 0) (.t rfl) rfl Try.underlying22) rfl ?_ | refine W.q (Ev.lenar (i := 1) (.t rfl) rfl Try.underlying22) rfl ?_ | refine W.q (Ev.lenar (i := 2) (.t rfl) rfl Try.underlying22) rfl ?_ | refine W.q (Ev.lenar (i := 3) (.t rfl) rfl Try.underlying22) rfl ?_
    refine W.q (Ev.lti (.t rfl) (.t rfl)) rfl ?_
    refine W.q (Ev.move (.t rfl)) rfl ?_
    refine W.qgT rfl rfl (Ev.move (.t rfl)) rfl ?_
    first | refine W.qgT rfl rfl (Ev.lensl (.c rfl) Try.underlying67) rfl ?_ | refine W.qgT rfl rfl (Ev.lenar (i := 0) (.c rfl) rfl Try.underlying67) rfl ?_ | refine W.qgT rfl rfl (Ev.lenar (i := 1) (.c rfl) rfl Try.underlying67) rfl ?_ | refine W.qgT rfl rfl (Ev.lenar (i := 2) (.c rfl) rfl Try.underlying67) rfl ?_ | refine W.qgT rfl rfl (Ev.lenar (i := 3) (.c rfl) rfl Try.underlying67) rfl ?_
    refine W.qgT rfl rfl (Ev.move (.t rfl)) rfl ?_
    refine W.qgT rfl rfl (Ev.lti (.c rfl) (.c rfl)) rfl ?_
    refine W.q (Ev.and (.t rfl) ⟨_, _, rfl, rfl, by first | (simp; done) | (intro hg_ hp_; simp [hp_]; done) | (simp <;> omega; done) | (simp_all; done) | grind⟩) rfl ?_
    refine W.nil ?_
    refine W.then ?_
    refine W.is (t := 20) (g := true) (av' := .lit (.bool true)) rfl (congrArg (fun b => AV.lit (.bool b)) (by simp; omega)) ?_
    refine W.condT (.t rfl) ?_
    refine W.skip ?_
    refine W.then ?_
    refine W.seq ?_
    refine W.block ?_
    refine W.seq ?_
    refine W.region ?_
    refine W.q (Ev.move (.t rfl)) rfl ?_
    refine W.q (Ev.move (.t rfl)) rfl ?_
    refine W.q (Ev.at (E := 3) (.t rfl) (.t rfl) Try.underlying22 ty3 (fun _ => ⟨by omega, hgx⟩) rfl rfl) rfl ?_
    first | refine W.q (Ev.lde1 (.t rfl) ag3) rfl ?_ | refine W.q (Ev.ldb1 0 (.t rfl) rfl ag3 rfl) rfl ?_ | refine W.q (Ev.ldb1 1 (.t rfl) rfl ag3 rfl) rfl ?_ | refine W.q (Ev.ldb1 2 (.t rfl) rfl ag3 rfl) rfl ?_ | refine W.q (Ev.ldb1 3 (.t rfl) rfl ag3 rfl) rfl ?_
    refine W.q (Ev.assign (.t rfl)) rfl ?_
    refine W.nil ?_
    refine W.then ?_
    refine W.seq ?_
    refine W.region ?_
    obtain ⟨nm, mnm, h31⟩ := pick_mod Tk.nm5 (IntKind.i64.wrap (x.tdiv 4)) 5 rfl (by decide)
    refine W.bs (es := [_, _, _, _, _]) Try.underlying40 ty9 ⟨rfl, .k, rfl, rfl, rfl, .k, rfl, rfl, rfl, .k, rfl, rfl, rfl, .k, rfl, rfl, rfl, .k, rfl, rfl, trivial⟩ rfl (by decide) rfl rfl ?_
    refine W.q (Ev.move (.t rfl)) rfl ?_
    first | refine W.q (Ev.quo (.t rfl) .k (fun _ => by decide)) rfl ?_ | refine W.q (Ev.quo (.t rfl) .k (fun _ => by omega)) rfl ?_
    refine W.callp (Base.c_Picked (IntKind.i64.wrap (x.tdiv 4)) 5 (by decide) (by decide)) ⟨(.t rfl), .k, trivial⟩ rfl ?_
    refine W.q (Ev.at (E := 9) (.t rfl) (.t rfl) Try.underlying40 ty9 (fun _ => ⟨Int.emod_nonneg _ (by decide), h31⟩) rfl rfl) rfl ?_
    first | refine W.q (Ev.lde1 (.t rfl) ag9) rfl ?_ | refine W.q (Ev.ldb1 0 (.t rfl) rfl ag9 rfl) rfl ?_ | refine W.q (Ev.ldb1 1 (.t rfl) rfl ag9 rfl) rfl ?_ | refine W.q (Ev.ldb1 2 (.t rfl) rfl ag9 rfl) rfl ?_ | refine W.q (Ev.ldb1 3 (.t rfl) rfl ag9 rfl) rfl ?_
    refine W.q (Ev.build ty72 st72 rfl (fun hg => ⟨_, _, _, rfl, .k, rfl, rfl, rfl, _, _, _, rfl, (.t rfl), rfl, rfl, rfl, rfl⟩)) rfl ?_
    refine W.alloc ty72 rfl rfl ?_
    intro b8
    first | refine W.stb 0 (.t rfl) (.t rfl) rfl ty72 rfl rfl rfl ?_ | refine W.stb 1 (.t rfl) (.t rfl) rfl ty72 rfl rfl rfl ?_ | refine W.stb 2 (.t rfl) (.t rfl) rfl ty72 rfl rfl rfl ?_ | refine W.stb 3 (.t rfl) (.t rfl) rfl ty72 rfl rfl rfl ?_
    refine W.nil ?_
    refine W.then ?_
    refine W.seq ?_
    refine W.seq ?_
    refine W.region ?_
    refine W.q (Ev.move (.t rfl)) rfl ?_
    refine W.callp (Base.c_Picked x 4 (by decide) (by decide)) ⟨(.t rfl), .k, trivial⟩ rfl ?_
    refine W.nil ?_
    refine W.then ?_
    refine W.block ?_
    refine W.seq ?_
    refine W.region ?_
    refine W.q (Ev.eqi (.t rfl) .k) rfl ?_
    refine W.q (Ev.assign (.t rfl)) rfl ?_
    refine W.nil ?_
    refine W.then ?_
    refine W.cond (.t rfl) (fun hc_t36 => ?_) (fun hc_t36 => ?_)
    · refine W.region ?_
      first | refine W.q (Ev.fae (.t rfl) fa72_0 rfl) rfl ?_ | refine W.q (Ev.fab (.t rfl) fa72_0) rfl ?_ | refine W.q (Ev.faa (.t rfl) fa72_0) rfl ?_
      first | refine W.stb 0 (.t rfl) .k rfl ty3 rfl rfl rfl ?_ | refine W.stb 1 (.t rfl) .k rfl ty3 rfl rfl rfl ?_ | refine W.stb 2 (.t rfl) .k rfl ty3 rfl rfl rfl ?_ | refine W.stb 3 (.t rfl) .k rfl ty3 rfl rfl rfl ?_
      refine W.nil ?_
      refine W.blk_normal ?_
      refine W.then ?_
      refine W.region ?_
      refine W.q (Ev.move (.t rfl)) rfl ?_
      first | refine W.q (Ev.lden (.t rfl) ag72 ty72 rfl rfl) rfl ?_ | refine W.q (Ev.ldbn 0 (.t rfl) rfl ag72 ty72 rfl) rfl ?_ | refine W.q (Ev.ldbn 1 (.t rfl) rfl ag72 ty72 rfl) rfl ?_ | refine W.q (Ev.ldbn 2 (.t rfl) rfl ag72 ty72 rfl) rfl ?_ | refine W.q (Ev.ldbn 3 (.t rfl) rfl ag72 ty72 rfl) rfl ?_
      first | refine W.nils (t := 94) (g := true) (cs' := [_, _, .sl 2 [], _, _]) rfl ⟨.inl rfl, .inl rfl, .inr ⟨rfl, 2, rfl⟩, .inl rfl, .inl rfl, trivial⟩ ?_ | skip
      refine W.bs (es := [_]) Try.underlying67 ty72 ⟨rfl, (.t rfl), rfl, rfl, trivial⟩ rfl (by decide) rfl rfl ?_
      first | refine W.app 0 (.t rfl) rfl (.sl (.t rfl) (by first | (simp [AV.okc, shV]; done) | (intro e he; rw [List.mem_singleton.1 he]; rfl))) Try.underlying67 ni67 ty72 rfl rfl (by simp only [List.length_map, List.length_cons, List.length_nil]; omega) rfl ?_ | refine W.app 1 (.t rfl) rfl (.sl (.t rfl) (by first | (simp [AV.okc, shV]; done) | (intro e he; rw [List.mem_singleton.1 he]; rfl))) Try.underlying67 ni67 ty72 rfl rfl (by simp only [List.length_map, List.length_cons, List.length_nil]; omega) rfl ?_ | refine W.app 2 (.t rfl) rfl (.sl (.t rfl) (by first | (simp [AV.okc, shV]; done) | (intro e he; rw [List.mem_singleton.1 he]; rfl))) Try.underlying67 ni67 ty72 rfl rfl (by simp only [List.length_map, List.length_cons, List.length_nil]; omega) rfl ?_ | refine W.app 3 (.t rfl) rfl (.sl (.t rfl) (by first | (simp [AV.okc, shV]; done) | (intro e he; rw [List.mem_singleton.1 he]; rfl))) Try.underlying67 ni67 ty72 rfl rfl (by simp only [List.length_map, List.length_cons, List.length_nil]; omega) rfl ?_ | refine W.app 0 (.t rfl) rfl (.arr 0 (.t rfl) rfl (by first | (simp [AV.okc, shV]; done) | (intro e he; rw [List.mem_singleton.1 he]; rfl))) Try.underlying67 ni67 ty72 rfl rfl (by simp only [List.length_map, List.length_cons, List.length_nil]; omega) rfl ?_ | refine W.app 0 (.t rfl) rfl (.arr 1 (.t rfl) rfl (by first | (simp [AV.okc, shV]; done) | (intro e he; rw [List.mem_singleton.1 he]; rfl))) Try.underlying67 ni67 ty72 rfl rfl (by simp only [List.length_map, List.length_cons, List.length_nil]; omega) rfl ?_ | refine W.app 0 (.t rfl) rfl (.arr 2 (.t rfl) rfl (by first | (simp [AV.okc, shV]; done) | (intro e he; rw [List.mem_singleton.1 he]; rfl))) Try.underlying67 ni67 ty72 rfl rfl (by simp only [List.length_map, List.length_cons, List.length_nil]; omega) rfl ?_ | refine W.app 0 (.t rfl) rfl (.arr 3 (.t rfl) rfl (by first | (simp [AV.okc, shV]; done) | (intro e he; rw [List.mem_singleton.1 he]; rfl))) Try.underlying67 ni67 ty72 rfl rfl (by simp only [List.length_map, List.length_cons, List.length_nil]; omega) rfl ?_ | refine W.app 1 (.t rfl) rfl (.arr 0 (.t rfl) rfl (by first | (simp [AV.okc, shV]; done) | (intro e he; rw [List.mem_singleton.1 he]; rfl))) Try.underlying67 ni67 ty72 rfl rfl (by simp only [List.length_map, List.length_cons, List.length_nil]; omega) rfl ?_ | refine W.app 1 (.t rfl) rfl (.arr 1 (.t rfl) rfl (by first | (simp [AV.okc, shV]; done) | (intro e he; rw [List.mem_singleton.1 he]; rfl))) Try.underlying67 ni67 ty72 rfl rfl (by simp only [List.length_map, List.length_cons, List.length_nil]; omega) rfl ?_ | refine W.app 1 (.t rfl) rfl (.arr 2 (.t rfl) rfl (by first | (simp [AV.okc, shV]; done) | (intro e he; rw [List.mem_singleton.1 he]; rfl))) Try.underlying67 ni67 ty72 rfl rfl (by simp only [List.length_map, List.length_cons, List.length_nil]; omega) rfl ?_ | refine W.app 1 (.t rfl) rfl (.arr 3 (.t rfl) rfl (by first | (simp [AV.okc, shV]; done) | (intro e he; rw [List.mem_singleton.1 he]; rfl))) Try.underlying67 ni67 ty72 rfl rfl (by simp only [List.length_map, List.length_cons, List.length_nil]; omega) rfl ?_ | refine W.app 2 (.t rfl) rfl (.arr 0 (.t rfl) rfl (by first | (simp [AV.okc, shV]; done) | (intro e he; rw [List.mem_singleton.1 he]; rfl))) Try.underlying67 ni67 ty72 rfl rfl (by simp only [List.length_map, List.length_cons, List.length_nil]; omega) rfl ?_ | refine W.app 2 (.t rfl) rfl (.arr 1 (.t rfl) rfl (by first | (simp [AV.okc, shV]; done) | (intro e he; rw [List.mem_singleton.1 he]; rfl))) Try.underlying67 ni67 ty72 rfl rfl (by simp only [List.length_map, List.length_cons, List.length_nil]; omega) rfl ?_ | refine W.app 2 (.t rfl) rfl (.arr 2 (.t rfl) rfl (by first | (simp [AV.okc, shV]; done) | (intro e he; rw [List.mem_singleton.1 he]; rfl))) Try.underlying67 ni67 ty72 rfl rfl (by simp only [List.length_map, List.length_cons, List.length_nil]; omega) rfl ?_ | refine W.app 2 (.t rfl) rfl (.arr 3 (.t rfl) rfl (by first | (simp [AV.okc, shV]; done) | (intro e he; rw [List.mem_singleton.1 he]; rfl))) Try.underlying67 ni67 ty72 rfl rfl (by simp only [List.length_map, List.length_cons, List.length_nil]; omega) rfl ?_ | refine W.app 3 (.t rfl) rfl (.arr 0 (.t rfl) rfl (by first | (simp [AV.okc, shV]; done) | (intro e he; rw [List.mem_singleton.1 he]; rfl))) Try.underlying67 ni67 ty72 rfl rfl (by simp only [List.length_map, List.length_cons, List.length_nil]; omega) rfl ?_ | refine W.app 3 (.t rfl) rfl (.arr 1 (.t rfl) rfl (by first | (simp [AV.okc, shV]; done) | (intro e he; rw [List.mem_singleton.1 he]; rfl))) Try.underlying67 ni67 ty72 rfl rfl (by simp only [List.length_map, List.length_cons, List.length_nil]; omega) rfl ?_ | refine W.app 3 (.t rfl) rfl (.arr 2 (.t rfl) rfl (by first | (simp [AV.okc, shV]; done) | (intro e he; rw [List.mem_singleton.1 he]; rfl))) Try.underlying67 ni67 ty72 rfl rfl (by simp only [List.length_map, List.length_cons, List.length_nil]; omega) rfl ?_ | refine W.app 3 (.t rfl) rfl (.arr 3 (.t rfl) rfl (by first | (simp [AV.okc, shV]; done) | (intro e he; rw [List.mem_singleton.1 he]; rfl))) Try.underlying67 ni67 ty72 rfl rfl (by simp only [List.length_map, List.length_cons, List.length_nil]; omega) rfl ?_
      intro v96
      refine W.q (Ev.assign (.t rfl)) rfl ?_
      refine W.nil ?_
      refine W.blk_normal ?_
      refine W.then ?_
      refine W.region ?_
      refine W.q (Ev.move (.t rfl)) rfl ?_
      first | refine W.q (Ev.add (.t rfl) .k (fun _ => by omega)) rfl ?_ | refine W.q (Ev.addw (.t rfl) .k) rfl ?_
      refine W.q (Ev.assign (.t rfl)) rfl ?_
      refine W.nil ?_
      refine W.then ?_
      first
      | (refine W.reach (D := [_]) (i + 1, ts, v) ⟨rfl, rfl, rfl, rfl, trivial⟩ (List.Perm.swap _ _ []) ⟨⟨by show i + 1 ≤ _; omega, hi2, hi3⟩, by show _ - (i + 1) < _; omega⟩)
      | (refine W.reach (D := [_]) (i + 1, ts ++ [⟨2, nm, [], false, []⟩], v96) ⟨rfl, rfl, rfl, rfl, trivial⟩ (by rw [List.map_append]; exact List.Perm.swap _ _ []) ⟨⟨by show i + 1 ≤ _; omega, Tk.drawns_snoc hi2 (fun (h : (2 : Int) = 3) => absurd h (by decide)) (.inr (.inl ⟨rfl, mnm, rfl, rfl, rfl⟩)), by show List.length _ ≤ n; rw [List.length_append, List.length_singleton]; omega⟩, by show _ - (i + 1) < _; omega⟩)
      | (refine W.reach (D := [_]) (i + 1, ts ++ [⟨3, [], [], false, tx⟩], v96) ⟨rfl, rfl, rfl, rfl, trivial⟩ (by rw [List.map_append]; exact List.Perm.swap _ _ []) ⟨⟨by show i + 1 ≤ _; omega, Tk.drawns_snoc hi2 (fun _ => h53) (.inr (.inr ⟨rfl, rfl, rfl, rfl, mtx⟩)), by show List.length _ ≤ n; rw [List.length_append, List.length_singleton]; omega⟩, by show _ - (i + 1) < _; omega⟩)
      | (refine W.reach (D := [_]) (i + 1, ts ++ [⟨1, nm, ats, IntKind.i64.wrap (x.tdiv 20) % 2 == 0, []⟩], v96) ⟨rfl, rfl, rfl, rfl, trivial⟩ (by rw [List.map_append]; exact List.Perm.swap _ _ []) ⟨⟨by show i + 1 ≤ _; omega, Tk.drawns_snoc hi2 (fun (h : (1 : Int) = 3) => absurd h (by decide)) (.inl ⟨rfl, mnm, ⟨by rw [hk2]; exact hk3, hk4⟩, rfl⟩), by show List.length _ ≤ n; rw [List.length_append, List.length_singleton]; omega⟩, by show _ - (i + 1) < _; omega⟩)
      | (refine W.reach (D := [_]) (i + 1, ts ++ [⟨1, nm, [], false, []⟩], v96) ⟨rfl, rfl, rfl, rfl, trivial⟩ (by rw [List.map_append]; exact List.Perm.swap _ _ []) ⟨⟨by show i + 1 ≤ _; omega, Tk.drawns_snoc hi2 (fun (h : (1 : Int) = 3) => absurd h (by decide)) (.inl ⟨rfl, mnm, ⟨rfl, by simp⟩, rfl⟩), by show List.length _ ≤ n; rw [List.length_append, List.length_singleton]; omega⟩, by show _ - (i + 1) < _; omega⟩)
    · have h36 := beq_eq_false_iff_ne.1 hc_t36
      refine W.seq ?_
      refine W.region ?_
      refine W.q (Ev.eqi (.t rfl) .k) rfl ?_
      refine W.q (Ev.assign (.t rfl)) rfl ?_
      refine W.nil ?_
      refine W.then ?_
      refine W.cond (.t rfl) (fun hc_t39 => ?_) (fun hc_t39 => ?_)
      · refine W.seq ?_
        refine W.seq ?_
        refine W.region ?_
        refine W.q (Ev.move (.t rfl)) rfl ?_
        first | refine W.q (Ev.lensl (.t rfl) Try.underlying67) rfl ?_ | refine W.q (Ev.lenar (i := 0) (.t rfl) rfl Try.underlying67) rfl ?_ | refine W.q (Ev.lenar (i := 1) (.t rfl) rfl Try.underlying67) rfl ?_ | refine W.q (Ev.lenar (i := 2) (.t rfl) rfl Try.underlying67) rfl ?_ | refine W.q (Ev.lenar (i := 3) (.t rfl) rfl Try.underlying67) rfl ?_
        refine W.q (Ev.assign (.t rfl)) rfl ?_
        refine W.nil ?_
        refine W.then ?_
        refine W.seq ?_
        refine W.region ?_
        refine W.q (Ev.move (.t rfl)) rfl ?_
        refine W.q (Ev.gti (.t rfl) .k) rfl ?_
        refine W.q (Ev.move (.t rfl)) rfl ?_
        refine W.qgT rfl rfl (Ev.move (.t rfl)) rfl ?_
        refine W.qgT rfl rfl (Ev.move (.t rfl)) rfl ?_
        first | refine W.qgT rfl rfl (Ev.sub (.c rfl) .k (fun _ => by omega)) rfl ?_ | refine W.qgT rfl rfl (Ev.subw (.c rfl) .k) rfl ?_
        refine W.qgT rfl rfl (Ev.ata 1 (.c rfl) rfl (.c rfl) Try.underlying67 ty72 (fun hg => by have h := of_decide_eq_true hg; omega)) rfl ?_
        first | refine W.qgT rfl rfl (Ev.fae (.c rfl) fa72_0 rfl) rfl ?_ | refine W.qgT rfl rfl (Ev.fab (.c rfl) fa72_0) rfl ?_ | refine W.qgT rfl rfl (Ev.faa (.c rfl) fa72_0) rfl ?_
        refine W.qgT rfl rfl (Ev.lda1g 1 (ts.length - 1) 0 (e := tav (ts.getD (ts.length - 1) Tk.dfl)) (.c rfl) rfl (fun hg => getD_mapG tav Tk.dfl ts _ (by have h := of_decide_eq_true hg; omega)) (fun hg => by have h := of_decide_eq_true hg; omega) rfl rfl rfl ag3) rfl ?_
        refine W.qgT rfl rfl (Ev.eqi (.c rfl) .k) rfl ?_
        refine W.q (Ev.and (.t rfl) ⟨_, _, rfl, rfl, by first | (simp; done) | (intro hg_ hp_; simp [hp_]; done) | (simp <;> omega; done) | (simp_all; done) | grind⟩) rfl ?_
        refine W.nil ?_
        refine W.then ?_
        refine W.cond (.t rfl) (fun hc_t53 => ?_) (fun hc_t53 => ?_)
        · refine W.exit ?_
          refine W.then_exit ?_
          refine W.blk_miss rfl ?_
          refine W.then_exit ?_
          refine W.blk_hit ?_
          refine W.then ?_
          refine W.region ?_
          refine W.q (Ev.move (.t rfl)) rfl ?_
          first | refine W.q (Ev.add (.t rfl) .k (fun _ => by omega)) rfl ?_ | refine W.q (Ev.addw (.t rfl) .k) rfl ?_
          refine W.q (Ev.assign (.t rfl)) rfl ?_
          refine W.nil ?_
          refine W.then ?_
          first
          | (refine W.reach (D := [_]) (i + 1, ts, v) ⟨rfl, rfl, rfl, rfl, trivial⟩ (List.Perm.swap _ _ []) ⟨⟨by show i + 1 ≤ _; omega, hi2, hi3⟩, by show _ - (i + 1) < _; omega⟩)
          | (refine W.reach (D := [_]) (i + 1, ts ++ [⟨2, nm, [], false, []⟩], v96) ⟨rfl, rfl, rfl, rfl, trivial⟩ (by rw [List.map_append]; exact List.Perm.swap _ _ []) ⟨⟨by show i + 1 ≤ _; omega, Tk.drawns_snoc hi2 (fun (h : (2 : Int) = 3) => absurd h (by decide)) (.inr (.inl ⟨rfl, mnm, rfl, rfl, rfl⟩)), by show List.length _ ≤ n; rw [List.length_append, List.length_singleton]; omega⟩, by show _ - (i + 1) < _; omega⟩)
          | (refine W.reach (D := [_]) (i + 1, ts ++ [⟨3, [], [], false, tx⟩], v96) ⟨rfl, rfl, rfl, rfl, trivial⟩ (by rw [List.map_append]; exact List.Perm.swap _ _ []) ⟨⟨by show i + 1 ≤ _; omega, Tk.drawns_snoc hi2 (fun _ => h53) (.inr (.inr ⟨rfl, rfl, rfl, rfl, mtx⟩)), by show List.length _ ≤ n; rw [List.length_append, List.length_singleton]; omega⟩, by show _ - (i + 1) < _; omega⟩)
          | (refine W.reach (D := [_]) (i + 1, ts ++ [⟨1, nm, ats, IntKind.i64.wrap (x.tdiv 20) % 2 == 0, []⟩], v96) ⟨rfl, rfl, rfl, rfl, trivial⟩ (by rw [List.map_append]; exact List.Perm.swap _ _ []) ⟨⟨by show i + 1 ≤ _; omega, Tk.drawns_snoc hi2 (fun (h : (1 : Int) = 3) => absurd h (by decide)) (.inl ⟨rfl, mnm, ⟨by rw [hk2]; exact hk3, hk4⟩, rfl⟩), by show List.length _ ≤ n; rw [List.length_append, List.length_singleton]; omega⟩, by show _ - (i + 1) < _; omega⟩)
          | (refine W.reach (D := [_]) (i + 1, ts ++ [⟨1, nm, [], false, []⟩], v96) ⟨rfl, rfl, rfl, rfl, trivial⟩ (by rw [List.map_append]; exact List.Perm.swap _ _ []) ⟨⟨by show i + 1 ≤ _; omega, Tk.drawns_snoc hi2 (fun (h : (1 : Int) = 3) => absurd h (by decide)) (.inl ⟨rfl, mnm, ⟨rfl, by simp⟩, rfl⟩), by show List.length _ ≤ n; rw [List.length_append, List.length_singleton]; omega⟩, by show _ - (i + 1) < _; omega⟩)
        · have h53 := Tk.lastK_of ts hc_t53
          refine W.skip ?_
          refine W.then ?_
          refine W.region ?_
          obtain ⟨tx, mtx, h58⟩ := pick_mod Tk.tx7 (IntKind.i64.wrap (x.tdiv 4)) 7 rfl (by decide)
          refine W.bs (es := [_, _, _, _, _, _, _]) Try.underlying40 ty9 ⟨rfl, .k, rfl, rfl, rfl, .k, rfl, rfl, rfl, .k, rfl, rfl, rfl, .k, rfl, rfl, rfl, .k, rfl, rfl, rfl, .k, rfl, rfl, rfl, .k, rfl, rfl, trivial⟩ rfl (by decide) rfl rfl ?_
          refine W.q (Ev.move (.t rfl)) rfl ?_
          first | refine W.q (Ev.quo (.t rfl) .k (fun _ => by decide)) rfl ?_ | refine W.q (Ev.quo (.t rfl) .k (fun _ => by omega)) rfl ?_
          refine W.callp (Base.c_Picked (IntKind.i64.wrap (x.tdiv 4)) 7 (by decide) (by decide)) ⟨(.t rfl), .k, trivial⟩ rfl ?_
          refine W.q (Ev.at (E := 9) (.t rfl) (.t rfl) Try.underlying40 ty9 (fun _ => ⟨Int.emod_nonneg _ (by decide), h58⟩) rfl rfl) rfl ?_
          first | refine W.q (Ev.lde1 (.t rfl) ag9) rfl ?_ | refine W.q (Ev.ldb1 0 (.t rfl) rfl ag9 rfl) rfl ?_ | refine W.q (Ev.ldb1 1 (.t rfl) rfl ag9 rfl) rfl ?_ | refine W.q (Ev.ldb1 2 (.t rfl) rfl ag9 rfl) rfl ?_ | refine W.q (Ev.ldb1 3 (.t rfl) rfl ag9 rfl) rfl ?_
          refine W.q (Ev.build ty72 st72 rfl (fun hg => ⟨_, _, _, rfl, .k, rfl, rfl, rfl, _, _, _, rfl, (.t rfl), rfl, rfl, rfl, rfl⟩)) rfl ?_
          first | refine W.stb 0 (.t rfl) (.t rfl) rfl ty72 rfl rfl rfl ?_ | refine W.stb 1 (.t rfl) (.t rfl) rfl ty72 rfl rfl rfl ?_ | refine W.stb 2 (.t rfl) (.t rfl) rfl ty72 rfl rfl rfl ?_ | refine W.stb 3 (.t rfl) (.t rfl) rfl ty72 rfl rfl rfl ?_
          refine W.nil ?_
          refine W.blk_normal ?_
          refine W.then ?_
          refine W.region ?_
          refine W.q (Ev.move (.t rfl)) rfl ?_
          first | refine W.q (Ev.lden (.t rfl) ag72 ty72 rfl rfl) rfl ?_ | refine W.q (Ev.ldbn 0 (.t rfl) rfl ag72 ty72 rfl) rfl ?_ | refine W.q (Ev.ldbn 1 (.t rfl) rfl ag72 ty72 rfl) rfl ?_ | refine W.q (Ev.ldbn 2 (.t rfl) rfl ag72 ty72 rfl) rfl ?_ | refine W.q (Ev.ldbn 3 (.t rfl) rfl ag72 ty72 rfl) rfl ?_
          first | refine W.nils (t := 94) (g := true) (cs' := [_, _, .sl 2 [], _, _]) rfl ⟨.inl rfl, .inl rfl, .inr ⟨rfl, 2, rfl⟩, .inl rfl, .inl rfl, trivial⟩ ?_ | skip
          refine W.bs (es := [_]) Try.underlying67 ty72 ⟨rfl, (.t rfl), rfl, rfl, trivial⟩ rfl (by decide) rfl rfl ?_
          first | refine W.app 0 (.t rfl) rfl (.sl (.t rfl) (by first | (simp [AV.okc, shV]; done) | (intro e he; rw [List.mem_singleton.1 he]; rfl))) Try.underlying67 ni67 ty72 rfl rfl (by simp only [List.length_map, List.length_cons, List.length_nil]; omega) rfl ?_ | refine W.app 1 (.t rfl) rfl (.sl (.t rfl) (by first | (simp [AV.okc, shV]; done) | (intro e he; rw [List.mem_singleton.1 he]; rfl))) Try.underlying67 ni67 ty72 rfl rfl (by simp only [List.length_map, List.length_cons, List.length_nil]; omega) rfl ?_ | refine W.app 2 (.t rfl) rfl (.sl (.t rfl) (by first | (simp [AV.okc, shV]; done) | (intro e he; rw [List.mem_singleton.1 he]; rfl))) Try.underlying67 ni67 ty72 rfl rfl (by simp only [List.length_map, List.length_cons, List.length_nil]; omega) rfl ?_ | refine W.app 3 (.t rfl) rfl (.sl (.t rfl) (by first | (simp [AV.okc, shV]; done) | (intro e he; rw [List.mem_singleton.1 he]; rfl))) Try.underlying67 ni67 ty72 rfl rfl (by simp only [List.length_map, List.length_cons, List.length_nil]; omega) rfl ?_ | refine W.app 0 (.t rfl) rfl (.arr 0 (.t rfl) rfl (by first | (simp [AV.okc, shV]; done) | (intro e he; rw [List.mem_singleton.1 he]; rfl))) Try.underlying67 ni67 ty72 rfl rfl (by simp only [List.length_map, List.length_cons, List.length_nil]; omega) rfl ?_ | refine W.app 0 (.t rfl) rfl (.arr 1 (.t rfl) rfl (by first | (simp [AV.okc, shV]; done) | (intro e he; rw [List.mem_singleton.1 he]; rfl))) Try.underlying67 ni67 ty72 rfl rfl (by simp only [List.length_map, List.length_cons, List.length_nil]; omega) rfl ?_ | refine W.app 0 (.t rfl) rfl (.arr 2 (.t rfl) rfl (by first | (simp [AV.okc, shV]; done) | (intro e he; rw [List.mem_singleton.1 he]; rfl))) Try.underlying67 ni67 ty72 rfl rfl (by simp only [List.length_map, List.length_cons, List.length_nil]; omega) rfl ?_ | refine W.app 0 (.t rfl) rfl (.arr 3 (.t rfl) rfl (by first | (simp [AV.okc, shV]; done) | (intro e he; rw [List.mem_singleton.1 he]; rfl))) Try.underlying67 ni67 ty72 rfl rfl (by simp only [List.length_map, List.length_cons, List.length_nil]; omega) rfl ?_ | refine W.app 1 (.t rfl) rfl (.arr 0 (.t rfl) rfl (by first | (simp [AV.okc, shV]; done) | (intro e he; rw [List.mem_singleton.1 he]; rfl))) Try.underlying67 ni67 ty72 rfl rfl (by simp only [List.length_map, List.length_cons, List.length_nil]; omega) rfl ?_ | refine W.app 1 (.t rfl) rfl (.arr 1 (.t rfl) rfl (by first | (simp [AV.okc, shV]; done) | (intro e he; rw [List.mem_singleton.1 he]; rfl))) Try.underlying67 ni67 ty72 rfl rfl (by simp only [List.length_map, List.length_cons, List.length_nil]; omega) rfl ?_ | refine W.app 1 (.t rfl) rfl (.arr 2 (.t rfl) rfl (by first | (simp [AV.okc, shV]; done) | (intro e he; rw [List.mem_singleton.1 he]; rfl))) Try.underlying67 ni67 ty72 rfl rfl (by simp only [List.length_map, List.length_cons, List.length_nil]; omega) rfl ?_ | refine W.app 1 (.t rfl) rfl (.arr 3 (.t rfl) rfl (by first | (simp [AV.okc, shV]; done) | (intro e he; rw [List.mem_singleton.1 he]; rfl))) Try.underlying67 ni67 ty72 rfl rfl (by simp only [List.length_map, List.length_cons, List.length_nil]; omega) rfl ?_ | refine W.app 2 (.t rfl) rfl (.arr 0 (.t rfl) rfl (by first | (simp [AV.okc, shV]; done) | (intro e he; rw [List.mem_singleton.1 he]; rfl))) Try.underlying67 ni67 ty72 rfl rfl (by simp only [List.length_map, List.length_cons, List.length_nil]; omega) rfl ?_ | refine W.app 2 (.t rfl) rfl (.arr 1 (.t rfl) rfl (by first | (simp [AV.okc, shV]; done) | (intro e he; rw [List.mem_singleton.1 he]; rfl))) Try.underlying67 ni67 ty72 rfl rfl (by simp only [List.length_map, List.length_cons, List.length_nil]; omega) rfl ?_ | refine W.app 2 (.t rfl) rfl (.arr 2 (.t rfl) rfl (by first | (simp [AV.okc, shV]; done) | (intro e he; rw [List.mem_singleton.1 he]; rfl))) Try.underlying67 ni67 ty72 rfl rfl (by simp only [List.length_map, List.length_cons, List.length_nil]; omega) rfl ?_ | refine W.app 2 (.t rfl) rfl (.arr 3 (.t rfl) rfl (by first | (simp [AV.okc, shV]; done) | (intro e he; rw [List.mem_singleton.1 he]; rfl))) Try.underlying67 ni67 ty72 rfl rfl (by simp only [List.length_map, List.length_cons, List.length_nil]; omega) rfl ?_ | refine W.app 3 (.t rfl) rfl (.arr 0 (.t rfl) rfl (by first | (simp [AV.okc, shV]; done) | (intro e he; rw [List.mem_singleton.1 he]; rfl))) Try.underlying67 ni67 ty72 rfl rfl (by simp only [List.length_map, List.length_cons, List.length_nil]; omega) rfl ?_ | refine W.app 3 (.t rfl) rfl (.arr 1 (.t rfl) rfl (by first | (simp [AV.okc, shV]; done) | (intro e he; rw [List.mem_singleton.1 he]; rfl))) Try.underlying67 ni67 ty72 rfl rfl (by simp only [List.length_map, List.length_cons, List.length_nil]; omega) rfl ?_ | refine W.app 3 (.t rfl) rfl (.arr 2 (.t rfl) rfl (by first | (simp [AV.okc, shV]; done) | (intro e he; rw [List.mem_singleton.1 he]; rfl))) Try.underlying67 ni67 ty72 rfl rfl (by simp only [List.length_map, List.length_cons, List.length_nil]; omega) rfl ?_ | refine W.app 3 (.t rfl) rfl (.arr 3 (.t rfl) rfl (by first | (simp [AV.okc, shV]; done) | (intro e he; rw [List.mem_singleton.1 he]; rfl))) Try.underlying67 ni67 ty72 rfl rfl (by simp only [List.length_map, List.length_cons, List.length_nil]; omega) rfl ?_
          intro v96
          refine W.q (Ev.assign (.t rfl)) rfl ?_
          refine W.nil ?_
          refine W.blk_normal ?_
          refine W.then ?_
          refine W.region ?_
          refine W.q (Ev.move (.t rfl)) rfl ?_
          first | refine W.q (Ev.add (.t rfl) .k (fun _ => by omega)) rfl ?_ | refine W.q (Ev.addw (.t rfl) .k) rfl ?_
          refine W.q (Ev.assign (.t rfl)) rfl ?_
          refine W.nil ?_
          refine W.then ?_
          first
          | (refine W.reach (D := [_]) (i + 1, ts, v) ⟨rfl, rfl, rfl, rfl, trivial⟩ (List.Perm.swap _ _ []) ⟨⟨by show i + 1 ≤ _; omega, hi2, hi3⟩, by show _ - (i + 1) < _; omega⟩)
          | (refine W.reach (D := [_]) (i + 1, ts ++ [⟨2, nm, [], false, []⟩], v96) ⟨rfl, rfl, rfl, rfl, trivial⟩ (by rw [List.map_append]; exact List.Perm.swap _ _ []) ⟨⟨by show i + 1 ≤ _; omega, Tk.drawns_snoc hi2 (fun (h : (2 : Int) = 3) => absurd h (by decide)) (.inr (.inl ⟨rfl, mnm, rfl, rfl, rfl⟩)), by show List.length _ ≤ n; rw [List.length_append, List.length_singleton]; omega⟩, by show _ - (i + 1) < _; omega⟩)
          | (refine W.reach (D := [_]) (i + 1, ts ++ [⟨3, [], [], false, tx⟩], v96) ⟨rfl, rfl, rfl, rfl, trivial⟩ (by rw [List.map_append]; exact List.Perm.swap _ _ []) ⟨⟨by show i + 1 ≤ _; omega, Tk.drawns_snoc hi2 (fun _ => h53) (.inr (.inr ⟨rfl, rfl, rfl, rfl, mtx⟩)), by show List.length _ ≤ n; rw [List.length_append, List.length_singleton]; omega⟩, by show _ - (i + 1) < _; omega⟩)
          | (refine W.reach (D := [_]) (i + 1, ts ++ [⟨1, nm, ats, IntKind.i64.wrap (x.tdiv 20) % 2 == 0, []⟩], v96) ⟨rfl, rfl, rfl, rfl, trivial⟩ (by rw [List.map_append]; exact List.Perm.swap _ _ []) ⟨⟨by show i + 1 ≤ _; omega, Tk.drawns_snoc hi2 (fun (h : (1 : Int) = 3) => absurd h (by decide)) (.inl ⟨rfl, mnm, ⟨by rw [hk2]; exact hk3, hk4⟩, rfl⟩), by show List.length _ ≤ n; rw [List.length_append, List.length_singleton]; omega⟩, by show _ - (i + 1) < _; omega⟩)
          | (refine W.reach (D := [_]) (i + 1, ts ++ [⟨1, nm, [], false, []⟩], v96) ⟨rfl, rfl, rfl, rfl, trivial⟩ (by rw [List.map_append]; exact List.Perm.swap _ _ []) ⟨⟨by show i + 1 ≤ _; omega, Tk.drawns_snoc hi2 (fun (h : (1 : Int) = 3) => absurd h (by decide)) (.inl ⟨rfl, mnm, ⟨rfl, by simp⟩, rfl⟩), by show List.length _ ≤ n; rw [List.length_append, List.length_singleton]; omega⟩, by show _ - (i + 1) < _; omega⟩)
      · refine W.seq ?_
        refine W.region ?_
        refine W.q (Ev.eqi (.t rfl) .k) rfl ?_
        refine W.q (Ev.assign (.t rfl)) rfl ?_
        refine W.nil ?_
        refine W.then ?_
        refine W.cond (.t rfl) (fun hc_t61 => ?_) (fun hc_t61 => ?_)
        · refine W.seq ?_
          refine W.region ?_
          refine W.q (Ev.move (.t rfl)) rfl ?_
          first | refine W.q (Ev.quo (.t rfl) .k (fun _ => by decide)) rfl ?_ | refine W.q (Ev.quo (.t rfl) .k (fun _ => by omega)) rfl ?_
          refine W.callp (Base.c_Picked (IntKind.i64.wrap (x.tdiv 20)) 2 (by decide) (by decide)) ⟨(.t rfl), .k, trivial⟩ rfl ?_
          refine W.q (Ev.eqi (.t rfl) .k) rfl ?_
          first | refine W.q (Ev.fae (.t rfl) fa72_3 rfl) rfl ?_ | refine W.q (Ev.fab (.t rfl) fa72_3) rfl ?_ | refine W.q (Ev.faa (.t rfl) fa72_3) rfl ?_
          first | refine W.stb 0 (.t rfl) (.t rfl) rfl ty4 rfl rfl rfl ?_ | refine W.stb 1 (.t rfl) (.t rfl) rfl ty4 rfl rfl rfl ?_ | refine W.stb 2 (.t rfl) (.t rfl) rfl ty4 rfl rfl rfl ?_ | refine W.stb 3 (.t rfl) (.t rfl) rfl ty4 rfl rfl rfl ?_
          refine W.nil ?_
          refine W.then ?_
          refine W.seq ?_
          refine W.region ?_
          refine W.q (Ev.assign .k) rfl ?_
          refine W.nil ?_
          refine W.own_nil 78 2 ?_
          refine W.perm (List.Perm.swap _ _ _) ?_
          refine W.then ?_
          refine W.block ?_
          refine W.loop (D := []) (ι := Nat × List Dc × Value) (fun z => [(10, true, .int (z.1 : Int)), (8, true, .lit (.pointer (some ⟨b8, 0, none⟩))), (7, true, .int x), (6, true, .int (i : Int)), (0, true, .sl 1 (l.map AV.int)), (1, true, .int (n : Int)), (5, true, .lit v)]) (fun z => [.box b8 72 [.int 1, .str nm, .lit z.2.2, .bool (IntKind.i64.wrap (x.tdiv 20) % 2 == 0), .lit (.string ⟨#[]⟩)], .arr z.2.2 78 2 (z.2.1.map dav), .arr v 72 5 (ts.map tav)]) (fun z => z.1 ≤ 2 ∧ z.2.1.length = z.1 ∧ z.2.1.map (·.1) = Tk.at2.take z.1 ∧ ∀ a ∈ z.2.1, a.2 ∈ Tk.vl6) (fun z => 2 - z.1) (0, [], .slice none 0 0) ⟨rfl, rfl, rfl, rfl, rfl, rfl, rfl, trivial⟩ (.refl _) ⟨Nat.zero_le _, rfl, rfl, by simp⟩ ?_
          rintro ⟨k, ats, va⟩ ⟨hk1, hk2, hk3, hk4⟩
          dsimp only at hk1 hk2 hk3 hk4 ⊢
          have hm3 := Int.emod_lt_of_pos (IntKind.i64.wrap (x.tdiv 40)) (show (0 : Int) < 3 by decide)
          rcases (show ((k : Int) < IntKind.i64.wrap (x.tdiv 40) % 3) ∨ ¬ ((k : Int) < IntKind.i64.wrap (x.tdiv 40) % 3) from by omega) with hltk | hgek
          · have hgn := getD_mapG AV.str [] Tk.at2 k (show k < 2 by omega)
            have hnt := take_getDG [] Tk.at2 k (show k < 2 by omega)
            generalize Tk.at2.getD k [] = an at hgn hnt
            obtain ⟨s87, m87, h87⟩ := pick_mod Tk.vl6 (IntKind.i64.wrap (x.tdiv (80 + (k : Int)))) 6 rfl (by decide)
            have hal : (ats.map dav).length = ats.length := List.length_map ..
            refine W.seq ?_
            refine W.seq ?_
            refine W.region ?_
            refine W.q (Ev.move (.t rfl)) rfl ?_
            refine W.q (Ev.move (.t rfl)) rfl ?_
            first | refine W.q (Ev.quo (.t rfl) .k (fun _ => by decide)) rfl ?_ | refine W.q (Ev.quo (.t rfl) .k (fun _ => by omega)) rfl ?_
            refine W.callp (Base.c_Picked (IntKind.i64.wrap (x.tdiv 40)) 3 (by decide) (by decide)) ⟨(.t rfl), .k, trivial⟩ rfl ?_
            refine W.q (Ev.lti (.t rfl) (.t rfl)) rfl ?_
            refine W.nil ?_
            refine W.then ?_
            refine W.is (t := 72) (g := true) (av' := .lit (.bool true)) rfl (congrArg (fun b => AV.lit (.bool b)) (by exact decide_eq_true hltk)) ?_
            refine W.condT (.t rfl) ?_
            refine W.skip ?_
            refine W.then ?_
            refine W.seq ?_
            refine W.block ?_
            refine W.drawnE (ι := Value) (fun ee c => [.box b8 72 (bif ee 18 then [.int 1, .str nm, .lit c, .bool (IntKind.i64.wrap (x.tdiv 20) % 2 == 0), .lit (.string ⟨#[]⟩)] else [.int 1, .str nm, .lit va, .bool (IntKind.i64.wrap (x.tdiv 20) % 2 == 0), .lit (.string ⟨#[]⟩)]), bif ee 16 then .arr c 78 2 (ats.map dav ++ [dav (an, s87)]) else .arr va 78 2 (ats.map dav), .arr v 72 5 (ts.map tav)]) 16 va (by kernel_rfl) (by kernel_rfl) rfl ?_
            first | refine DE.q (fun e c hk => (Ev.fae (.t rfl) fa72_2 rfl)) rfl (fun _ _ => rfl) (by first | exact .inr (fun _ _ => rfl) | exact .inl (by kernel_rfl)) ?_ | refine DE.q (fun e c hk => (Ev.fab (.t rfl) fa72_2)) rfl (fun _ _ => rfl) (by first | exact .inr (fun _ _ => rfl) | exact .inl (by kernel_rfl)) ?_ | refine DE.q (fun e c hk => (Ev.faa (.t rfl) fa72_2)) rfl (fun _ _ => rfl) (by first | exact .inr (fun _ _ => rfl) | exact .inl (by kernel_rfl)) ?_
            refine DE.q (av := fun _ => .lit va) (fun e c hk => by have h := hk.down 18 (by kernel_rfl); simp only [h, cond_false]; exact Ev.ldb1 0 (.t rfl) rfl ag33 rfl) rfl (fun _ _ => rfl) (by first | exact .inr (fun _ _ => rfl) | exact .inl (by kernel_rfl)) ?_
            refine DE.bs (es := fun _ => [_, _]) Try.underlying40 ty9 (fun c => ⟨rfl, .k, rfl, rfl, rfl, .k, rfl, rfl, trivial⟩) (fun _ => rfl) (by decide) rfl rfl (fun _ _ => rfl) (by first | exact .inr (fun _ _ => rfl) | exact .inl (by kernel_rfl)) ?_
            refine DE.q (fun e c hk => (Ev.move (.t rfl))) rfl (fun _ _ => rfl) (by first | exact .inr (fun _ _ => rfl) | exact .inl (by kernel_rfl)) ?_
            refine DE.q (fun e c hk => Ev.at (E := 9) (.t rfl) (.t rfl) Try.underlying40 ty9 (fun _ => ⟨by omega, hgn⟩) rfl rfl) rfl (fun _ _ => rfl) (by first | exact .inr (fun _ _ => rfl) | exact .inl (by kernel_rfl)) ?_
            first | refine DE.q (fun e c hk => (Ev.lde1 (.t rfl) ag9)) rfl (fun _ _ => rfl) (by first | exact .inr (fun _ _ => rfl) | exact .inl (by kernel_rfl)) ?_ | refine DE.q (fun e c hk => (Ev.ldb1 0 (.t rfl) rfl ag9 rfl)) rfl (fun _ _ => rfl) (by first | exact .inr (fun _ _ => rfl) | exact .inl (by kernel_rfl)) ?_ | refine DE.q (fun e c hk => (Ev.ldb1 1 (.t rfl) rfl ag9 rfl)) rfl (fun _ _ => rfl) (by first | exact .inr (fun _ _ => rfl) | exact .inl (by kernel_rfl)) ?_ | refine DE.q (fun e c hk => (Ev.ldb1 2 (.t rfl) rfl ag9 rfl)) rfl (fun _ _ => rfl) (by first | exact .inr (fun _ _ => rfl) | exact .inl (by kernel_rfl)) ?_ | refine DE.q (fun e c hk => (Ev.ldb1 3 (.t rfl) rfl ag9 rfl)) rfl (fun _ _ => rfl) (by first | exact .inr (fun _ _ => rfl) | exact .inl (by kernel_rfl)) ?_
            refine DE.bs (es := fun _ => [_, _, _, _, _, _]) Try.underlying40 ty9 (fun c => ⟨rfl, .k, rfl, rfl, rfl, .k, rfl, rfl, rfl, .k, rfl, rfl, rfl, .k, rfl, rfl, rfl, .k, rfl, rfl, rfl, .k, rfl, rfl, trivial⟩) (fun _ => rfl) (by decide) rfl rfl (fun _ _ => rfl) (by first | exact .inr (fun _ _ => rfl) | exact .inl (by kernel_rfl)) ?_
            refine DE.q (fun e c hk => (Ev.move (.t rfl))) rfl (fun _ _ => rfl) (by first | exact .inr (fun _ _ => rfl) | exact .inl (by kernel_rfl)) ?_
            refine DE.q (fun e c hk => (Ev.move (.t rfl))) rfl (fun _ _ => rfl) (by first | exact .inr (fun _ _ => rfl) | exact .inl (by kernel_rfl)) ?_
            first | refine DE.q (fun e c hk => (Ev.add .k (.t rfl) (fun _ => by omega))) rfl (fun _ _ => rfl) (by first | exact .inr (fun _ _ => rfl) | exact .inl (by kernel_rfl)) ?_ | refine DE.q (fun e c hk => (Ev.addw .k (.t rfl))) rfl (fun _ _ => rfl) (by first | exact .inr (fun _ _ => rfl) | exact .inl (by kernel_rfl)) ?_
            first | refine DE.q (fun e c hk => (Ev.quo (.t rfl) (.t rfl) (fun _ => by decide))) rfl (fun _ _ => rfl) (by first | exact .inr (fun _ _ => rfl) | exact .inl (by kernel_rfl)) ?_ | refine DE.q (fun e c hk => (Ev.quo (.t rfl) (.t rfl) (fun _ => by omega))) rfl (fun _ _ => rfl) (by first | exact .inr (fun _ _ => rfl) | exact .inl (by kernel_rfl)) ?_
            refine DE.callp (fun c => Base.c_Picked (IntKind.i64.wrap (x.tdiv (80 + (k : Int)))) 6 (by decide) (by decide)) (fun c => ⟨(.t rfl), .k, trivial⟩) rfl (fun _ _ => rfl) (by first | exact .inr (fun _ _ => rfl) | exact .inl (by kernel_rfl)) ?_
            refine DE.q (fun e c hk => Ev.at (E := 9) (.t rfl) (.t rfl) Try.underlying40 ty9 (fun _ => ⟨Int.emod_nonneg _ (by decide), h87⟩) rfl rfl) rfl (fun _ _ => rfl) (by first | exact .inr (fun _ _ => rfl) | exact .inl (by kernel_rfl)) ?_
            first | refine DE.q (fun e c hk => (Ev.lde1 (.t rfl) ag9)) rfl (fun _ _ => rfl) (by first | exact .inr (fun _ _ => rfl) | exact .inl (by kernel_rfl)) ?_ | refine DE.q (fun e c hk => (Ev.ldb1 0 (.t rfl) rfl ag9 rfl)) rfl (fun _ _ => rfl) (by first | exact .inr (fun _ _ => rfl) | exact .inl (by kernel_rfl)) ?_ | refine DE.q (fun e c hk => (Ev.ldb1 1 (.t rfl) rfl ag9 rfl)) rfl (fun _ _ => rfl) (by first | exact .inr (fun _ _ => rfl) | exact .inl (by kernel_rfl)) ?_ | refine DE.q (fun e c hk => (Ev.ldb1 2 (.t rfl) rfl ag9 rfl)) rfl (fun _ _ => rfl) (by first | exact .inr (fun _ _ => rfl) | exact .inl (by kernel_rfl)) ?_ | refine DE.q (fun e c hk => (Ev.ldb1 3 (.t rfl) rfl ag9 rfl)) rfl (fun _ _ => rfl) (by first | exact .inr (fun _ _ => rfl) | exact .inl (by kernel_rfl)) ?_
            refine DE.q (fun e c hk => (Ev.build ty78 st78 rfl (fun hg => ⟨_, _, _, rfl, (.t rfl), rfl, rfl, rfl, _, _, _, rfl, (.t rfl), rfl, rfl, rfl, rfl⟩))) rfl (fun _ _ => rfl) (by first | exact .inr (fun _ _ => rfl) | exact .inl (by kernel_rfl)) ?_
            refine DE.bs (es := fun _ => [_]) Try.underlying33 ty78 (fun c => ⟨rfl, (.t rfl), rfl, rfl, trivial⟩) (fun _ => rfl) (by decide) rfl rfl (fun _ _ => rfl) (by first | exact .inr (fun _ _ => rfl) | exact .inl (by kernel_rfl)) ?_
            refine DE.eff1 (av := fun v => .lit v) rfl rfl (fun e c hk L_ hs Q h => ?_) ?_
            · have hk_16 := hk.not
              have hk_18 := hk.down 18 (by kernel_rfl)
              simp only [addE, hk_16, hk_18, Nat.reduceAdd, Nat.reduceEqDiff, ↓reduceIte, cond_true, cond_false] at h ⊢
              first | (refine W.app 0 (.t (hs _ _ rfl)) rfl (.sl (.t (hs _ _ rfl)) (by first | (simp [AV.okc, shV]; done) | (intro e he; rw [List.mem_singleton.1 he]; rfl))) Try.underlying33 ni33 ty78 rfl rfl (by simp only [List.length_map, List.length_cons, List.length_nil]; omega) rfl ?_; exact h) | (refine W.app 1 (.t (hs _ _ rfl)) rfl (.sl (.t (hs _ _ rfl)) (by first | (simp [AV.okc, shV]; done) | (intro e he; rw [List.mem_singleton.1 he]; rfl))) Try.underlying33 ni33 ty78 rfl rfl (by simp only [List.length_map, List.length_cons, List.length_nil]; omega) rfl ?_; exact h) | (refine W.app 2 (.t (hs _ _ rfl)) rfl (.sl (.t (hs _ _ rfl)) (by first | (simp [AV.okc, shV]; done) | (intro e he; rw [List.mem_singleton.1 he]; rfl))) Try.underlying33 ni33 ty78 rfl rfl (by simp only [List.length_map, List.length_cons, List.length_nil]; omega) rfl ?_; exact h) | (refine W.app 3 (.t (hs _ _ rfl)) rfl (.sl (.t (hs _ _ rfl)) (by first | (simp [AV.okc, shV]; done) | (intro e he; rw [List.mem_singleton.1 he]; rfl))) Try.underlying33 ni33 ty78 rfl rfl (by simp only [List.length_map, List.length_cons, List.length_nil]; omega) rfl ?_; exact h) | (refine W.app 0 (.t (hs _ _ rfl)) rfl (.arr 0 (.t (hs _ _ rfl)) rfl (by first | (simp [AV.okc, shV]; done) | (intro e he; rw [List.mem_singleton.1 he]; rfl))) Try.underlying33 ni33 ty78 rfl rfl (by simp only [List.length_map, List.length_cons, List.length_nil]; omega) rfl ?_; exact h) | (refine W.app 1 (.t (hs _ _ rfl)) rfl (.arr 0 (.t (hs _ _ rfl)) rfl (by first | (simp [AV.okc, shV]; done) | (intro e he; rw [List.mem_singleton.1 he]; rfl))) Try.underlying33 ni33 ty78 rfl rfl (by simp only [List.length_map, List.length_cons, List.length_nil]; omega) rfl ?_; exact h) | (refine W.app 2 (.t (hs _ _ rfl)) rfl (.arr 0 (.t (hs _ _ rfl)) rfl (by first | (simp [AV.okc, shV]; done) | (intro e he; rw [List.mem_singleton.1 he]; rfl))) Try.underlying33 ni33 ty78 rfl rfl (by simp only [List.length_map, List.length_cons, List.length_nil]; omega) rfl ?_; exact h) | (refine W.app 3 (.t (hs _ _ rfl)) rfl (.arr 0 (.t (hs _ _ rfl)) rfl (by first | (simp [AV.okc, shV]; done) | (intro e he; rw [List.mem_singleton.1 he]; rfl))) Try.underlying33 ni33 ty78 rfl rfl (by simp only [List.length_map, List.length_cons, List.length_nil]; omega) rfl ?_; exact h) | (refine W.app 0 (.t (hs _ _ rfl)) rfl (.arr 1 (.t (hs _ _ rfl)) rfl (by first | (simp [AV.okc, shV]; done) | (intro e he; rw [List.mem_singleton.1 he]; rfl))) Try.underlying33 ni33 ty78 rfl rfl (by simp only [List.length_map, List.length_cons, List.length_nil]; omega) rfl ?_; exact h) | (refine W.app 1 (.t (hs _ _ rfl)) rfl (.arr 1 (.t (hs _ _ rfl)) rfl (by first | (simp [AV.okc, shV]; done) | (intro e he; rw [List.mem_singleton.1 he]; rfl))) Try.underlying33 ni33 ty78 rfl rfl (by simp only [List.length_map, List.length_cons, List.length_nil]; omega) rfl ?_; exact h) | (refine W.app 2 (.t (hs _ _ rfl)) rfl (.arr 1 (.t (hs _ _ rfl)) rfl (by first | (simp [AV.okc, shV]; done) | (intro e he; rw [List.mem_singleton.1 he]; rfl))) Try.underlying33 ni33 ty78 rfl rfl (by simp only [List.length_map, List.length_cons, List.length_nil]; omega) rfl ?_; exact h) | (refine W.app 3 (.t (hs _ _ rfl)) rfl (.arr 1 (.t (hs _ _ rfl)) rfl (by first | (simp [AV.okc, shV]; done) | (intro e he; rw [List.mem_singleton.1 he]; rfl))) Try.underlying33 ni33 ty78 rfl rfl (by simp only [List.length_map, List.length_cons, List.length_nil]; omega) rfl ?_; exact h) | (refine W.app 0 (.t (hs _ _ rfl)) rfl (.arr 2 (.t (hs _ _ rfl)) rfl (by first | (simp [AV.okc, shV]; done) | (intro e he; rw [List.mem_singleton.1 he]; rfl))) Try.underlying33 ni33 ty78 rfl rfl (by simp only [List.length_map, List.length_cons, List.length_nil]; omega) rfl ?_; exact h) | (refine W.app 1 (.t (hs _ _ rfl)) rfl (.arr 2 (.t (hs _ _ rfl)) rfl (by first | (simp [AV.okc, shV]; done) | (intro e he; rw [List.mem_singleton.1 he]; rfl))) Try.underlying33 ni33 ty78 rfl rfl (by simp only [List.length_map, List.length_cons, List.length_nil]; omega) rfl ?_; exact h) | (refine W.app 2 (.t (hs _ _ rfl)) rfl (.arr 2 (.t (hs _ _ rfl)) rfl (by first | (simp [AV.okc, shV]; done) | (intro e he; rw [List.mem_singleton.1 he]; rfl))) Try.underlying33 ni33 ty78 rfl rfl (by simp only [List.length_map, List.length_cons, List.length_nil]; omega) rfl ?_; exact h) | (refine W.app 3 (.t (hs _ _ rfl)) rfl (.arr 2 (.t (hs _ _ rfl)) rfl (by first | (simp [AV.okc, shV]; done) | (intro e he; rw [List.mem_singleton.1 he]; rfl))) Try.underlying33 ni33 ty78 rfl rfl (by simp only [List.length_map, List.length_cons, List.length_nil]; omega) rfl ?_; exact h) | (refine W.app 0 (.t (hs _ _ rfl)) rfl (.arr 3 (.t (hs _ _ rfl)) rfl (by first | (simp [AV.okc, shV]; done) | (intro e he; rw [List.mem_singleton.1 he]; rfl))) Try.underlying33 ni33 ty78 rfl rfl (by simp only [List.length_map, List.length_cons, List.length_nil]; omega) rfl ?_; exact h) | (refine W.app 1 (.t (hs _ _ rfl)) rfl (.arr 3 (.t (hs _ _ rfl)) rfl (by first | (simp [AV.okc, shV]; done) | (intro e he; rw [List.mem_singleton.1 he]; rfl))) Try.underlying33 ni33 ty78 rfl rfl (by simp only [List.length_map, List.length_cons, List.length_nil]; omega) rfl ?_; exact h) | (refine W.app 2 (.t (hs _ _ rfl)) rfl (.arr 3 (.t (hs _ _ rfl)) rfl (by first | (simp [AV.okc, shV]; done) | (intro e he; rw [List.mem_singleton.1 he]; rfl))) Try.underlying33 ni33 ty78 rfl rfl (by simp only [List.length_map, List.length_cons, List.length_nil]; omega) rfl ?_; exact h) | (refine W.app 3 (.t (hs _ _ rfl)) rfl (.arr 3 (.t (hs _ _ rfl)) rfl (by first | (simp [AV.okc, shV]; done) | (intro e he; rw [List.mem_singleton.1 he]; rfl))) Try.underlying33 ni33 ty78 rfl rfl (by simp only [List.length_map, List.length_cons, List.length_nil]; omega) rfl ?_; exact h)
            first | refine DE.q (fun e c hk => (Ev.fae (.t rfl) fa72_2 rfl)) rfl (fun _ _ => rfl) (by first | exact .inr (fun _ _ => rfl) | exact .inl (by kernel_rfl)) ?_ | refine DE.q (fun e c hk => (Ev.fab (.t rfl) fa72_2)) rfl (fun _ _ => rfl) (by first | exact .inr (fun _ _ => rfl) | exact .inl (by kernel_rfl)) ?_ | refine DE.q (fun e c hk => (Ev.faa (.t rfl) fa72_2)) rfl (fun _ _ => rfl) (by first | exact .inr (fun _ _ => rfl) | exact .inl (by kernel_rfl)) ?_
            refine DE.eff0 (fun e c hk L_ hs Q h => ?_) ?_
            · have hk_18 := hk.not
              have hk_16 := hk.up 16 (by kernel_rfl)
              simp only [addE, hk_18, hk_16, Nat.reduceEqDiff, ↓reduceIte, cond_true, cond_false] at h ⊢
              refine W.arr_inv 1 rfl (fun a9 n9 c9 h9 => ?_)
              subst h9
              refine W.stb 0 (.t (hs _ _ rfl)) (.t (hs _ _ rfl)) rfl ty33 rfl rfl rfl ?_
              exact h
            refine DE.nil (fun v91 e_ he_ => ?_)
            simp only [he_ 16 (by decide), he_ 18 (by decide), cond_true, cond_false]
            refine W.blk_normal ?_
            refine W.then ?_
            refine W.region ?_
            refine W.q (Ev.move (.t rfl)) rfl ?_
            first | refine W.q (Ev.add (.t rfl) .k (fun _ => by omega)) rfl ?_ | refine W.q (Ev.addw (.t rfl) .k) rfl ?_
            refine W.q (Ev.assign (.t rfl)) rfl ?_
            refine W.nil ?_
            refine W.then ?_
            refine W.reach (D := []) (k + 1, ats ++ [(an, s87)], v91) ⟨rfl, rfl, rfl, rfl, rfl, rfl, rfl, trivial⟩ (by rw [List.map_append]; exact .refl _) ⟨⟨by show k + 1 ≤ 2; omega, by show List.length _ = k + 1; rw [List.length_append, hk2]; rfl, by rw [List.map_append, hk3, hnt]; rfl, fun a ha => by rcases List.mem_append.1 ha with h | h; exact hk4 a h; rw [List.mem_singleton.1 h]; exact m87⟩, by show 2 - (k + 1) < 2 - k; omega⟩
          · refine W.freezeA (M1 := [_, _]) (M2 := [.box b8 72 [.int 1, .str nm, .sl 2 (ats.map dav), .bool (IntKind.i64.wrap (x.tdiv 20) % 2 == 0), .lit (.string ⟨#[]⟩)], _]) (D := []) (v := va) (L' := []) (List.perm_middle (l₁ := [_])) trivial ⟨.box ⟨.refl _, .refl _, .hit, .refl _, .refl _, trivial⟩, .refl _, trivial⟩ ?_
            refine W.seq ?_
            refine W.seq ?_
            refine W.region ?_
            refine W.q (Ev.move (.t rfl)) rfl ?_
            refine W.q (Ev.move (.t rfl)) rfl ?_
            first | refine W.q (Ev.quo (.t rfl) .k (fun _ => by decide)) rfl ?_ | refine W.q (Ev.quo (.t rfl) .k (fun _ => by omega)) rfl ?_
            refine W.callp (Base.c_Picked (IntKind.i64.wrap (x.tdiv 40)) 3 (by decide) (by decide)) ⟨(.t rfl), .k, trivial⟩ rfl ?_
            refine W.q (Ev.lti (.t rfl) (.t rfl)) rfl ?_
            refine W.nil ?_
            refine W.then ?_
            refine W.is (t := 72) (g := true) (av' := .lit (.bool false)) rfl (congrArg (fun b => AV.lit (.bool b)) (by exact decide_eq_false hgek)) ?_
            refine W.condF (.t rfl) ?_
            refine W.exit ?_
            refine W.then_exit ?_
            refine W.then_exit ?_
            refine W.blk_hit ?_
            refine W.blk_normal ?_
            refine W.then ?_
            refine W.region ?_
            refine W.q (Ev.move (.t rfl)) rfl ?_
            first | refine W.q (Ev.lden (.t rfl) ag72 ty72 rfl rfl) rfl ?_ | refine W.q (Ev.ldbn 0 (.t rfl) rfl ag72 ty72 rfl) rfl ?_ | refine W.q (Ev.ldbn 1 (.t rfl) rfl ag72 ty72 rfl) rfl ?_ | refine W.q (Ev.ldbn 2 (.t rfl) rfl ag72 ty72 rfl) rfl ?_ | refine W.q (Ev.ldbn 3 (.t rfl) rfl ag72 ty72 rfl) rfl ?_
            first | refine W.nils (t := 94) (g := true) (cs' := [_, _, .sl 2 [], _, _]) rfl ⟨.inl rfl, .inl rfl, .inr ⟨rfl, 2, rfl⟩, .inl rfl, .inl rfl, trivial⟩ ?_ | skip
            refine W.bs (es := [_]) Try.underlying67 ty72 ⟨rfl, (.t rfl), rfl, rfl, trivial⟩ rfl (by decide) rfl rfl ?_
            first | refine W.app 0 (.t rfl) rfl (.sl (.t rfl) (by first | (simp [AV.okc, shV]; done) | (intro e he; rw [List.mem_singleton.1 he]; rfl))) Try.underlying67 ni67 ty72 rfl rfl (by simp only [List.length_map, List.length_cons, List.length_nil]; omega) rfl ?_ | refine W.app 1 (.t rfl) rfl (.sl (.t rfl) (by first | (simp [AV.okc, shV]; done) | (intro e he; rw [List.mem_singleton.1 he]; rfl))) Try.underlying67 ni67 ty72 rfl rfl (by simp only [List.length_map, List.length_cons, List.length_nil]; omega) rfl ?_ | refine W.app 2 (.t rfl) rfl (.sl (.t rfl) (by first | (simp [AV.okc, shV]; done) | (intro e he; rw [List.mem_singleton.1 he]; rfl))) Try.underlying67 ni67 ty72 rfl rfl (by simp only [List.length_map, List.length_cons, List.length_nil]; omega) rfl ?_ | refine W.app 3 (.t rfl) rfl (.sl (.t rfl) (by first | (simp [AV.okc, shV]; done) | (intro e he; rw [List.mem_singleton.1 he]; rfl))) Try.underlying67 ni67 ty72 rfl rfl (by simp only [List.length_map, List.length_cons, List.length_nil]; omega) rfl ?_ | refine W.app 0 (.t rfl) rfl (.arr 0 (.t rfl) rfl (by first | (simp [AV.okc, shV]; done) | (intro e he; rw [List.mem_singleton.1 he]; rfl))) Try.underlying67 ni67 ty72 rfl rfl (by simp only [List.length_map, List.length_cons, List.length_nil]; omega) rfl ?_ | refine W.app 0 (.t rfl) rfl (.arr 1 (.t rfl) rfl (by first | (simp [AV.okc, shV]; done) | (intro e he; rw [List.mem_singleton.1 he]; rfl))) Try.underlying67 ni67 ty72 rfl rfl (by simp only [List.length_map, List.length_cons, List.length_nil]; omega) rfl ?_ | refine W.app 0 (.t rfl) rfl (.arr 2 (.t rfl) rfl (by first | (simp [AV.okc, shV]; done) | (intro e he; rw [List.mem_singleton.1 he]; rfl))) Try.underlying67 ni67 ty72 rfl rfl (by simp only [List.length_map, List.length_cons, List.length_nil]; omega) rfl ?_ | refine W.app 0 (.t rfl) rfl (.arr 3 (.t rfl) rfl (by first | (simp [AV.okc, shV]; done) | (intro e he; rw [List.mem_singleton.1 he]; rfl))) Try.underlying67 ni67 ty72 rfl rfl (by simp only [List.length_map, List.length_cons, List.length_nil]; omega) rfl ?_ | refine W.app 1 (.t rfl) rfl (.arr 0 (.t rfl) rfl (by first | (simp [AV.okc, shV]; done) | (intro e he; rw [List.mem_singleton.1 he]; rfl))) Try.underlying67 ni67 ty72 rfl rfl (by simp only [List.length_map, List.length_cons, List.length_nil]; omega) rfl ?_ | refine W.app 1 (.t rfl) rfl (.arr 1 (.t rfl) rfl (by first | (simp [AV.okc, shV]; done) | (intro e he; rw [List.mem_singleton.1 he]; rfl))) Try.underlying67 ni67 ty72 rfl rfl (by simp only [List.length_map, List.length_cons, List.length_nil]; omega) rfl ?_ | refine W.app 1 (.t rfl) rfl (.arr 2 (.t rfl) rfl (by first | (simp [AV.okc, shV]; done) | (intro e he; rw [List.mem_singleton.1 he]; rfl))) Try.underlying67 ni67 ty72 rfl rfl (by simp only [List.length_map, List.length_cons, List.length_nil]; omega) rfl ?_ | refine W.app 1 (.t rfl) rfl (.arr 3 (.t rfl) rfl (by first | (simp [AV.okc, shV]; done) | (intro e he; rw [List.mem_singleton.1 he]; rfl))) Try.underlying67 ni67 ty72 rfl rfl (by simp only [List.length_map, List.length_cons, List.length_nil]; omega) rfl ?_ | refine W.app 2 (.t rfl) rfl (.arr 0 (.t rfl) rfl (by first | (simp [AV.okc, shV]; done) | (intro e he; rw [List.mem_singleton.1 he]; rfl))) Try.underlying67 ni67 ty72 rfl rfl (by simp only [List.length_map, List.length_cons, List.length_nil]; omega) rfl ?_ | refine W.app 2 (.t rfl) rfl (.arr 1 (.t rfl) rfl (by first | (simp [AV.okc, shV]; done) | (intro e he; rw [List.mem_singleton.1 he]; rfl))) Try.underlying67 ni67 ty72 rfl rfl (by simp only [List.length_map, List.length_cons, List.length_nil]; omega) rfl ?_ | refine W.app 2 (.t rfl) rfl (.arr 2 (.t rfl) rfl (by first | (simp [AV.okc, shV]; done) | (intro e he; rw [List.mem_singleton.1 he]; rfl))) Try.underlying67 ni67 ty72 rfl rfl (by simp only [List.length_map, List.length_cons, List.length_nil]; omega) rfl ?_ | refine W.app 2 (.t rfl) rfl (.arr 3 (.t rfl) rfl (by first | (simp [AV.okc, shV]; done) | (intro e he; rw [List.mem_singleton.1 he]; rfl))) Try.underlying67 ni67 ty72 rfl rfl (by simp only [List.length_map, List.length_cons, List.length_nil]; omega) rfl ?_ | refine W.app 3 (.t rfl) rfl (.arr 0 (.t rfl) rfl (by first | (simp [AV.okc, shV]; done) | (intro e he; rw [List.mem_singleton.1 he]; rfl))) Try.underlying67 ni67 ty72 rfl rfl (by simp only [List.length_map, List.length_cons, List.length_nil]; omega) rfl ?_ | refine W.app 3 (.t rfl) rfl (.arr 1 (.t rfl) rfl (by first | (simp [AV.okc, shV]; done) | (intro e he; rw [List.mem_singleton.1 he]; rfl))) Try.underlying67 ni67 ty72 rfl rfl (by simp only [List.length_map, List.length_cons, List.length_nil]; omega) rfl ?_ | refine W.app 3 (.t rfl) rfl (.arr 2 (.t rfl) rfl (by first | (simp [AV.okc, shV]; done) | (intro e he; rw [List.mem_singleton.1 he]; rfl))) Try.underlying67 ni67 ty72 rfl rfl (by simp only [List.length_map, List.length_cons, List.length_nil]; omega) rfl ?_ | refine W.app 3 (.t rfl) rfl (.arr 3 (.t rfl) rfl (by first | (simp [AV.okc, shV]; done) | (intro e he; rw [List.mem_singleton.1 he]; rfl))) Try.underlying67 ni67 ty72 rfl rfl (by simp only [List.length_map, List.length_cons, List.length_nil]; omega) rfl ?_
            intro v96
            refine W.q (Ev.assign (.t rfl)) rfl ?_
            refine W.nil ?_
            refine W.blk_normal ?_
            refine W.then ?_
            refine W.region ?_
            refine W.q (Ev.move (.t rfl)) rfl ?_
            first | refine W.q (Ev.add (.t rfl) .k (fun _ => by omega)) rfl ?_ | refine W.q (Ev.addw (.t rfl) .k) rfl ?_
            refine W.q (Ev.assign (.t rfl)) rfl ?_
            refine W.nil ?_
            refine W.then ?_
            first
            | (refine W.reach (D := [_]) (i + 1, ts, v) ⟨rfl, rfl, rfl, rfl, trivial⟩ (List.Perm.swap _ _ []) ⟨⟨by show i + 1 ≤ _; omega, hi2, hi3⟩, by show _ - (i + 1) < _; omega⟩)
            | (refine W.reach (D := [_]) (i + 1, ts ++ [⟨2, nm, [], false, []⟩], v96) ⟨rfl, rfl, rfl, rfl, trivial⟩ (by rw [List.map_append]; exact List.Perm.swap _ _ []) ⟨⟨by show i + 1 ≤ _; omega, Tk.drawns_snoc hi2 (fun (h : (2 : Int) = 3) => absurd h (by decide)) (.inr (.inl ⟨rfl, mnm, rfl, rfl, rfl⟩)), by show List.length _ ≤ n; rw [List.length_append, List.length_singleton]; omega⟩, by show _ - (i + 1) < _; omega⟩)
            | (refine W.reach (D := [_]) (i + 1, ts ++ [⟨3, [], [], false, tx⟩], v96) ⟨rfl, rfl, rfl, rfl, trivial⟩ (by rw [List.map_append]; exact List.Perm.swap _ _ []) ⟨⟨by show i + 1 ≤ _; omega, Tk.drawns_snoc hi2 (fun _ => h53) (.inr (.inr ⟨rfl, rfl, rfl, rfl, mtx⟩)), by show List.length _ ≤ n; rw [List.length_append, List.length_singleton]; omega⟩, by show _ - (i + 1) < _; omega⟩)
            | (refine W.reach (D := [_]) (i + 1, ts ++ [⟨1, nm, ats, IntKind.i64.wrap (x.tdiv 20) % 2 == 0, []⟩], v96) ⟨rfl, rfl, rfl, rfl, trivial⟩ (by rw [List.map_append]; exact List.Perm.swap _ _ []) ⟨⟨by show i + 1 ≤ _; omega, Tk.drawns_snoc hi2 (fun (h : (1 : Int) = 3) => absurd h (by decide)) (.inl ⟨rfl, mnm, ⟨by rw [hk2]; exact hk3, hk4⟩, rfl⟩), by show List.length _ ≤ n; rw [List.length_append, List.length_singleton]; omega⟩, by show _ - (i + 1) < _; omega⟩)
            | (refine W.reach (D := [_]) (i + 1, ts ++ [⟨1, nm, [], false, []⟩], v96) ⟨rfl, rfl, rfl, rfl, trivial⟩ (by rw [List.map_append]; exact List.Perm.swap _ _ []) ⟨⟨by show i + 1 ≤ _; omega, Tk.drawns_snoc hi2 (fun (h : (1 : Int) = 3) => absurd h (by decide)) (.inl ⟨rfl, mnm, ⟨rfl, by simp⟩, rfl⟩), by show List.length _ ≤ n; rw [List.length_append, List.length_singleton]; omega⟩, by show _ - (i + 1) < _; omega⟩)
        · refine W.skip ?_
          refine W.blk_normal ?_
          refine W.then ?_
          refine W.region ?_
          refine W.q (Ev.move (.t rfl)) rfl ?_
          first | refine W.q (Ev.lden (.t rfl) ag72 ty72 rfl rfl) rfl ?_ | refine W.q (Ev.ldbn 0 (.t rfl) rfl ag72 ty72 rfl) rfl ?_ | refine W.q (Ev.ldbn 1 (.t rfl) rfl ag72 ty72 rfl) rfl ?_ | refine W.q (Ev.ldbn 2 (.t rfl) rfl ag72 ty72 rfl) rfl ?_ | refine W.q (Ev.ldbn 3 (.t rfl) rfl ag72 ty72 rfl) rfl ?_
          first | refine W.nils (t := 94) (g := true) (cs' := [_, _, .sl 2 [], _, _]) rfl ⟨.inl rfl, .inl rfl, .inr ⟨rfl, 2, rfl⟩, .inl rfl, .inl rfl, trivial⟩ ?_ | skip
          refine W.bs (es := [_]) Try.underlying67 ty72 ⟨rfl, (.t rfl), rfl, rfl, trivial⟩ rfl (by decide) rfl rfl ?_
          first | refine W.app 0 (.t rfl) rfl (.sl (.t rfl) (by first | (simp [AV.okc, shV]; done) | (intro e he; rw [List.mem_singleton.1 he]; rfl))) Try.underlying67 ni67 ty72 rfl rfl (by simp only [List.length_map, List.length_cons, List.length_nil]; omega) rfl ?_ | refine W.app 1 (.t rfl) rfl (.sl (.t rfl) (by first | (simp [AV.okc, shV]; done) | (intro e he; rw [List.mem_singleton.1 he]; rfl))) Try.underlying67 ni67 ty72 rfl rfl (by simp only [List.length_map, List.length_cons, List.length_nil]; omega) rfl ?_ | refine W.app 2 (.t rfl) rfl (.sl (.t rfl) (by first | (simp [AV.okc, shV]; done) | (intro e he; rw [List.mem_singleton.1 he]; rfl))) Try.underlying67 ni67 ty72 rfl rfl (by simp only [List.length_map, List.length_cons, List.length_nil]; omega) rfl ?_ | refine W.app 3 (.t rfl) rfl (.sl (.t rfl) (by first | (simp [AV.okc, shV]; done) | (intro e he; rw [List.mem_singleton.1 he]; rfl))) Try.underlying67 ni67 ty72 rfl rfl (by simp only [List.length_map, List.length_cons, List.length_nil]; omega) rfl ?_ | refine W.app 0 (.t rfl) rfl (.arr 0 (.t rfl) rfl (by first | (simp [AV.okc, shV]; done) | (intro e he; rw [List.mem_singleton.1 he]; rfl))) Try.underlying67 ni67 ty72 rfl rfl (by simp only [List.length_map, List.length_cons, List.length_nil]; omega) rfl ?_ | refine W.app 0 (.t rfl) rfl (.arr 1 (.t rfl) rfl (by first | (simp [AV.okc, shV]; done) | (intro e he; rw [List.mem_singleton.1 he]; rfl))) Try.underlying67 ni67 ty72 rfl rfl (by simp only [List.length_map, List.length_cons, List.length_nil]; omega) rfl ?_ | refine W.app 0 (.t rfl) rfl (.arr 2 (.t rfl) rfl (by first | (simp [AV.okc, shV]; done) | (intro e he; rw [List.mem_singleton.1 he]; rfl))) Try.underlying67 ni67 ty72 rfl rfl (by simp only [List.length_map, List.length_cons, List.length_nil]; omega) rfl ?_ | refine W.app 0 (.t rfl) rfl (.arr 3 (.t rfl) rfl (by first | (simp [AV.okc, shV]; done) | (intro e he; rw [List.mem_singleton.1 he]; rfl))) Try.underlying67 ni67 ty72 rfl rfl (by simp only [List.length_map, List.length_cons, List.length_nil]; omega) rfl ?_ | refine W.app 1 (.t rfl) rfl (.arr 0 (.t rfl) rfl (by first | (simp [AV.okc, shV]; done) | (intro e he; rw [List.mem_singleton.1 he]; rfl))) Try.underlying67 ni67 ty72 rfl rfl (by simp only [List.length_map, List.length_cons, List.length_nil]; omega) rfl ?_ | refine W.app 1 (.t rfl) rfl (.arr 1 (.t rfl) rfl (by first | (simp [AV.okc, shV]; done) | (intro e he; rw [List.mem_singleton.1 he]; rfl))) Try.underlying67 ni67 ty72 rfl rfl (by simp only [List.length_map, List.length_cons, List.length_nil]; omega) rfl ?_ | refine W.app 1 (.t rfl) rfl (.arr 2 (.t rfl) rfl (by first | (simp [AV.okc, shV]; done) | (intro e he; rw [List.mem_singleton.1 he]; rfl))) Try.underlying67 ni67 ty72 rfl rfl (by simp only [List.length_map, List.length_cons, List.length_nil]; omega) rfl ?_ | refine W.app 1 (.t rfl) rfl (.arr 3 (.t rfl) rfl (by first | (simp [AV.okc, shV]; done) | (intro e he; rw [List.mem_singleton.1 he]; rfl))) Try.underlying67 ni67 ty72 rfl rfl (by simp only [List.length_map, List.length_cons, List.length_nil]; omega) rfl ?_ | refine W.app 2 (.t rfl) rfl (.arr 0 (.t rfl) rfl (by first | (simp [AV.okc, shV]; done) | (intro e he; rw [List.mem_singleton.1 he]; rfl))) Try.underlying67 ni67 ty72 rfl rfl (by simp only [List.length_map, List.length_cons, List.length_nil]; omega) rfl ?_ | refine W.app 2 (.t rfl) rfl (.arr 1 (.t rfl) rfl (by first | (simp [AV.okc, shV]; done) | (intro e he; rw [List.mem_singleton.1 he]; rfl))) Try.underlying67 ni67 ty72 rfl rfl (by simp only [List.length_map, List.length_cons, List.length_nil]; omega) rfl ?_ | refine W.app 2 (.t rfl) rfl (.arr 2 (.t rfl) rfl (by first | (simp [AV.okc, shV]; done) | (intro e he; rw [List.mem_singleton.1 he]; rfl))) Try.underlying67 ni67 ty72 rfl rfl (by simp only [List.length_map, List.length_cons, List.length_nil]; omega) rfl ?_ | refine W.app 2 (.t rfl) rfl (.arr 3 (.t rfl) rfl (by first | (simp [AV.okc, shV]; done) | (intro e he; rw [List.mem_singleton.1 he]; rfl))) Try.underlying67 ni67 ty72 rfl rfl (by simp only [List.length_map, List.length_cons, List.length_nil]; omega) rfl ?_ | refine W.app 3 (.t rfl) rfl (.arr 0 (.t rfl) rfl (by first | (simp [AV.okc, shV]; done) | (intro e he; rw [List.mem_singleton.1 he]; rfl))) Try.underlying67 ni67 ty72 rfl rfl (by simp only [List.length_map, List.length_cons, List.length_nil]; omega) rfl ?_ | refine W.app 3 (.t rfl) rfl (.arr 1 (.t rfl) rfl (by first | (simp [AV.okc, shV]; done) | (intro e he; rw [List.mem_singleton.1 he]; rfl))) Try.underlying67 ni67 ty72 rfl rfl (by simp only [List.length_map, List.length_cons, List.length_nil]; omega) rfl ?_ | refine W.app 3 (.t rfl) rfl (.arr 2 (.t rfl) rfl (by first | (simp [AV.okc, shV]; done) | (intro e he; rw [List.mem_singleton.1 he]; rfl))) Try.underlying67 ni67 ty72 rfl rfl (by simp only [List.length_map, List.length_cons, List.length_nil]; omega) rfl ?_ | refine W.app 3 (.t rfl) rfl (.arr 3 (.t rfl) rfl (by first | (simp [AV.okc, shV]; done) | (intro e he; rw [List.mem_singleton.1 he]; rfl))) Try.underlying67 ni67 ty72 rfl rfl (by simp only [List.length_map, List.length_cons, List.length_nil]; omega) rfl ?_
          intro v96
          refine W.q (Ev.assign (.t rfl)) rfl ?_
          refine W.nil ?_
          refine W.blk_normal ?_
          refine W.then ?_
          refine W.region ?_
          refine W.q (Ev.move (.t rfl)) rfl ?_
          first | refine W.q (Ev.add (.t rfl) .k (fun _ => by omega)) rfl ?_ | refine W.q (Ev.addw (.t rfl) .k) rfl ?_
          refine W.q (Ev.assign (.t rfl)) rfl ?_
          refine W.nil ?_
          refine W.then ?_
          first
          | (refine W.reach (D := [_]) (i + 1, ts, v) ⟨rfl, rfl, rfl, rfl, trivial⟩ (List.Perm.swap _ _ []) ⟨⟨by show i + 1 ≤ _; omega, hi2, hi3⟩, by show _ - (i + 1) < _; omega⟩)
          | (refine W.reach (D := [_]) (i + 1, ts ++ [⟨2, nm, [], false, []⟩], v96) ⟨rfl, rfl, rfl, rfl, trivial⟩ (by rw [List.map_append]; exact List.Perm.swap _ _ []) ⟨⟨by show i + 1 ≤ _; omega, Tk.drawns_snoc hi2 (fun (h : (2 : Int) = 3) => absurd h (by decide)) (.inr (.inl ⟨rfl, mnm, rfl, rfl, rfl⟩)), by show List.length _ ≤ n; rw [List.length_append, List.length_singleton]; omega⟩, by show _ - (i + 1) < _; omega⟩)
          | (refine W.reach (D := [_]) (i + 1, ts ++ [⟨3, [], [], false, tx⟩], v96) ⟨rfl, rfl, rfl, rfl, trivial⟩ (by rw [List.map_append]; exact List.Perm.swap _ _ []) ⟨⟨by show i + 1 ≤ _; omega, Tk.drawns_snoc hi2 (fun _ => h53) (.inr (.inr ⟨rfl, rfl, rfl, rfl, mtx⟩)), by show List.length _ ≤ n; rw [List.length_append, List.length_singleton]; omega⟩, by show _ - (i + 1) < _; omega⟩)
          | (refine W.reach (D := [_]) (i + 1, ts ++ [⟨1, nm, ats, IntKind.i64.wrap (x.tdiv 20) % 2 == 0, []⟩], v96) ⟨rfl, rfl, rfl, rfl, trivial⟩ (by rw [List.map_append]; exact List.Perm.swap _ _ []) ⟨⟨by show i + 1 ≤ _; omega, Tk.drawns_snoc hi2 (fun (h : (1 : Int) = 3) => absurd h (by decide)) (.inl ⟨rfl, mnm, ⟨by rw [hk2]; exact hk3, hk4⟩, rfl⟩), by show List.length _ ≤ n; rw [List.length_append, List.length_singleton]; omega⟩, by show _ - (i + 1) < _; omega⟩)
          | (refine W.reach (D := [_]) (i + 1, ts ++ [⟨1, nm, [], false, []⟩], v96) ⟨rfl, rfl, rfl, rfl, trivial⟩ (by rw [List.map_append]; exact List.Perm.swap _ _ []) ⟨⟨by show i + 1 ≤ _; omega, Tk.drawns_snoc hi2 (fun (h : (1 : Int) = 3) => absurd h (by decide)) (.inl ⟨rfl, mnm, ⟨rfl, by simp⟩, rfl⟩), by show List.length _ ≤ n; rw [List.length_append, List.length_singleton]; omega⟩, by show _ - (i + 1) < _; omega⟩)
  · skip
    refine W.seq ?_
    refine W.seq ?_
    refine W.region ?_
    refine W.q (Ev.move (.t rfl)) rfl ?_
    refine W.q (Ev.move (.t rfl)) rfl ?_
    first | refine W.q (Ev.lensl (.t rfl) Try.underlying22) rfl ?_ | refine W.q (Ev.lenar (i := 0) (.t rfl) rfl Try.underlying22) rfl ?_ | refine W.q (Ev.lenar (i := 1) (.t rfl) rfl Try.underlying22) rfl ?_ | refine W.q (Ev.lenar (i := 2) (.t rfl) rfl Try.underlying22) rfl ?_ | refine W.q (Ev.lenar (i := 3) (.t rfl) rfl Try.underlying22) rfl ?_
    refine W.q (Ev.lti (.t rfl) (.t rfl)) rfl ?_
    refine W.q (Ev.move (.t rfl)) rfl ?_
    refine W.qgT rfl rfl (Ev.move (.t rfl)) rfl ?_
    first | refine W.qgT rfl rfl (Ev.lensl (.c rfl) Try.underlying67) rfl ?_ | refine W.qgT rfl rfl (Ev.lenar (i := 0) (.c rfl) rfl Try.underlying67) rfl ?_ | refine W.qgT rfl rfl (Ev.lenar (i := 1) (.c rfl) rfl Try.underlying67) rfl ?_ | refine W.qgT rfl rfl (Ev.lenar (i := 2) (.c rfl) rfl Try.underlying67) rfl ?_ | refine W.qgT rfl rfl (Ev.lenar (i := 3) (.c rfl) rfl Try.underlying67) rfl ?_
    refine W.qgT rfl rfl (Ev.move (.t rfl)) rfl ?_
    refine W.qgT rfl rfl (Ev.lti (.c rfl) (.c rfl)) rfl ?_
    refine W.q (Ev.and (.t rfl) ⟨_, _, rfl, rfl, by first | (simp; done) | (intro hg_ hp_; simp [hp_]; done) | (simp <;> omega; done) | (simp_all; done) | grind⟩) rfl ?_
    refine W.nil ?_
    refine W.then ?_
    refine W.is (t := 20) (g := true) (av' := .lit (.bool false)) rfl (congrArg (fun b => AV.lit (.bool b)) (by simp; omega)) ?_
    refine W.condF (.t rfl) ?_
    refine W.exit ?_
    refine W.then_exit ?_
    refine W.then_exit ?_
    refine W.blk_hit ?_
    refine W.then ?_
    refine W.seq ?_
    refine W.region ?_
    refine W.q (Ev.move (.t rfl)) rfl ?_
    refine W.q (Ev.assign (.t rfl)) rfl ?_
    refine W.nil ?_
    refine W.then ?_
    refine W.ret ?_
    refine W.retn (M' := [.arr v 72 5 _]) (rs := [.tmp 4]) (avs := [_]) Try.results34 ⟨rfl, trivial⟩ rfl (.refl _) ?_
    exact ⟨v, ts, rfl, rfl, hi2, hi3⟩

end WTokens

end Go.Proofs.Yteepllfbnoaiaaa
