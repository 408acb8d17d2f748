/-
  Changes are played.
-/
import Derived.Test.YteepllfbnoaiaaaChange
import Derived.Test.YteepllfbnoaiaaaPick
import Derived.Test.YteepllfbnoaiaaaBase
import Derived.Test.YteepllfbnoaiaaaWCopyAll
import Derived.Test.YteepllfbnoaiaaaWCopies
set_option linter.unusedVariables false
set_option linter.unusedSimpArgs false
set_option maxRecDepth 100000
namespace Go.Proofs.Yteepllfbnoaiaaa
open Go.Vl

namespace WPlay
theorem ty3 : Ty Try.prog 3 1 8 (.int .i64 0) := Ty.of (by kernel_rfl)
theorem ty22 : Ty Try.prog 22 1 24 (.slice none 0 0) := Ty.of (by kernel_rfl)
theorem ty35 : Ty Try.prog 35 4 80 (.agg #[.string ⟨#[]⟩, .slice none 0 0, .string ⟨#[]⟩, .slice none 0 0]) := Ty.of (by kernel_rfl)
theorem ty61 : Ty Try.prog 61 6 112 (.agg #[.int .i64 0, .slice none 0 0, .string ⟨#[]⟩, .slice none 0 0, .string ⟨#[]⟩, .slice none 0 0]) := Ty.of (by kernel_rfl)
theorem ag3 : IsAgg Try.prog 3 false := ⟨_, Try.underlying3, rfl⟩
theorem ag22 : IsAgg Try.prog 22 false := ⟨_, Try.underlying22, rfl⟩
theorem ag35 : IsAgg Try.prog 35 true := ⟨_, Try.underlying35, rfl⟩
theorem ag61 : IsAgg Try.prog 61 true := ⟨_, Try.underlying61, rfl⟩
theorem fa61_0 : FieldAt Try.prog 61 0 0 1 false := ⟨_, _, Try.underlying61, rfl, rfl, ty3.size, ag3, by decide⟩
theorem fa61_1 : FieldAt Try.prog 61 1 1 1 false := ⟨_, _, Try.underlying61, rfl, rfl, ty22.size, ag22, by decide⟩
theorem fa61_2 : FieldAt Try.prog 61 2 2 4 true := ⟨_, _, Try.underlying61, rfl, rfl, ty35.size, ag35, by decide⟩
theorem ni56 : NotInt Try.prog 56 := .inl ⟨_, Try.underlying56⟩
theorem c_play (cs : List Ch) (ts : Nat → List Nd) (bk : Nat → Ch) (hcs : cs.length ≤ 40) (hk : ∀ q ∈ cs, q.kind = 1 ∨ q.kind = 3) (hst : ∀ i, i < cs.length → FnP Try.prog 58 [.sl 4 ((ts i).map Nd.av), cav (cs.getD i Ch.dfl), .sl 1 ((cs.getD i Ch.dfl).path.map AV.int)] (.tup [.sl 4 ((ts (i + 1)).map Nd.av), cav (bk i), .int 0])) (hz : Nd.szs (ts cs.length) ≤ 16777216) : FnP Try.prog 42 [.sl 4 ((ts 0).map Nd.av), .sl 6 (cs.map cav)] (.tup [.sl 4 ((ts cs.length).map Nd.av), .sl 6 ((List.range cs.length).map fun j => cav (bk j)), .int 0]) :=  by
  refine FnC.mk Try.func42 (by kernel_rfl) rfl Try.ntmps42 rfl (fun w0 F => ?_)
  have hcl : (cs.map cav).length = cs.length := List.length_map ..
  refine W.seq ?_
  refine W.region ?_
  refine W.q (Ev.assign .k) rfl ?_
  refine W.q (Ev.assign .k) rfl ?_
  refine W.q (Ev.assign .k) rfl ?_
  refine W.nil ?_
  refine W.then ?_
  refine W.seq ?_
  refine W.seq ?_
  refine W.region ?_
  refine W.q (Ev.move (.t rfl)) rfl ?_
  first | refine W.q (Ev.lensl (.t rfl) Try.underlying56) rfl ?_ | refine W.q (Ev.lenar (i := 0) (.t rfl) rfl Try.underlying56) rfl ?_ | refine W.q (Ev.lenar (i := 1) (.t rfl) rfl Try.underlying56) rfl ?_ | refine W.q (Ev.lenar (i := 2) (.t rfl) rfl Try.underlying56) rfl ?_ | refine W.q (Ev.lenar (i := 3) (.t rfl) rfl Try.underlying56) rfl ?_
  refine W.q (Ev.gti (.t rfl) .k) rfl ?_
  refine W.nil ?_
  refine W.then ?_
  refine W.is (t := 15) (g := true) (av' := .lit (.bool false)) rfl (congrArg (fun b => AV.lit (.bool b)) (by exact decide_eq_false (by omega))) ?_
  refine W.condF (.t rfl) ?_
  refine W.skip ?_
  refine W.then ?_
  refine W.seq ?_
  refine W.region ?_
  refine W.q (Ev.assign .k) rfl ?_
  refine W.nil ?_
  refine W.then ?_
  refine W.seq ?_
  refine W.seq ?_
  refine W.region ?_
  refine W.q (Ev.move (.t rfl)) rfl ?_
  first | refine W.q (Ev.lensl (.t rfl) Try.underlying56) rfl ?_ | refine W.q (Ev.lenar (i := 0) (.t rfl) rfl Try.underlying56) rfl ?_ | refine W.q (Ev.lenar (i := 1) (.t rfl) rfl Try.underlying56) rfl ?_ | refine W.q (Ev.lenar (i := 2) (.t rfl) rfl Try.underlying56) rfl ?_ | refine W.q (Ev.lenar (i := 3) (.t rfl) rfl Try.underlying56) rfl ?_
  refine W.q (Ev.move .k) rfl ?_
  refine W.nil ?_
  refine W.then ?_
  refine W.block ?_
  refine W.own_nil 61 6 ?_
  refine W.loop (D := []) (ι := Nat × Value) (fun z => [(18, true, .int (z.1 : Int)), (17, true, .int ((cs.map cav).length : Int)), (16, true, .sl 6 (cs.map cav)), (0, true, .sl 4 ((ts z.1).map Nd.av)), (7, true, .lit z.2)]) (fun z => [.arr z.2 61 6 ((List.range z.1).map fun j => cav (bk j))]) (fun z => z.1 ≤ cs.length) (fun z => cs.length - z.1) (0, .slice none 0 0) ⟨rfl, rfl, rfl, rfl, rfl, trivial⟩ (.refl _) (Nat.zero_le _) ?_
  rintro ⟨i, v⟩ hi
  dsimp only at hi ⊢
  rcases (show i < cs.length ∨ i = cs.length from by omega) with hlt | hend
  · have hga := getD_mapG cav Ch.dfl cs i hlt
    have hki := hk _ (getD_memG Ch.dfl cs i hlt)
    have hsi := hst i hlt
    have hsn : ((List.range (i + 1)).map fun j => cav (bk j)) = ((List.range i).map fun j => cav (bk j)) ++ [cav (bk i)] := by rw [List.range_succ, List.map_append]; rfl
    generalize cs.getD i Ch.dfl = ch at hga hki hsi
    refine W.seq ?_
    refine W.region ?_
    refine W.q (Ev.lti (.t rfl) (.t rfl)) rfl ?_
    refine W.nil ?_
    refine W.then ?_
    refine W.seq ?_
    refine W.is (t := 19) (g := true) (av' := .lit (.bool true)) rfl (congrArg (fun b => AV.lit (.bool b)) (by exact decide_eq_true (by omega))) ?_
    refine W.condT (.t rfl) ?_
    refine W.skip ?_
    refine W.then ?_
    refine W.seq ?_
    refine W.block ?_
    refine W.seq ?_
    refine W.region ?_
    refine W.q (Ev.at (E := 61) (.t rfl) (.t rfl) Try.underlying56 ty61 (fun _ => ⟨by omega, hga⟩) rfl rfl) rfl ?_
    first | refine W.q (Ev.lden (.t rfl) ag61 ty61 rfl rfl) rfl ?_ | refine W.q (Ev.ldbn 0 (.t rfl) rfl ag61 ty61 rfl) rfl ?_ | refine W.q (Ev.ldbn 1 (.t rfl) rfl ag61 ty61 rfl) rfl ?_ | refine W.q (Ev.ldbn 2 (.t rfl) rfl ag61 ty61 rfl) rfl ?_ | refine W.q (Ev.ldbn 3 (.t rfl) rfl ag61 ty61 rfl) rfl ?_
    refine W.alloc ty61 rfl rfl ?_
    intro b9
    first | refine W.stb 0 (.t rfl) (.t rfl) rfl ty61 rfl rfl rfl ?_ | refine W.stb 1 (.t rfl) (.t rfl) rfl ty61 rfl rfl rfl ?_ | refine W.stb 2 (.t rfl) (.t rfl) rfl ty61 rfl rfl rfl ?_ | refine W.stb 3 (.t rfl) (.t rfl) rfl ty61 rfl rfl rfl ?_
    refine W.nil ?_
    refine W.then ?_
    refine W.seq ?_
    refine W.block ?_
    refine W.seq ?_
    refine W.region ?_
    first | refine W.q (Ev.fae (.t rfl) fa61_0 rfl) rfl ?_ | refine W.q (Ev.fab (.t rfl) fa61_0) rfl ?_ | refine W.q (Ev.faa (.t rfl) fa61_0) rfl ?_
    first | refine W.q (Ev.lde1 (.t rfl) ag3) rfl ?_ | refine W.q (Ev.ldb1 0 (.t rfl) rfl ag3 rfl) rfl ?_ | refine W.q (Ev.ldb1 1 (.t rfl) rfl ag3 rfl) rfl ?_ | refine W.q (Ev.ldb1 2 (.t rfl) rfl ag3 rfl) rfl ?_ | refine W.q (Ev.ldb1 3 (.t rfl) rfl ag3 rfl) rfl ?_
    refine W.q (Ev.lti (.t rfl) .k) rfl ?_
    refine W.q (Ev.move (.t rfl)) rfl ?_
    first | refine W.qgF rfl rfl (Ev.fae (.t rfl) fa61_0 rfl) rfl ?_ | refine W.qgF rfl rfl (Ev.fab (.t rfl) fa61_0) rfl ?_ | refine W.qgF rfl rfl (Ev.faa (.t rfl) fa61_0) rfl ?_
    first | refine W.qgF rfl rfl (Ev.lde1 (.c rfl) ag3) rfl ?_ | refine W.qgF rfl rfl (Ev.ldb1 0 (.c rfl) rfl ag3 rfl) rfl ?_ | refine W.qgF rfl rfl (Ev.ldb1 1 (.c rfl) rfl ag3 rfl) rfl ?_ | refine W.qgF rfl rfl (Ev.ldb1 2 (.c rfl) rfl ag3 rfl) rfl ?_ | refine W.qgF rfl rfl (Ev.ldb1 3 (.c rfl) rfl ag3 rfl) rfl ?_
    refine W.qgF rfl rfl (Ev.gti (.c rfl) .k) rfl ?_
    refine W.q (Ev.or (.t rfl) ⟨_, _, rfl, rfl, by first | (simp; done) | (intro hg_ hp_; simp [hp_]; done) | (simp <;> omega; done) | (simp_all; done) | grind⟩) rfl ?_
    refine W.q (Ev.assign (.t rfl)) rfl ?_
    refine W.nil ?_
    refine W.then ?_
    refine W.is (t := 22) (g := true) (av' := .lit (.bool false)) rfl (congrArg (fun b => AV.lit (.bool b)) (by rcases hki with h | h <;> simp [h])) ?_
    refine W.condF (.t rfl) ?_
    refine W.seq ?_
    refine W.region ?_
    first | refine W.q (Ev.fae (.t rfl) fa61_0 rfl) rfl ?_ | refine W.q (Ev.fab (.t rfl) fa61_0) rfl ?_ | refine W.q (Ev.faa (.t rfl) fa61_0) rfl ?_
    first | refine W.q (Ev.lde1 (.t rfl) ag3) rfl ?_ | refine W.q (Ev.ldb1 0 (.t rfl) rfl ag3 rfl) rfl ?_ | refine W.q (Ev.ldb1 1 (.t rfl) rfl ag3 rfl) rfl ?_ | refine W.q (Ev.ldb1 2 (.t rfl) rfl ag3 rfl) rfl ?_ | refine W.q (Ev.ldb1 3 (.t rfl) rfl ag3 rfl) rfl ?_
    refine W.q (Ev.eqi (.t rfl) .k) rfl ?_
    refine W.q (Ev.move (.t rfl)) rfl ?_
    first | refine W.qgT rfl rfl (Ev.fae (.t rfl) fa61_2 rfl) rfl ?_ | refine W.qgT rfl rfl (Ev.fab (.t rfl) fa61_2) rfl ?_ | refine W.qgT rfl rfl (Ev.faa (.t rfl) fa61_2) rfl ?_
    first | refine W.qgT rfl rfl (Ev.lden (.c rfl) ag35 ty35 rfl rfl) rfl ?_ | refine W.qgT rfl rfl (Ev.ldbn 0 (.c rfl) rfl ag35 ty35 rfl) rfl ?_ | refine W.qgT rfl rfl (Ev.ldbn 1 (.c rfl) rfl ag35 ty35 rfl) rfl ?_ | refine W.qgT rfl rfl (Ev.ldbn 2 (.c rfl) rfl ag35 ty35 rfl) rfl ?_ | refine W.qgT rfl rfl (Ev.ldbn 3 (.c rfl) rfl ag35 ty35 rfl) rfl ?_
    refine W.callgT (Min := []) (caps := []) (avs := [_]) rfl rfl (fun hg => WCopyAll.c_empty ch.node) (fun hg => .f) (fun hg => ⟨(.i rfl (fun _ => hg)), trivial⟩) rfl (.refl _) rfl ?_
    refine W.qgT rfl rfl (Ev.not (.c rfl)) rfl ?_
    refine W.q (Ev.and (.t rfl) ⟨_, _, rfl, rfl, by first | (simp; done) | (intro hg_ hp_; simp [hp_]; done) | (simp <;> omega; done) | (simp_all; done) | grind⟩) rfl ?_
    refine W.q (Ev.assign (.t rfl)) rfl ?_
    refine W.nil ?_
    refine W.then ?_
    refine W.is (t := 31) (g := true) (av' := .lit (.bool false)) rfl (congrArg (fun b => AV.lit (.bool b)) (by rcases hki with h | h <;> simp [h])) ?_
    refine W.condF (.t rfl) ?_
    refine W.skip ?_
    refine W.blk_normal ?_
    refine W.then ?_
    refine W.seq ?_
    refine W.region ?_
    refine W.q (Ev.move (.t rfl)) rfl ?_
    first | refine W.q (Ev.lden (.t rfl) ag61 ty61 rfl rfl) rfl ?_ | refine W.q (Ev.ldbn 0 (.t rfl) rfl ag61 ty61 rfl) rfl ?_ | refine W.q (Ev.ldbn 1 (.t rfl) rfl ag61 ty61 rfl) rfl ?_ | refine W.q (Ev.ldbn 2 (.t rfl) rfl ag61 ty61 rfl) rfl ?_ | refine W.q (Ev.ldbn 3 (.t rfl) rfl ag61 ty61 rfl) rfl ?_
    first | refine W.q (Ev.fae (.t rfl) fa61_1 rfl) rfl ?_ | refine W.q (Ev.fab (.t rfl) fa61_1) rfl ?_ | refine W.q (Ev.faa (.t rfl) fa61_1) rfl ?_
    first | refine W.q (Ev.lde1 (.t rfl) ag22) rfl ?_ | refine W.q (Ev.ldb1 0 (.t rfl) rfl ag22 rfl) rfl ?_ | refine W.q (Ev.ldb1 1 (.t rfl) rfl ag22 rfl) rfl ?_ | refine W.q (Ev.ldb1 2 (.t rfl) rfl ag22 rfl) rfl ?_ | refine W.q (Ev.ldb1 3 (.t rfl) rfl ag22 rfl) rfl ?_
    refine W.callp (hsi) ⟨(.t rfl), (.t rfl), (.t rfl), trivial⟩ rfl ?_
    refine W.q (Ev.move (.t rfl)) rfl ?_
    refine W.q (Ev.extract (.t rfl) rfl) rfl ?_
    refine W.q (Ev.extract (.t rfl) rfl) rfl ?_
    refine W.q (Ev.extract (.t rfl) rfl) rfl ?_
    refine W.alloc ty61 rfl rfl ?_
    intro b11
    refine W.q (Ev.assign (.t rfl)) rfl ?_
    first | refine W.stb 0 (.t rfl) (.t rfl) rfl ty61 rfl rfl rfl ?_ | refine W.stb 1 (.t rfl) (.t rfl) rfl ty61 rfl rfl rfl ?_ | refine W.stb 2 (.t rfl) (.t rfl) rfl ty61 rfl rfl rfl ?_ | refine W.stb 3 (.t rfl) (.t rfl) rfl ty61 rfl rfl rfl ?_
    refine W.q (Ev.assign (.t rfl)) rfl ?_
    refine W.nil ?_
    refine W.then ?_
    refine W.seq ?_
    refine W.seq ?_
    refine W.region ?_
    refine W.q (Ev.move (.t rfl)) rfl ?_
    refine W.q (Ev.nei (.t rfl) .k) rfl ?_
    refine W.nil ?_
    refine W.then ?_
    refine W.is (t := 51) (g := true) (av' := .lit (.bool false)) rfl (congrArg (fun b => AV.lit (.bool b)) (by rfl)) ?_
    refine W.condF (.t rfl) ?_
    refine W.skip ?_
    refine W.then ?_
    refine W.seq ?_
    refine W.region ?_
    refine W.q (Ev.move (.t rfl)) rfl ?_
    refine W.q (Ev.assign (.t rfl)) rfl ?_
    refine W.nil ?_
    refine W.then ?_
    refine W.region ?_
    refine W.q (Ev.move (.t rfl)) rfl ?_
    first | refine W.q (Ev.lden (.t rfl) ag61 ty61 rfl rfl) rfl ?_ | refine W.q (Ev.ldbn 0 (.t rfl) rfl ag61 ty61 rfl) rfl ?_ | refine W.q (Ev.ldbn 1 (.t rfl) rfl ag61 ty61 rfl) rfl ?_ | refine W.q (Ev.ldbn 2 (.t rfl) rfl ag61 ty61 rfl) rfl ?_ | refine W.q (Ev.ldbn 3 (.t rfl) rfl ag61 ty61 rfl) rfl ?_
    refine W.bs (es := [_]) Try.underlying56 ty61 ⟨rfl, (.t rfl), rfl, rfl, trivial⟩ rfl (by decide) rfl rfl ?_
    first | refine W.app 0 (.t rfl) rfl (.sl (.t rfl) (by first | (simp [AV.okc, shV]; done) | (intro e he; rw [List.mem_singleton.1 he]; rfl))) Try.underlying56 ni56 ty61 rfl rfl (by simp only [List.length_map, List.length_range, List.length_cons, List.length_nil]; omega) rfl ?_ | refine W.app 1 (.t rfl) rfl (.sl (.t rfl) (by first | (simp [AV.okc, shV]; done) | (intro e he; rw [List.mem_singleton.1 he]; rfl))) Try.underlying56 ni56 ty61 rfl rfl (by simp only [List.length_map, List.length_range, List.length_cons, List.length_nil]; omega) rfl ?_ | refine W.app 2 (.t rfl) rfl (.sl (.t rfl) (by first | (simp [AV.okc, shV]; done) | (intro e he; rw [List.mem_singleton.1 he]; rfl))) Try.underlying56 ni56 ty61 rfl rfl (by simp only [List.length_map, List.length_range, List.length_cons, List.length_nil]; omega) rfl ?_ | refine W.app 3 (.t rfl) rfl (.sl (.t rfl) (by first | (simp [AV.okc, shV]; done) | (intro e he; rw [List.mem_singleton.1 he]; rfl))) Try.underlying56 ni56 ty61 rfl rfl (by simp only [List.length_map, List.length_range, List.length_cons, List.length_nil]; omega) rfl ?_ | refine W.app 0 (.t rfl) rfl (.arr 0 (.t rfl) rfl (by first | (simp [AV.okc, shV]; done) | (intro e he; rw [List.mem_singleton.1 he]; rfl))) Try.underlying56 ni56 ty61 rfl rfl (by simp only [List.length_map, List.length_range, List.length_cons, List.length_nil]; omega) rfl ?_ | refine W.app 0 (.t rfl) rfl (.arr 1 (.t rfl) rfl (by first | (simp [AV.okc, shV]; done) | (intro e he; rw [List.mem_singleton.1 he]; rfl))) Try.underlying56 ni56 ty61 rfl rfl (by simp only [List.length_map, List.length_range, List.length_cons, List.length_nil]; omega) rfl ?_ | refine W.app 0 (.t rfl) rfl (.arr 2 (.t rfl) rfl (by first | (simp [AV.okc, shV]; done) | (intro e he; rw [List.mem_singleton.1 he]; rfl))) Try.underlying56 ni56 ty61 rfl rfl (by simp only [List.length_map, List.length_range, List.length_cons, List.length_nil]; omega) rfl ?_ | refine W.app 0 (.t rfl) rfl (.arr 3 (.t rfl) rfl (by first | (simp [AV.okc, shV]; done) | (intro e he; rw [List.mem_singleton.1 he]; rfl))) Try.underlying56 ni56 ty61 rfl rfl (by simp only [List.length_map, List.length_range, List.length_cons, List.length_nil]; omega) rfl ?_ | refine W.app 1 (.t rfl) rfl (.arr 0 (.t rfl) rfl (by first | (simp [AV.okc, shV]; done) | (intro e he; rw [List.mem_singleton.1 he]; rfl))) Try.underlying56 ni56 ty61 rfl rfl (by simp only [List.length_map, List.length_range, List.length_cons, List.length_nil]; omega) rfl ?_ | refine W.app 1 (.t rfl) rfl (.arr 1 (.t rfl) rfl (by first | (simp [AV.okc, shV]; done) | (intro e he; rw [List.mem_singleton.1 he]; rfl))) Try.underlying56 ni56 ty61 rfl rfl (by simp only [List.length_map, List.length_range, List.length_cons, List.length_nil]; omega) rfl ?_ | refine W.app 1 (.t rfl) rfl (.arr 2 (.t rfl) rfl (by first | (simp [AV.okc, shV]; done) | (intro e he; rw [List.mem_singleton.1 he]; rfl))) Try.underlying56 ni56 ty61 rfl rfl (by simp only [List.length_map, List.length_range, List.length_cons, List.length_nil]; omega) rfl ?_ | refine W.app 1 (.t rfl) rfl (.arr 3 (.t rfl) rfl (by first | (simp [AV.okc, shV]; done) | (intro e he; rw [List.mem_singleton.1 he]; rfl))) Try.underlying56 ni56 ty61 rfl rfl (by simp only [List.length_map, List.length_range, List.length_cons, List.length_nil]; omega) rfl ?_ | refine W.app 2 (.t rfl) rfl (.arr 0 (.t rfl) rfl (by first | (simp [AV.okc, shV]; done) | (intro e he; rw [List.mem_singleton.1 he]; rfl))) Try.underlying56 ni56 ty61 rfl rfl (by simp only [List.length_map, List.length_range, List.length_cons, List.length_nil]; omega) rfl ?_ | refine W.app 2 (.t rfl) rfl (.arr 1 (.t rfl) rfl (by first | (simp [AV.okc, shV]; done) | (intro e he; rw [List.mem_singleton.1 he]; rfl))) Try.underlying56 ni56 ty61 rfl rfl (by simp only [List.length_map, List.length_range, List.length_cons, List.length_nil]; omega) rfl ?_ | refine W.app 2 (.t rfl) rfl (.arr 2 (.t rfl) rfl (by first | (simp [AV.okc, shV]; done) | (intro e he; rw [List.mem_singleton.1 he]; rfl))) Try.underlying56 ni56 ty61 rfl rfl (by simp only [List.length_map, List.length_range, List.length_cons, List.length_nil]; omega) rfl ?_ | refine W.app 2 (.t rfl) rfl (.arr 3 (.t rfl) rfl (by first | (simp [AV.okc, shV]; done) | (intro e he; rw [List.mem_singleton.1 he]; rfl))) Try.underlying56 ni56 ty61 rfl rfl (by simp only [List.length_map, List.length_range, List.length_cons, List.length_nil]; omega) rfl ?_ | refine W.app 3 (.t rfl) rfl (.arr 0 (.t rfl) rfl (by first | (simp [AV.okc, shV]; done) | (intro e he; rw [List.mem_singleton.1 he]; rfl))) Try.underlying56 ni56 ty61 rfl rfl (by simp only [List.length_map, List.length_range, List.length_cons, List.length_nil]; omega) rfl ?_ | refine W.app 3 (.t rfl) rfl (.arr 1 (.t rfl) rfl (by first | (simp [AV.okc, shV]; done) | (intro e he; rw [List.mem_singleton.1 he]; rfl))) Try.underlying56 ni56 ty61 rfl rfl (by simp only [List.length_map, List.length_range, List.length_cons, List.length_nil]; omega) rfl ?_ | refine W.app 3 (.t rfl) rfl (.arr 2 (.t rfl) rfl (by first | (simp [AV.okc, shV]; done) | (intro e he; rw [List.mem_singleton.1 he]; rfl))) Try.underlying56 ni56 ty61 rfl rfl (by simp only [List.length_map, List.length_range, List.length_cons, List.length_nil]; omega) rfl ?_ | refine W.app 3 (.t rfl) rfl (.arr 3 (.t rfl) rfl (by first | (simp [AV.okc, shV]; done) | (intro e he; rw [List.mem_singleton.1 he]; rfl))) Try.underlying56 ni56 ty61 rfl rfl (by simp only [List.length_map, List.length_range, List.length_cons, List.length_nil]; omega) rfl ?_
    intro v57
    refine W.q (Ev.assign (.t rfl)) rfl ?_
    refine W.nil ?_
    refine W.blk_normal ?_
    refine W.then ?_
    refine W.region ?_
    first | refine W.q (Ev.add (.t rfl) .k (fun _ => by omega)) rfl ?_ | refine W.q (Ev.addw (.t rfl) .k) rfl ?_
    refine W.q (Ev.move (.t rfl)) rfl ?_
    refine W.nil ?_
    refine W.then ?_
    refine W.reach (D := _) (i + 1, v57) ⟨rfl, rfl, rfl, rfl, rfl, trivial⟩ (by rw [hsn] <;> exact List.perm_append_comm (l₁ := [_, _])) ⟨by show i + 1 ≤ _; omega, by show _ - (i + 1) < _; omega⟩
  · subst hend
    refine W.seq ?_
    refine W.region ?_
    refine W.q (Ev.lti (.t rfl) (.t rfl)) rfl ?_
    refine W.nil ?_
    refine W.then ?_
    refine W.seq ?_
    refine W.is (t := 19) (g := true) (av' := .lit (.bool false)) rfl (congrArg (fun b => AV.lit (.bool b)) (by exact decide_eq_false (by omega))) ?_
    refine W.condF (.t rfl) ?_
    refine W.exit ?_
    refine W.then_exit ?_
    refine W.then_exit ?_
    refine W.blk_hit ?_
    refine W.then ?_
    refine W.seq ?_
    refine W.region ?_
    refine W.q (Ev.move (.t rfl)) rfl ?_
    refine W.callp (WCopies.c_copies (ts cs.length) hz) ⟨(.t rfl), trivial⟩ rfl ?_
    refine W.q (Ev.move (.t rfl)) rfl ?_
    refine W.q (Ev.assign (.t rfl)) rfl ?_
    refine W.q (Ev.assign (.t rfl)) rfl ?_
    refine W.q (Ev.assign .k) rfl ?_
    refine W.nil ?_
    refine W.then ?_
    refine W.ret ?_
    refine W.freezeA (M1 := []) (M2 := []) (D := []) (v := v) (L' := [(5, true, .sl 6 ((List.range cs.length).map fun j => cav (bk j)))]) (.refl _) ⟨⟨_, rfl, .one .hit⟩, trivial⟩ (FrzMs.refl _) ?_
    refine W.retn (M' := []) (rs := [.tmp 4, .tmp 5, .tmp 6]) (avs := [_, _, _]) Try.results42 ⟨rfl, rfl, rfl, trivial⟩ rfl (.refl _) ?_
    exact ⟨rfl, rfl⟩

theorem c_Play (lA cA lB : AV) (lC : AV) (hp : FnP Try.prog 42 [lA, cA] (.tup [lB, lC, .int 0])) : FnP Try.prog 30 [lA, cA] (.tup [lB, .int 0]) :=  by
  refine FnC.mk Try.func30 (by kernel_rfl) rfl Try.ntmps30 rfl (fun w0 F => ?_)
  refine W.seq ?_
  refine W.region ?_
  refine W.q (Ev.assign .k) rfl ?_
  refine W.q (Ev.assign .k) rfl ?_
  refine W.nil ?_
  refine W.then ?_
  refine W.seq ?_
  refine W.region ?_
  refine W.q (Ev.move (.t rfl)) rfl ?_
  refine W.q (Ev.move (.t rfl)) rfl ?_
  refine W.callp (hp) ⟨(.t rfl), (.t rfl), trivial⟩ rfl ?_
  refine W.q (Ev.move (.t rfl)) rfl ?_
  refine W.q (Ev.extract (.t rfl) rfl) rfl ?_
  refine W.q (Ev.extract (.t rfl) rfl) rfl ?_
  refine W.q (Ev.extract (.t rfl) rfl) rfl ?_
  refine W.q (Ev.assign (.t rfl)) rfl ?_
  refine W.q (Ev.assign (.t rfl)) rfl ?_
  refine W.q (Ev.assign (.t rfl)) rfl ?_
  refine W.nil ?_
  refine W.then ?_
  refine W.seq ?_
  refine W.region ?_
  refine W.q (Ev.move (.t rfl)) rfl ?_
  refine W.q (Ev.move (.t rfl)) rfl ?_
  refine W.q (Ev.assign (.t rfl)) rfl ?_
  refine W.q (Ev.assign (.t rfl)) rfl ?_
  refine W.nil ?_
  refine W.then ?_
  refine W.ret ?_
  refine W.retn (M' := []) (D := _) (rs := [.tmp 4, .tmp 5]) (avs := [_, _]) Try.results30 ⟨rfl, rfl, trivial⟩ rfl (.refl _) ?_
  exact ⟨rfl, rfl⟩

end WPlay

end Go.Proofs.Yteepllfbnoaiaaa
