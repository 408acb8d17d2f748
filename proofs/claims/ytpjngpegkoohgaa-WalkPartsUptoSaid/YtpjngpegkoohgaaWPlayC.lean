/-
  Changes are played, and what undoes them.
-/
import Derived.Test.YtpjngpegkoohgaaChange
import Derived.Test.YtpjngpegkoohgaaPick
import Derived.Test.YtpjngpegkoohgaaCopy
import Derived.Test.YtpjngpegkoohgaaUndo
import Derived.Test.YtpjngpegkoohgaaBase
import Derived.Test.YtpjngpegkoohgaaWChange
import Derived.Test.YtpjngpegkoohgaaWReverse
import Derived.Test.YtpjngpegkoohgaaWCopyAll
import Derived.Test.YtpjngpegkoohgaaWCopies
set_option linter.unusedVariables false
set_option linter.unusedSimpArgs false
set_option maxRecDepth 100000
namespace Go.Proofs.Ytpjngpegkoohgaa
open Go.Vl

namespace WPlayC
theorem ty3 : Ty Try.prog 3 1 8 (.int .i64 0) := Ty.of (by kernel_rfl)
theorem ty22 : Ty Try.prog 22 1 24 (.slice none 0 0) := Ty.of (by kernel_rfl)
theorem ty42 : Ty Try.prog 42 4 80 (.agg #[.string ⟨#[]⟩, .slice none 0 0, .string ⟨#[]⟩, .slice none 0 0]) := Ty.of (by kernel_rfl)
theorem ty51 : Ty Try.prog 51 6 112 (.agg #[.int .i64 0, .slice none 0 0, .string ⟨#[]⟩, .slice none 0 0, .string ⟨#[]⟩, .slice none 0 0]) := Ty.of (by kernel_rfl)
theorem ag3 : IsAgg Try.prog 3 false := ⟨_, Try.underlying3, rfl⟩
theorem ag22 : IsAgg Try.prog 22 false := ⟨_, Try.underlying22, rfl⟩
theorem ag42 : IsAgg Try.prog 42 true := ⟨_, Try.underlying42, rfl⟩
theorem ag51 : IsAgg Try.prog 51 true := ⟨_, Try.underlying51, rfl⟩
theorem fa51_0 : FieldAt Try.prog 51 0 0 1 false := ⟨_, _, Try.underlying51, rfl, rfl, ty3.size, ag3, by decide⟩
theorem fa51_1 : FieldAt Try.prog 51 1 1 1 false := ⟨_, _, Try.underlying51, rfl, rfl, ty22.size, ag22, by decide⟩
theorem fa51_2 : FieldAt Try.prog 51 2 2 4 true := ⟨_, _, Try.underlying51, rfl, rfl, ty42.size, ag42, by decide⟩
theorem ni27 : NotInt Try.prog 27 := .inl ⟨_, Try.underlying27⟩
theorem c_playO (cs : List Ch) (ts : Nat → List Nd) (bk : Nat → Ch) (hcs : cs.length ≤ 40) (hk : ∀ q ∈ cs, q.kind = 1 ∨ (q.kind = 2 ∧ q.node = Nd.dflt) ∨ q.kind = 3) (hst : ∀ i, i < cs.length → FnP Try.prog 17 [.sl 4 ((ts i).map Nd.av), cav (cs.getD i Ch.dfl), .sl 1 ((cs.getD i Ch.dfl).path.map AV.int)] (.tup [.sl 4 ((ts (i + 1)).map Nd.av), cav (bk i), .int 0])) (hz : Nd.szs (ts cs.length) ≤ 16777216) : FnC Try.prog 14 [.sl 4 ((ts 0).map Nd.av), .sl 6 (cs.map cav)] [] (fun r M => ∃ v, r = .tup [.sl 4 ((ts cs.length).map Nd.av), .lit v, .int 0] ∧ M = [.arr v 51 6 ((List.range cs.length).map fun j => cav (bk j))]) :=  by
  refine FnC.mk Try.func14 (by kernel_rfl) rfl Try.ntmps14 rfl (fun w0 F => ?_)
  have hcl : (cs.map cav).length = cs.length := List.length_map ..
  refine W.seq ?_
  refine W.region ?_
  refine W.q (Ev.assign .k) rfl ?_
  refine W.q (Ev.assign .k) rfl ?_
  refine W.q (Ev.assign .k) rfl ?_
  refine W.nil ?_
  refine W.then ?_
  refine W.seq ?_
  refine W.seq ?_
  refine W.region ?_
  refine W.q (Ev.move (.t rfl)) rfl ?_
  first | refine W.q (Ev.lensl (.t rfl) Try.underlying27) rfl ?_ | refine W.q (Ev.lenar (i := 0) (.t rfl) rfl Try.underlying27) rfl ?_ | refine W.q (Ev.lenar (i := 1) (.t rfl) rfl Try.underlying27) rfl ?_ | refine W.q (Ev.lenar (i := 2) (.t rfl) rfl Try.underlying27) rfl ?_ | refine W.q (Ev.lenar (i := 3) (.t rfl) rfl Try.underlying27) rfl ?_
  refine W.q (Ev.gti (.t rfl) .k) rfl ?_
  refine W.nil ?_
  refine W.then ?_
  refine W.is (t := 15) (g := true) (av' := .lit (.bool false)) rfl (congrArg (fun b => AV.lit (.bool b)) (by exact decide_eq_false (by omega))) ?_
  refine W.condF (.t rfl) ?_
  refine W.skip ?_
  refine W.then ?_
  refine W.seq ?_
  refine W.region ?_
  refine W.q (Ev.assign .k) rfl ?_
  refine W.nil ?_
  refine W.then ?_
  refine W.seq ?_
  refine W.seq ?_
  refine W.region ?_
  refine W.q (Ev.move (.t rfl)) rfl ?_
  first | refine W.q (Ev.lensl (.t rfl) Try.underlying27) rfl ?_ | refine W.q (Ev.lenar (i := 0) (.t rfl) rfl Try.underlying27) rfl ?_ | refine W.q (Ev.lenar (i := 1) (.t rfl) rfl Try.underlying27) rfl ?_ | refine W.q (Ev.lenar (i := 2) (.t rfl) rfl Try.underlying27) rfl ?_ | refine W.q (Ev.lenar (i := 3) (.t rfl) rfl Try.underlying27) rfl ?_
  refine W.q (Ev.move .k) rfl ?_
  refine W.nil ?_
  refine W.then ?_
  refine W.block ?_
  refine W.own_nil 51 6 ?_
  refine W.loop (D := []) (ι := Nat × Value) (fun z => [(18, true, .int (z.1 : Int)), (17, true, .int ((cs.map cav).length : Int)), (16, true, .sl 6 (cs.map cav)), (0, true, .sl 4 ((ts z.1).map Nd.av)), (7, true, .lit z.2)]) (fun z => [.arr z.2 51 6 ((List.range z.1).map fun j => cav (bk j))]) (fun z => z.1 ≤ cs.length) (fun z => cs.length - z.1) (0, .slice none 0 0) ⟨rfl, rfl, rfl, rfl, rfl, trivial⟩ (.refl _) (Nat.zero_le _) ?_
  rintro ⟨i, v⟩ hi
  dsimp only at hi ⊢
  rcases (show i < cs.length ∨ i = cs.length from by omega) with hlt | hend
  · have hga := getD_mapG cav Ch.dfl cs i hlt
    have hki := hk _ (getD_memG Ch.dfl cs i hlt)
    have hsi := hst i hlt
    have hsn : ((List.range (i + 1)).map fun j => cav (bk j)) = ((List.range i).map fun j => cav (bk j)) ++ [cav (bk i)] := by rw [List.range_succ, List.map_append]; rfl
    generalize cs.getD i Ch.dfl = ch at hga hki hsi
    refine W.seq ?_
    refine W.region ?_
    refine W.q (Ev.lti (.t rfl) (.t rfl)) rfl ?_
    refine W.nil ?_
    refine W.then ?_
    refine W.seq ?_
    refine W.is (t := 19) (g := true) (av' := .lit (.bool true)) rfl (congrArg (fun b => AV.lit (.bool b)) (by exact decide_eq_true (by omega))) ?_
    refine W.condT (.t rfl) ?_
    refine W.skip ?_
    refine W.then ?_
    refine W.seq ?_
    refine W.block ?_
    refine W.seq ?_
    refine W.region ?_
    refine W.q (Ev.at (E := 51) (.t rfl) (.t rfl) Try.underlying27 ty51 (fun _ => ⟨by omega, hga⟩) rfl rfl) rfl ?_
    first | refine W.q (Ev.lden (.t rfl) ag51 ty51 rfl rfl) rfl ?_ | refine W.q (Ev.ldbn 0 (.t rfl) rfl ag51 ty51 rfl) rfl ?_ | refine W.q (Ev.ldbn 1 (.t rfl) rfl ag51 ty51 rfl) rfl ?_ | refine W.q (Ev.ldbn 2 (.t rfl) rfl ag51 ty51 rfl) rfl ?_ | refine W.q (Ev.ldbn 3 (.t rfl) rfl ag51 ty51 rfl) rfl ?_
    refine W.alloc ty51 rfl rfl ?_
    intro b9
    first | refine W.stb 0 (.t rfl) (.t rfl) rfl ty51 rfl rfl rfl ?_ | refine W.stb 1 (.t rfl) (.t rfl) rfl ty51 rfl rfl rfl ?_ | refine W.stb 2 (.t rfl) (.t rfl) rfl ty51 rfl rfl rfl ?_ | refine W.stb 3 (.t rfl) (.t rfl) rfl ty51 rfl rfl rfl ?_
    refine W.nil ?_
    refine W.then ?_
    refine W.seq ?_
    refine W.block ?_
    refine W.seq ?_
    refine W.region ?_
    first | refine W.q (Ev.fae (.t rfl) fa51_0 rfl) rfl ?_ | refine W.q (Ev.fab (.t rfl) fa51_0) rfl ?_ | refine W.q (Ev.faa (.t rfl) fa51_0) rfl ?_
    first | refine W.q (Ev.lde1 (.t rfl) ag3) rfl ?_ | refine W.q (Ev.ldb1 0 (.t rfl) rfl ag3 rfl) rfl ?_ | refine W.q (Ev.ldb1 1 (.t rfl) rfl ag3 rfl) rfl ?_ | refine W.q (Ev.ldb1 2 (.t rfl) rfl ag3 rfl) rfl ?_ | refine W.q (Ev.ldb1 3 (.t rfl) rfl ag3 rfl) rfl ?_
    refine W.q (Ev.lti (.t rfl) .k) rfl ?_
    refine W.q (Ev.move (.t rfl)) rfl ?_
    first | refine W.qgF rfl rfl (Ev.fae (.t rfl) fa51_0 rfl) rfl ?_ | refine W.qgF rfl rfl (Ev.fab (.t rfl) fa51_0) rfl ?_ | refine W.qgF rfl rfl (Ev.faa (.t rfl) fa51_0) rfl ?_
    first | refine W.qgF rfl rfl (Ev.lde1 (.c rfl) ag3) rfl ?_ | refine W.qgF rfl rfl (Ev.ldb1 0 (.c rfl) rfl ag3 rfl) rfl ?_ | refine W.qgF rfl rfl (Ev.ldb1 1 (.c rfl) rfl ag3 rfl) rfl ?_ | refine W.qgF rfl rfl (Ev.ldb1 2 (.c rfl) rfl ag3 rfl) rfl ?_ | refine W.qgF rfl rfl (Ev.ldb1 3 (.c rfl) rfl ag3 rfl) rfl ?_
    refine W.qgF rfl rfl (Ev.gti (.c rfl) .k) rfl ?_
    refine W.q (Ev.or (.t rfl) ⟨_, _, rfl, rfl, by first | (simp; done) | (intro hg_ hp_; simp [hp_]; done) | (simp <;> omega; done) | (simp_all; done) | grind⟩) rfl ?_
    refine W.q (Ev.assign (.t rfl)) rfl ?_
    refine W.nil ?_
    refine W.then ?_
    refine W.is (t := 22) (g := true) (av' := .lit (.bool false)) rfl (congrArg (fun b => AV.lit (.bool b)) (by rcases hki with h | ⟨h, _⟩ | h <;> simp [h])) ?_
    refine W.condF (.t rfl) ?_
    refine W.seq ?_
    refine W.region ?_
    first | refine W.q (Ev.fae (.t rfl) fa51_0 rfl) rfl ?_ | refine W.q (Ev.fab (.t rfl) fa51_0) rfl ?_ | refine W.q (Ev.faa (.t rfl) fa51_0) rfl ?_
    first | refine W.q (Ev.lde1 (.t rfl) ag3) rfl ?_ | refine W.q (Ev.ldb1 0 (.t rfl) rfl ag3 rfl) rfl ?_ | refine W.q (Ev.ldb1 1 (.t rfl) rfl ag3 rfl) rfl ?_ | refine W.q (Ev.ldb1 2 (.t rfl) rfl ag3 rfl) rfl ?_ | refine W.q (Ev.ldb1 3 (.t rfl) rfl ag3 rfl) rfl ?_
    refine W.q (Ev.eqi (.t rfl) .k) rfl ?_
    refine W.q (Ev.move (.t rfl)) rfl ?_
    first | refine W.qgT rfl rfl (Ev.fae (.t rfl) fa51_2 rfl) rfl ?_ | refine W.qgT rfl rfl (Ev.fab (.t rfl) fa51_2) rfl ?_ | refine W.qgT rfl rfl (Ev.faa (.t rfl) fa51_2) rfl ?_
    first | refine W.qgT rfl rfl (Ev.lden (.c rfl) ag42 ty42 rfl rfl) rfl ?_ | refine W.qgT rfl rfl (Ev.ldbn 0 (.c rfl) rfl ag42 ty42 rfl) rfl ?_ | refine W.qgT rfl rfl (Ev.ldbn 1 (.c rfl) rfl ag42 ty42 rfl) rfl ?_ | refine W.qgT rfl rfl (Ev.ldbn 2 (.c rfl) rfl ag42 ty42 rfl) rfl ?_ | refine W.qgT rfl rfl (Ev.ldbn 3 (.c rfl) rfl ag42 ty42 rfl) rfl ?_
    refine W.callgT (Min := []) (caps := []) (avs := [_]) rfl rfl (fun hg => WCopyAll.c_empty ch.node) (fun hg => .f) (fun hg => ⟨(.i rfl (fun _ => hg)), trivial⟩) rfl (.refl _) rfl ?_
    refine W.qgT rfl rfl (Ev.not (.c rfl)) rfl ?_
    refine W.q (Ev.and (.t rfl) ⟨_, _, rfl, rfl, by first | (simp; done) | (intro hg_ hp_; simp [hp_]; done) | (simp <;> omega; done) | (simp_all; done) | grind⟩) rfl ?_
    refine W.q (Ev.assign (.t rfl)) rfl ?_
    refine W.nil ?_
    refine W.then ?_
    refine W.is (t := 31) (g := true) (av' := .lit (.bool false)) rfl (congrArg (fun b => AV.lit (.bool b)) (by rcases hki with h | ⟨h, h2⟩ | h <;> first | (simp [h, h2, Nd.dflt]; done) | (simp [h]; done) | (simp [h, h2, Nd.dflt, Nd.name, Nd.text, Nd.attrs, Nd.parts]; done))) ?_
    refine W.condF (.t rfl) ?_
    refine W.skip ?_
    refine W.blk_normal ?_
    refine W.then ?_
    refine W.seq ?_
    refine W.region ?_
    refine W.q (Ev.move (.t rfl)) rfl ?_
    first | refine W.q (Ev.lden (.t rfl) ag51 ty51 rfl rfl) rfl ?_ | refine W.q (Ev.ldbn 0 (.t rfl) rfl ag51 ty51 rfl) rfl ?_ | refine W.q (Ev.ldbn 1 (.t rfl) rfl ag51 ty51 rfl) rfl ?_ | refine W.q (Ev.ldbn 2 (.t rfl) rfl ag51 ty51 rfl) rfl ?_ | refine W.q (Ev.ldbn 3 (.t rfl) rfl ag51 ty51 rfl) rfl ?_
    first | refine W.q (Ev.fae (.t rfl) fa51_1 rfl) rfl ?_ | refine W.q (Ev.fab (.t rfl) fa51_1) rfl ?_ | refine W.q (Ev.faa (.t rfl) fa51_1) rfl ?_
    first | refine W.q (Ev.lde1 (.t rfl) ag22) rfl ?_ | refine W.q (Ev.ldb1 0 (.t rfl) rfl ag22 rfl) rfl ?_ | refine W.q (Ev.ldb1 1 (.t rfl) rfl ag22 rfl) rfl ?_ | refine W.q (Ev.ldb1 2 (.t rfl) rfl ag22 rfl) rfl ?_ | refine W.q (Ev.ldb1 3 (.t rfl) rfl ag22 rfl) rfl ?_
    refine W.callp (hsi) ⟨(.t rfl), (.t rfl), (.t rfl), trivial⟩ rfl ?_
    refine W.q (Ev.move (.t rfl)) rfl ?_
    refine W.q (Ev.extract (.t rfl) rfl) rfl ?_
    refine W.q (Ev.extract (.t rfl) rfl) rfl ?_
    refine W.q (Ev.extract (.t rfl) rfl) rfl ?_
    refine W.alloc ty51 rfl rfl ?_
    intro b11
    refine W.q (Ev.assign (.t rfl)) rfl ?_
    first | refine W.stb 0 (.t rfl) (.t rfl) rfl ty51 rfl rfl rfl ?_ | refine W.stb 1 (.t rfl) (.t rfl) rfl ty51 rfl rfl rfl ?_ | refine W.stb 2 (.t rfl) (.t rfl) rfl ty51 rfl rfl rfl ?_ | refine W.stb 3 (.t rfl) (.t rfl) rfl ty51 rfl rfl rfl ?_
    refine W.q (Ev.assign (.t rfl)) rfl ?_
    refine W.nil ?_
    refine W.then ?_
    refine W.seq ?_
    refine W.seq ?_
    refine W.region ?_
    refine W.q (Ev.move (.t rfl)) rfl ?_
    refine W.q (Ev.nei (.t rfl) .k) rfl ?_
    refine W.nil ?_
    refine W.then ?_
    refine W.is (t := 51) (g := true) (av' := .lit (.bool false)) rfl (congrArg (fun b => AV.lit (.bool b)) (by rfl)) ?_
    refine W.condF (.t rfl) ?_
    refine W.skip ?_
    refine W.then ?_
    refine W.seq ?_
    refine W.region ?_
    refine W.q (Ev.move (.t rfl)) rfl ?_
    refine W.q (Ev.assign (.t rfl)) rfl ?_
    refine W.nil ?_
    refine W.then ?_
    refine W.region ?_
    refine W.q (Ev.move (.t rfl)) rfl ?_
    first | refine W.q (Ev.lden (.t rfl) ag51 ty51 rfl rfl) rfl ?_ | refine W.q (Ev.ldbn 0 (.t rfl) rfl ag51 ty51 rfl) rfl ?_ | refine W.q (Ev.ldbn 1 (.t rfl) rfl ag51 ty51 rfl) rfl ?_ | refine W.q (Ev.ldbn 2 (.t rfl) rfl ag51 ty51 rfl) rfl ?_ | refine W.q (Ev.ldbn 3 (.t rfl) rfl ag51 ty51 rfl) rfl ?_
    refine W.bs (es := [_]) Try.underlying27 ty51 ⟨rfl, (.t rfl), rfl, rfl, trivial⟩ rfl (by decide) rfl rfl ?_
    first | refine W.app 0 (.t rfl) rfl (.sl (.t rfl) (by first | (simp [AV.okc, shV]; done) | (intro e he; rw [List.mem_singleton.1 he]; rfl))) Try.underlying27 ni27 ty51 rfl rfl (by simp only [List.length_map, List.length_range, List.length_cons, List.length_nil]; omega) rfl ?_ | refine W.app 1 (.t rfl) rfl (.sl (.t rfl) (by first | (simp [AV.okc, shV]; done) | (intro e he; rw [List.mem_singleton.1 he]; rfl))) Try.underlying27 ni27 ty51 rfl rfl (by simp only [List.length_map, List.length_range, List.length_cons, List.length_nil]; omega) rfl ?_ | refine W.app 2 (.t rfl) rfl (.sl (.t rfl) (by first | (simp [AV.okc, shV]; done) | (intro e he; rw [List.mem_singleton.1 he]; rfl))) Try.underlying27 ni27 ty51 rfl rfl (by simp only [List.length_map, List.length_range, List.length_cons, List.length_nil]; omega) rfl ?_ | refine W.app 3 (.t rfl) rfl (.sl (.t rfl) (by first | (simp [AV.okc, shV]; done) | (intro e he; rw [List.mem_singleton.1 he]; rfl))) Try.underlying27 ni27 ty51 rfl rfl (by simp only [List.length_map, List.length_range, List.length_cons, List.length_nil]; omega) rfl ?_ | refine W.app 0 (.t rfl) rfl (.arr 0 (.t rfl) rfl (by first | (simp [AV.okc, shV]; done) | (intro e he; rw [List.mem_singleton.1 he]; rfl))) Try.underlying27 ni27 ty51 rfl rfl (by simp only [List.length_map, List.length_range, List.length_cons, List.length_nil]; omega) rfl ?_ | refine W.app 0 (.t rfl) rfl (.arr 1 (.t rfl) rfl (by first | (simp [AV.okc, shV]; done) | (intro e he; rw [List.mem_singleton.1 he]; rfl))) Try.underlying27 ni27 ty51 rfl rfl (by simp only [List.length_map, List.length_range, List.length_cons, List.length_nil]; omega) rfl ?_ | refine W.app 0 (.t rfl) rfl (.arr 2 (.t rfl) rfl (by first | (simp [AV.okc, shV]; done) | (intro e he; rw [List.mem_singleton.1 he]; rfl))) Try.underlying27 ni27 ty51 rfl rfl (by simp only [List.length_map, List.length_range, List.length_cons, List.length_nil]; omega) rfl ?_ | refine W.app 0 (.t rfl) rfl (.arr 3 (.t rfl) rfl (by first | (simp [AV.okc, shV]; done) | (intro e he; rw [List.mem_singleton.1 he]; rfl))) Try.underlying27 ni27 ty51 rfl rfl (by simp only [List.length_map, List.length_range, List.length_cons, List.length_nil]; omega) rfl ?_ | refine W.app 1 (.t rfl) rfl (.arr 0 (.t rfl) rfl (by first | (simp [AV.okc, shV]; done) | (intro e he; rw [List.mem_singleton.1 he]; rfl))) Try.underlying27 ni27 ty51 rfl rfl (by simp only [List.length_map, List.length_range, List.length_cons, List.length_nil]; omega) rfl ?_ | refine W.app 1 (.t rfl) rfl (.arr 1 (.t rfl) rfl (by first | (simp [AV.okc, shV]; done) | (intro e he; rw [List.mem_singleton.1 he]; rfl))) Try.underlying27 ni27 ty51 rfl rfl (by simp only [List.length_map, List.length_range, List.length_cons, List.length_nil]; omega) rfl ?_ | refine W.app 1 (.t rfl) rfl (.arr 2 (.t rfl) rfl (by first | (simp [AV.okc, shV]; done) | (intro e he; rw [List.mem_singleton.1 he]; rfl))) Try.underlying27 ni27 ty51 rfl rfl (by simp only [List.length_map, List.length_range, List.length_cons, List.length_nil]; omega) rfl ?_ | refine W.app 1 (.t rfl) rfl (.arr 3 (.t rfl) rfl (by first | (simp [AV.okc, shV]; done) | (intro e he; rw [List.mem_singleton.1 he]; rfl))) Try.underlying27 ni27 ty51 rfl rfl (by simp only [List.length_map, List.length_range, List.length_cons, List.length_nil]; omega) rfl ?_ | refine W.app 2 (.t rfl) rfl (.arr 0 (.t rfl) rfl (by first | (simp [AV.okc, shV]; done) | (intro e he; rw [List.mem_singleton.1 he]; rfl))) Try.underlying27 ni27 ty51 rfl rfl (by simp only [List.length_map, List.length_range, List.length_cons, List.length_nil]; omega) rfl ?_ | refine W.app 2 (.t rfl) rfl (.arr 1 (.t rfl) rfl (by first | (simp [AV.okc, shV]; done) | (intro e he; rw [List.mem_singleton.1 he]; rfl))) Try.underlying27 ni27 ty51 rfl rfl (by simp only [List.length_map, List.length_range, List.length_cons, List.length_nil]; omega) rfl ?_ | refine W.app 2 (.t rfl) rfl (.arr 2 (.t rfl) rfl (by first | (simp [AV.okc, shV]; done) | (intro e he; rw [List.mem_singleton.1 he]; rfl))) Try.underlying27 ni27 ty51 rfl rfl (by simp only [List.length_map, List.length_range, List.length_cons, List.length_nil]; omega) rfl ?_ | refine W.app 2 (.t rfl) rfl (.arr 3 (.t rfl) rfl (by first | (simp [AV.okc, shV]; done) | (intro e he; rw [List.mem_singleton.1 he]; rfl))) Try.underlying27 ni27 ty51 rfl rfl (by simp only [List.length_map, List.length_range, List.length_cons, List.length_nil]; omega) rfl ?_ | refine W.app 3 (.t rfl) rfl (.arr 0 (.t rfl) rfl (by first | (simp [AV.okc, shV]; done) | (intro e he; rw [List.mem_singleton.1 he]; rfl))) Try.underlying27 ni27 ty51 rfl rfl (by simp only [List.length_map, List.length_range, List.length_cons, List.length_nil]; omega) rfl ?_ | refine W.app 3 (.t rfl) rfl (.arr 1 (.t rfl) rfl (by first | (simp [AV.okc, shV]; done) | (intro e he; rw [List.mem_singleton.1 he]; rfl))) Try.underlying27 ni27 ty51 rfl rfl (by simp only [List.length_map, List.length_range, List.length_cons, List.length_nil]; omega) rfl ?_ | refine W.app 3 (.t rfl) rfl (.arr 2 (.t rfl) rfl (by first | (simp [AV.okc, shV]; done) | (intro e he; rw [List.mem_singleton.1 he]; rfl))) Try.underlying27 ni27 ty51 rfl rfl (by simp only [List.length_map, List.length_range, List.length_cons, List.length_nil]; omega) rfl ?_ | refine W.app 3 (.t rfl) rfl (.arr 3 (.t rfl) rfl (by first | (simp [AV.okc, shV]; done) | (intro e he; rw [List.mem_singleton.1 he]; rfl))) Try.underlying27 ni27 ty51 rfl rfl (by simp only [List.length_map, List.length_range, List.length_cons, List.length_nil]; omega) rfl ?_
    intro v57
    refine W.q (Ev.assign (.t rfl)) rfl ?_
    refine W.nil ?_
    refine W.blk_normal ?_
    refine W.then ?_
    refine W.region ?_
    first | refine W.q (Ev.add (.t rfl) .k (fun _ => by omega)) rfl ?_ | refine W.q (Ev.addw (.t rfl) .k) rfl ?_
    refine W.q (Ev.move (.t rfl)) rfl ?_
    refine W.nil ?_
    refine W.then ?_
    refine W.reach (D := _) (i + 1, v57) ⟨rfl, rfl, rfl, rfl, rfl, trivial⟩ (by rw [hsn] <;> exact List.perm_append_comm (l₁ := [_, _])) ⟨by show i + 1 ≤ _; omega, by show _ - (i + 1) < _; omega⟩
  · subst hend
    refine W.seq ?_
    refine W.region ?_
    refine W.q (Ev.lti (.t rfl) (.t rfl)) rfl ?_
    refine W.nil ?_
    refine W.then ?_
    refine W.seq ?_
    refine W.is (t := 19) (g := true) (av' := .lit (.bool false)) rfl (congrArg (fun b => AV.lit (.bool b)) (by exact decide_eq_false (by omega))) ?_
    refine W.condF (.t rfl) ?_
    refine W.exit ?_
    refine W.then_exit ?_
    refine W.then_exit ?_
    refine W.blk_hit ?_
    refine W.then ?_
    refine W.seq ?_
    refine W.region ?_
    refine W.q (Ev.move (.t rfl)) rfl ?_
    refine W.callp (WCopies.c_copies (ts cs.length) hz) ⟨(.t rfl), trivial⟩ rfl ?_
    refine W.q (Ev.move (.t rfl)) rfl ?_
    refine W.q (Ev.assign (.t rfl)) rfl ?_
    refine W.q (Ev.assign (.t rfl)) rfl ?_
    refine W.q (Ev.assign .k) rfl ?_
    refine W.nil ?_
    refine W.then ?_
    refine W.ret ?_
    refine W.retn (M' := [.arr v 51 6 ((List.range cs.length).map fun j => cav (bk j))]) (D := []) (rs := [.tmp 4, .tmp 5, .tmp 6]) (avs := [_, _, _]) Try.results14 ⟨rfl, rfl, rfl, trivial⟩ rfl (.refl _) ?_
    exact ⟨_, rfl, rfl⟩

theorem c_PlayO (lA cA lB : AV) (bs : List Ch) (hp : FnC Try.prog 14 [lA, cA] [] (fun r M => ∃ v, r = .tup [lB, .lit v, .int 0] ∧ M = [.arr v 51 6 (bs.map cav)])) : FnP Try.prog 8 [lA, cA] (.tup [lB, .int 0]) :=  by
  refine FnC.mk Try.func8 (by kernel_rfl) rfl Try.ntmps8 rfl (fun w0 F => ?_)
  refine W.seq ?_
  refine W.region ?_
  refine W.q (Ev.assign .k) rfl ?_
  refine W.q (Ev.assign .k) rfl ?_
  refine W.nil ?_
  refine W.then ?_
  refine W.seq ?_
  refine W.region ?_
  refine W.q (Ev.move (.t rfl)) rfl ?_
  refine W.q (Ev.move (.t rfl)) rfl ?_
  refine W.call (hp) ⟨(.t rfl), (.t rfl), trivial⟩ (.refl _) rfl ?_
  rintro _ _ ⟨v12, rfl, rfl⟩
  refine W.q (Ev.move (.t rfl)) rfl ?_
  refine W.q (Ev.extract (.t rfl) rfl) rfl ?_
  refine W.q (Ev.extract (.t rfl) rfl) rfl ?_
  refine W.q (Ev.extract (.t rfl) rfl) rfl ?_
  refine W.q (Ev.assign (.t rfl)) rfl ?_
  refine W.q (Ev.assign (.t rfl)) rfl ?_
  refine W.q (Ev.assign (.t rfl)) rfl ?_
  refine W.nil ?_
  refine W.then ?_
  refine W.seq ?_
  refine W.region ?_
  refine W.q (Ev.move (.t rfl)) rfl ?_
  refine W.q (Ev.move (.t rfl)) rfl ?_
  refine W.q (Ev.assign (.t rfl)) rfl ?_
  refine W.q (Ev.assign (.t rfl)) rfl ?_
  refine W.nil ?_
  refine W.then ?_
  refine W.ret ?_
  refine W.retn (M' := []) (D := _) (rs := [.tmp 4, .tmp 5]) (avs := [_, _]) Try.results8 ⟨rfl, rfl, trivial⟩ rfl (.refl _) ?_
  exact ⟨rfl, rfl⟩

theorem c_Invert (lA cA lB : AV) (bs : List Ch) (hb : bs.length ≤ 1099511627776) (hp : FnC Try.prog 14 [lA, cA] [] (fun r M => ∃ v, r = .tup [lB, .lit v, .int 0] ∧ M = [.arr v 51 6 (bs.map cav)])) : FnP Try.prog 11 [lA, cA] (.tup [.sl 6 (bs.reverse.map cav), .int 0]) :=  by
  refine FnC.mk Try.func11 (by kernel_rfl) rfl Try.ntmps11 rfl (fun w0 F => ?_)
  refine W.seq ?_
  refine W.region ?_
  refine W.q (Ev.assign .k) rfl ?_
  refine W.q (Ev.assign .k) rfl ?_
  refine W.nil ?_
  refine W.then ?_
  refine W.seq ?_
  refine W.region ?_
  refine W.q (Ev.move (.t rfl)) rfl ?_
  refine W.q (Ev.move (.t rfl)) rfl ?_
  refine W.call (hp) ⟨(.t rfl), (.t rfl), trivial⟩ (.refl _) rfl ?_
  rintro _ _ ⟨v12, rfl, rfl⟩
  refine W.q (Ev.move (.t rfl)) rfl ?_
  refine W.q (Ev.extract (.t rfl) rfl) rfl ?_
  refine W.q (Ev.extract (.t rfl) rfl) rfl ?_
  refine W.q (Ev.extract (.t rfl) rfl) rfl ?_
  refine W.q (Ev.assign (.t rfl)) rfl ?_
  refine W.q (Ev.assign (.t rfl)) rfl ?_
  refine W.q (Ev.assign (.t rfl)) rfl ?_
  refine W.nil ?_
  refine W.then ?_
  refine W.seq ?_
  refine W.region ?_
  refine W.q (Ev.move (.t rfl)) rfl ?_
  refine W.call (WReverse.c_Reverse bs v12 hb) ⟨(.t rfl), trivial⟩ (.refl _) rfl ?_
  rintro _ _ ⟨rfl, rfl⟩
  refine W.nil ?_
  refine W.then ?_
  refine W.seq ?_
  refine W.region ?_
  refine W.q (Ev.move (.t rfl)) rfl ?_
  refine W.q (Ev.move (.t rfl)) rfl ?_
  refine W.q (Ev.assign (.t rfl)) rfl ?_
  refine W.q (Ev.assign (.t rfl)) rfl ?_
  refine W.nil ?_
  refine W.then ?_
  refine W.ret ?_
  refine W.freezeA (M1 := []) (M2 := []) (D := []) (v := v12) (L' := [(4, true, .sl 6 (bs.reverse.map cav))]) (.refl _) ⟨⟨_, rfl, .one .hit⟩, trivial⟩ (FrzMs.refl _) ?_
  refine W.retn (M' := []) (D := _) (rs := [.tmp 4, .tmp 5]) (avs := [_, _]) Try.results11 ⟨rfl, rfl, trivial⟩ rfl (.refl _) ?_
  exact ⟨rfl, rfl⟩

theorem c_playC (l : List Nd) (cs : List Ch) (hcs : cs.length ≤ 40) (h : Ch.oks 16777216 l cs) : FnC Try.prog 14 [.sl 4 (l.map Nd.av), .sl 6 (cs.map cav)] [] (fun r M => ∃ v, r = .tup [.sl 4 ((Ch.run l cs).map Nd.av), .lit v, .int 0] ∧ M = [.arr v 51 6 ((Ch.backs l cs).map cav)]) := by
  have h0 := c_playO cs (fun i => Ch.run l (cs.take i)) (fun j => (Ch.backs l cs).getD j Ch.dfl) hcs (fun q hq => by
      obtain ⟨i, hi, rfl⟩ := List.mem_iff_getElem.1 hq
      have hs := (Ch.oks_step cs l i h hi).1.kind
      rw [List.getD_eq_getElem?_getD, List.getElem?_eq_getElem hi] at hs
      rcases hs with ⟨h1, _⟩ | ⟨h1, h2, _⟩ | ⟨h1, _⟩
      · exact .inl h1
      · exact .inr (.inl ⟨h1, h2⟩)
      · exact .inr (.inr h1)) (fun i hi => by
      obtain ⟨h1, h2, h3⟩ := Ch.oks_step cs l i h hi
      rw [h2, h3]
      exact WChange.c_Change _ _ h1) (by
      have := (Ch.oks_append cs [] l).1 (by rw [List.append_nil]; exact h)
      show Nd.szs (Ch.run l (cs.take cs.length)) ≤ _
      rw [List.take_length]; exact this.2.1)
  rw [List.take_length, show ((List.range cs.length).map fun j => cav ((Ch.backs l cs).getD j Ch.dfl)) = (Ch.backs l cs).map cav from by have := congrArg (List.map cav) (Ch.backs_row cs l); rw [List.map_map] at this; exact this] at h0
  exact h0
theorem c_PlayC (l : List Nd) (cs : List Ch) (hcs : cs.length ≤ 40) (h : Ch.oks 16777216 l cs) : FnP Try.prog 8 [.sl 4 (l.map Nd.av), .sl 6 (cs.map cav)] (.tup [.sl 4 ((Ch.run l cs).map Nd.av), .int 0]) := c_PlayO _ _ _ _ (c_playC l cs hcs h)
theorem c_InvertC (l : List Nd) (cs : List Ch) (hcs : cs.length ≤ 40) (h : Ch.oks 16777216 l cs) : FnP Try.prog 11 [.sl 4 (l.map Nd.av), .sl 6 (cs.map cav)] (.tup [.sl 6 ((Ch.backs l cs).reverse.map cav), .int 0]) := c_Invert _ _ _ _ (by rw [Ch.backs_len]; omega) (c_playC l cs hcs h)

end WPlayC

end Go.Proofs.Ytpjngpegkoohgaa
