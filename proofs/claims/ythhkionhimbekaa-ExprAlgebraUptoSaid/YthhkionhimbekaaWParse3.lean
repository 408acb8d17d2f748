/-
  Texts that are read.
-/
import Derived.Test.YthhkionhimbekaaWParse2
import Derived.Test.YthhkionhimbekaaWFault
import Derived.Test.YthhkionhimbekaaWText
set_option linter.unusedVariables false
set_option linter.unusedSimpArgs false
set_option maxRecDepth 100000
namespace Go.Proofs.Ythhkionhimbekaa
open Go.Vl

namespace WParse3
theorem ty3 : Ty Try.prog 3 1 8 (.int .i64 0) := Ty.of (by kernel_rfl)
theorem ty4 : Ty Try.prog 4 1 1 (.bool false) := Ty.of (by kernel_rfl)
theorem ty9 : Ty Try.prog 9 1 16 (.string ⟨#[]⟩) := Ty.of (by kernel_rfl)
theorem ty28 : Ty Try.prog 28 3 40 (.agg #[.int .i64 0, .int .i64 0, .slice none 0 0]) := Ty.of (by kernel_rfl)
theorem ty51 : Ty Try.prog 51 2 24 (.agg #[.string ⟨#[]⟩, .bool false]) := Ty.of (by kernel_rfl)
theorem ag3 : IsAgg Try.prog 3 false := ⟨_, Try.underlying3, rfl⟩
theorem ag4 : IsAgg Try.prog 4 false := ⟨_, Try.underlying4, rfl⟩
theorem ag9 : IsAgg Try.prog 9 false := ⟨_, Try.underlying9, rfl⟩
theorem ag28 : IsAgg Try.prog 28 true := ⟨_, Try.underlying28, rfl⟩
theorem fa28_0 : FieldAt Try.prog 28 0 0 1 false := ⟨_, _, Try.underlying28, rfl, rfl, ty3.size, ag3, by decide⟩
theorem fa51_0 : FieldAt Try.prog 51 0 0 1 false := ⟨_, _, Try.underlying51, rfl, rfl, ty9.size, ag9, by decide⟩
theorem fa51_1 : FieldAt Try.prog 51 1 1 1 false := ⟨_, _, Try.underlying51, rfl, rfl, ty4.size, ag4, by decide⟩
theorem st51 : StructAt Try.prog 51 [(0, 1), (1, 1)] := ⟨_, Try.underlying51, rfl, ty9.size, rfl, ty4.size, trivial⟩
theorem c_Check (x : Ex) (hx : Ex.ok x) (hz : x.sz ≤ 16777216) (hl : (Ex.txt x).length ≤ 40) : FnP Try.prog 16 [x.avx] (.int 0) :=  by
  refine FnC.mk Try.func16 (by kernel_rfl) rfl Try.ntmps16 rfl (fun w0 F => ?_)
  refine W.seq ?_
  refine W.region ?_
  refine W.box (.t rfl) rfl rfl ?_
  intro b1
  refine W.q (Ev.assign .k) rfl ?_
  refine W.nil ?_
  refine W.then ?_
  refine W.seq ?_
  refine W.seq ?_
  refine W.region ?_
  first | refine W.q (Ev.lden (.t rfl) ag28 ty28 rfl rfl) rfl ?_ | refine W.q (Ev.ldbn 0 (.t rfl) rfl ag28 ty28 rfl) rfl ?_ | refine W.q (Ev.ldbn 1 (.t rfl) rfl ag28 ty28 rfl) rfl ?_ | refine W.q (Ev.ldbn 2 (.t rfl) rfl ag28 ty28 rfl) rfl ?_ | refine W.q (Ev.ldbn 3 (.t rfl) rfl ag28 ty28 rfl) rfl ?_
  refine W.callp (WFault.c_fault x hx hz) ⟨(.t rfl), trivial⟩ rfl ?_
  refine W.q (Ev.assign (.t rfl)) rfl ?_
  refine W.nil ?_
  refine W.then ?_
  refine W.seq ?_
  refine W.region ?_
  refine W.q (Ev.move (.t rfl)) rfl ?_
  refine W.q (Ev.nei (.t rfl) .k) rfl ?_
  refine W.nil ?_
  refine W.then ?_
  refine W.is (t := 7) (g := true) (av' := .lit (.bool false)) rfl (congrArg (fun b => AV.lit (.bool b)) (by rfl)) ?_
  refine W.condF (.t rfl) ?_
  refine W.skip ?_
  refine W.then ?_
  refine W.seq ?_
  refine W.seq ?_
  refine W.region ?_
  first | refine W.q (Ev.lden (.t rfl) ag28 ty28 rfl rfl) rfl ?_ | refine W.q (Ev.ldbn 0 (.t rfl) rfl ag28 ty28 rfl) rfl ?_ | refine W.q (Ev.ldbn 1 (.t rfl) rfl ag28 ty28 rfl) rfl ?_ | refine W.q (Ev.ldbn 2 (.t rfl) rfl ag28 ty28 rfl) rfl ?_ | refine W.q (Ev.ldbn 3 (.t rfl) rfl ag28 ty28 rfl) rfl ?_
  refine W.callp (WText.c_text x hx hz (by omega)) ⟨(.t rfl), trivial⟩ rfl ?_
  refine W.q (Ev.lens (.t rfl) Try.underlying9) rfl ?_
  refine W.q (Ev.gti (.t rfl) .k) rfl ?_
  refine W.nil ?_
  refine W.then ?_
  refine W.is (t := 12) (g := true) (av' := .lit (.bool false)) rfl (congrArg (fun b => AV.lit (.bool b)) (by exact decide_eq_false (by omega))) ?_
  refine W.condF (.t rfl) ?_
  refine W.skip ?_
  refine W.then ?_
  refine W.seq ?_
  refine W.region ?_
  refine W.q (Ev.assign .k) rfl ?_
  refine W.nil ?_
  refine W.then ?_
  refine W.ret ?_
  refine W.retn (M' := []) (D := _) (rs := [.tmp 2]) (avs := [_]) Try.results16 ⟨rfl, trivial⟩ rfl (.refl _) ?_
  exact ⟨rfl, rfl⟩

theorem c_Print (x : Ex) (hx : Ex.ok x) (hz : x.sz ≤ 16777216) (hl : (Ex.txt x).length ≤ 40) : FnP Try.prog 10 [x.avx] (.tup [.str (Ex.txt x), .int 0]) :=  by
  refine FnC.mk Try.func10 (by kernel_rfl) rfl Try.ntmps10 rfl (fun w0 F => ?_)
  refine W.seq ?_
  refine W.region ?_
  refine W.box (.t rfl) rfl rfl ?_
  intro b1
  refine W.q (Ev.assign .k) rfl ?_
  refine W.q (Ev.assign .k) rfl ?_
  refine W.nil ?_
  refine W.then ?_
  refine W.seq ?_
  refine W.seq ?_
  refine W.region ?_
  first | refine W.q (Ev.lden (.t rfl) ag28 ty28 rfl rfl) rfl ?_ | refine W.q (Ev.ldbn 0 (.t rfl) rfl ag28 ty28 rfl) rfl ?_ | refine W.q (Ev.ldbn 1 (.t rfl) rfl ag28 ty28 rfl) rfl ?_ | refine W.q (Ev.ldbn 2 (.t rfl) rfl ag28 ty28 rfl) rfl ?_ | refine W.q (Ev.ldbn 3 (.t rfl) rfl ag28 ty28 rfl) rfl ?_
  refine W.callp (c_Check x hx hz hl) ⟨(.t rfl), trivial⟩ rfl ?_
  refine W.q (Ev.assign (.t rfl)) rfl ?_
  refine W.nil ?_
  refine W.then ?_
  refine W.seq ?_
  refine W.region ?_
  refine W.q (Ev.move (.t rfl)) rfl ?_
  refine W.q (Ev.nei (.t rfl) .k) rfl ?_
  refine W.nil ?_
  refine W.then ?_
  refine W.is (t := 8) (g := true) (av' := .lit (.bool false)) rfl (congrArg (fun b => AV.lit (.bool b)) (by rfl)) ?_
  refine W.condF (.t rfl) ?_
  refine W.skip ?_
  refine W.then ?_
  refine W.seq ?_
  refine W.region ?_
  first | refine W.q (Ev.lden (.t rfl) ag28 ty28 rfl rfl) rfl ?_ | refine W.q (Ev.ldbn 0 (.t rfl) rfl ag28 ty28 rfl) rfl ?_ | refine W.q (Ev.ldbn 1 (.t rfl) rfl ag28 ty28 rfl) rfl ?_ | refine W.q (Ev.ldbn 2 (.t rfl) rfl ag28 ty28 rfl) rfl ?_ | refine W.q (Ev.ldbn 3 (.t rfl) rfl ag28 ty28 rfl) rfl ?_
  refine W.callp (WText.c_text x hx hz (by omega)) ⟨(.t rfl), trivial⟩ rfl ?_
  refine W.q (Ev.assign (.t rfl)) rfl ?_
  refine W.q (Ev.assign .k) rfl ?_
  refine W.nil ?_
  refine W.then ?_
  refine W.ret ?_
  refine W.retn (M' := []) (D := _) (rs := [.tmp 2, .tmp 3]) (avs := [_, _]) Try.results10 ⟨rfl, rfl, trivial⟩ rfl (.refl _) ?_
  exact ⟨rfl, rfl⟩

theorem c_Parse (s : List It) (a : List (List It)) (hs : It.oks s) (ha : It.oka a) (hl : (It.stx s ++ It.atl a).length ≤ 40) : FnP Try.prog 15 [.str (It.stx s ++ It.atl a)] (.tup [(It.al s a).avx, .int 0]) :=  by
  refine FnC.mk Try.func15 (by kernel_rfl) rfl Try.ntmps15 rfl (fun w0 F => ?_)
  have hok := It.al_ok s a hs ha
  have hlen := It.al_len s a hs ha
  have hsz := It.al_sz s a
  refine W.seq ?_
  refine W.region ?_
  refine W.alloc ty28 rfl rfl ?_
  intro b2
  refine W.q (Ev.assign .k) rfl ?_
  refine W.nil ?_
  refine W.then ?_
  refine W.seq ?_
  refine W.seq ?_
  refine W.region ?_
  refine W.q (Ev.move (.t rfl)) rfl ?_
  refine W.q (Ev.lens (.t rfl) Try.underlying9) rfl ?_
  refine W.q (Ev.gti (.t rfl) .k) rfl ?_
  refine W.nil ?_
  refine W.then ?_
  refine W.is (t := 9) (g := true) (av' := .lit (.bool false)) rfl (congrArg (fun b => AV.lit (.bool b)) (by exact decide_eq_false (by omega))) ?_
  refine W.condF (.t rfl) ?_
  refine W.skip ?_
  refine W.then ?_
  refine W.seq ?_
  refine W.region ?_
  refine W.q (Ev.move (.t rfl)) rfl ?_
  refine W.q (Ev.build ty51 st51 rfl (fun hg => ⟨_, _, _, rfl, (.t rfl), rfl, rfl, rfl, rfl⟩)) rfl ?_
  refine W.box (.t rfl) rfl rfl ?_
  intro b13
  refine W.q (Ev.assign (.t rfl)) rfl ?_
  refine W.nil ?_
  refine W.then ?_
  refine W.seq ?_
  refine W.region ?_
  have cA := WParse2.c_top b13 s a hs ha (by omega)
  rw [List.append_nil] at cA
  refine W.q (Ev.move (.t rfl)) rfl ?_
  refine W.call (cA) ⟨(.t rfl), trivial⟩ ((List.Perm.refl _)) rfl ?_
  rintro _ _ ⟨rfl, rfl⟩
  refine W.alloc ty28 rfl rfl ?_
  intro b5
  first | refine W.stb 0 (.t rfl) (.t rfl) rfl ty28 rfl rfl rfl ?_ | refine W.stb 1 (.t rfl) (.t rfl) rfl ty28 rfl rfl rfl ?_ | refine W.stb 2 (.t rfl) (.t rfl) rfl ty28 rfl rfl rfl ?_ | refine W.stb 3 (.t rfl) (.t rfl) rfl ty28 rfl rfl rfl ?_ | refine W.stb 4 (.t rfl) (.t rfl) rfl ty28 rfl rfl rfl ?_
  refine W.nil ?_
  refine W.then ?_
  refine W.seq ?_
  refine W.seq ?_
  refine W.region ?_
  refine W.q (Ev.move (.t rfl)) rfl ?_
  refine W.q (Ev.nilc (.t rfl)) rfl ?_
  first | refine W.q (Ev.fae (.t rfl) fa51_1 rfl) rfl ?_ | refine W.q (Ev.fab (.t rfl) fa51_1) rfl ?_ | refine W.q (Ev.faa (.t rfl) fa51_1) rfl ?_
  first | refine W.q (Ev.lde1 (.t rfl) ag4) rfl ?_ | refine W.q (Ev.ldb1 0 (.t rfl) rfl ag4 rfl) rfl ?_ | refine W.q (Ev.ldb1 1 (.t rfl) rfl ag4 rfl) rfl ?_ | refine W.q (Ev.ldb1 2 (.t rfl) rfl ag4 rfl) rfl ?_ | refine W.q (Ev.ldb1 3 (.t rfl) rfl ag4 rfl) rfl ?_ | refine W.q (Ev.ldb1 4 (.t rfl) rfl ag4 rfl) rfl ?_
  refine W.q (Ev.move (.t rfl)) rfl ?_
  refine W.qgF rfl rfl (Ev.move (.t rfl)) rfl ?_
  refine W.qgF rfl rfl (Ev.nilc (.c rfl)) rfl ?_
  first | refine W.qgF rfl rfl (Ev.fae (.c rfl) fa51_0 rfl) rfl ?_ | refine W.qgF rfl rfl (Ev.fab (.c rfl) fa51_0) rfl ?_ | refine W.qgF rfl rfl (Ev.faa (.c rfl) fa51_0) rfl ?_
  first | refine W.qgF rfl rfl (Ev.lde1 (.c rfl) ag9) rfl ?_ | refine W.qgF rfl rfl (Ev.ldb1 0 (.c rfl) rfl ag9 rfl) rfl ?_ | refine W.qgF rfl rfl (Ev.ldb1 1 (.c rfl) rfl ag9 rfl) rfl ?_ | refine W.qgF rfl rfl (Ev.ldb1 2 (.c rfl) rfl ag9 rfl) rfl ?_ | refine W.qgF rfl rfl (Ev.ldb1 3 (.c rfl) rfl ag9 rfl) rfl ?_ | refine W.qgF rfl rfl (Ev.ldb1 4 (.c rfl) rfl ag9 rfl) rfl ?_
  refine W.qgF rfl rfl (Ev.nes (.c rfl) .k) rfl ?_
  refine W.q (Ev.or (.t rfl) ⟨_, _, rfl, rfl, by first | (simp; done) | (intro hg_ hp_; simp [hp_]; done) | (simp <;> omega; done) | (simp_all; done) | grind⟩) rfl ?_
  refine W.nil ?_
  refine W.then ?_
  refine W.is (t := 26) (g := true) (av' := .lit (.bool false)) rfl (congrArg (fun b => AV.lit (.bool b)) (by rfl)) ?_
  refine W.condF (.t rfl) ?_
  refine W.skip ?_
  refine W.then ?_
  refine W.seq ?_
  refine W.seq ?_
  refine W.region ?_
  first | refine W.q (Ev.lden (.t rfl) ag28 ty28 rfl rfl) rfl ?_ | refine W.q (Ev.ldbn 0 (.t rfl) rfl ag28 ty28 rfl) rfl ?_ | refine W.q (Ev.ldbn 1 (.t rfl) rfl ag28 ty28 rfl) rfl ?_ | refine W.q (Ev.ldbn 2 (.t rfl) rfl ag28 ty28 rfl) rfl ?_ | refine W.q (Ev.ldbn 3 (.t rfl) rfl ag28 ty28 rfl) rfl ?_ | refine W.q (Ev.ldbn 4 (.t rfl) rfl ag28 ty28 rfl) rfl ?_
  refine W.callp (c_Check (It.al s a) hok (by omega) (by omega)) ⟨(.t rfl), trivial⟩ rfl ?_
  refine W.q (Ev.assign (.t rfl)) rfl ?_
  refine W.nil ?_
  refine W.then ?_
  refine W.seq ?_
  refine W.region ?_
  refine W.q (Ev.move (.t rfl)) rfl ?_
  refine W.q (Ev.nei (.t rfl) .k) rfl ?_
  refine W.nil ?_
  refine W.then ?_
  refine W.is (t := 31) (g := true) (av' := .lit (.bool false)) rfl (congrArg (fun b => AV.lit (.bool b)) (by rfl)) ?_
  refine W.condF (.t rfl) ?_
  refine W.skip ?_
  refine W.then ?_
  refine W.seq ?_
  refine W.region ?_
  first | refine W.q (Ev.lden (.t rfl) ag28 ty28 rfl rfl) rfl ?_ | refine W.q (Ev.ldbn 0 (.t rfl) rfl ag28 ty28 rfl) rfl ?_ | refine W.q (Ev.ldbn 1 (.t rfl) rfl ag28 ty28 rfl) rfl ?_ | refine W.q (Ev.ldbn 2 (.t rfl) rfl ag28 ty28 rfl) rfl ?_ | refine W.q (Ev.ldbn 3 (.t rfl) rfl ag28 ty28 rfl) rfl ?_ | refine W.q (Ev.ldbn 4 (.t rfl) rfl ag28 ty28 rfl) rfl ?_
  first | refine W.stb 0 (.t rfl) (.t rfl) rfl ty28 rfl rfl rfl ?_ | refine W.stb 1 (.t rfl) (.t rfl) rfl ty28 rfl rfl rfl ?_ | refine W.stb 2 (.t rfl) (.t rfl) rfl ty28 rfl rfl rfl ?_ | refine W.stb 3 (.t rfl) (.t rfl) rfl ty28 rfl rfl rfl ?_ | refine W.stb 4 (.t rfl) (.t rfl) rfl ty28 rfl rfl rfl ?_
  refine W.q (Ev.assign .k) rfl ?_
  refine W.nil ?_
  refine W.then ?_
  refine W.ret ?_
  refine W.retn (M' := []) (D := _) (rs := [.cell 2 28, .tmp 3]) (avs := [_, _]) Try.results15 ⟨⟨_, _, _, rfl, by first | exact List.mem_cons_self | exact List.mem_cons_of_mem _ List.mem_cons_self | exact List.mem_cons_of_mem _ (List.mem_cons_of_mem _ List.mem_cons_self) | exact List.mem_cons_of_mem _ (List.mem_cons_of_mem _ (List.mem_cons_of_mem _ List.mem_cons_self)) | exact List.mem_cons_of_mem _ (List.mem_cons_of_mem _ (List.mem_cons_of_mem _ (List.mem_cons_of_mem _ List.mem_cons_self))), rfl, by funext w; exact ag28.run w, by funext w; exact ty28.size w⟩, rfl, trivial⟩ rfl (.refl _) ?_
  exact ⟨rfl, rfl⟩

theorem c_exprOf (s : List It) (a : List (List It)) (hs : It.oks s) (ha : It.oka a) (hl : (It.stx s ++ It.atl a).length ≤ 40) : FnP Try.prog 9 [.str (It.stx s ++ It.atl a)] (.tup [(It.al s a).avx, .bool true]) :=  by
  refine FnC.mk Try.func9 (by kernel_rfl) rfl Try.ntmps9 rfl (fun w0 F => ?_)
  have c1 := c_Parse [It.ch 0 []] [] (by simp [It.oks, It.ok]) trivial (by decide)
  refine W.seq ?_
  refine W.region ?_
  refine W.alloc ty28 rfl rfl ?_
  intro b2
  refine W.q (Ev.assign .k) rfl ?_
  refine W.nil ?_
  refine W.then ?_
  refine W.seq ?_
  refine W.region ?_
  refine W.q (Ev.move (.t rfl)) rfl ?_
  refine W.callp (c_Parse s a hs ha hl) ⟨(.t rfl), trivial⟩ rfl ?_
  refine W.q (Ev.move (.t rfl)) rfl ?_
  refine W.q (Ev.extract (.t rfl) rfl) rfl ?_
  refine W.q (Ev.extract (.t rfl) rfl) rfl ?_
  refine W.alloc ty28 rfl rfl ?_
  intro b4
  first | refine W.stb 0 (.t rfl) (.t rfl) rfl ty28 rfl rfl rfl ?_ | refine W.stb 1 (.t rfl) (.t rfl) rfl ty28 rfl rfl rfl ?_ | refine W.stb 2 (.t rfl) (.t rfl) rfl ty28 rfl rfl rfl ?_ | refine W.stb 3 (.t rfl) (.t rfl) rfl ty28 rfl rfl rfl ?_ | refine W.stb 4 (.t rfl) (.t rfl) rfl ty28 rfl rfl rfl ?_
  refine W.q (Ev.assign (.t rfl)) rfl ?_
  refine W.nil ?_
  refine W.then ?_
  refine W.seq ?_
  refine W.region ?_
  refine W.callp (c1) ⟨.k, trivial⟩ rfl ?_
  refine W.q (Ev.move (.t rfl)) rfl ?_
  refine W.q (Ev.extract (.t rfl) rfl) rfl ?_
  refine W.q (Ev.extract (.t rfl) rfl) rfl ?_
  refine W.alloc ty28 rfl rfl ?_
  intro b6
  first | refine W.stb 0 (.t rfl) (.t rfl) rfl ty28 rfl rfl rfl ?_ | refine W.stb 1 (.t rfl) (.t rfl) rfl ty28 rfl rfl rfl ?_ | refine W.stb 2 (.t rfl) (.t rfl) rfl ty28 rfl rfl rfl ?_ | refine W.stb 3 (.t rfl) (.t rfl) rfl ty28 rfl rfl rfl ?_ | refine W.stb 4 (.t rfl) (.t rfl) rfl ty28 rfl rfl rfl ?_
  refine W.q (Ev.assign (.t rfl)) rfl ?_
  refine W.nil ?_
  refine W.then ?_
  refine W.seq ?_
  refine W.drawnE (ι := Unit) (fun ee _ => [.box b6 28 [.int 1, .int 0, .sl 3 []], .box b4 28 (It.al s a).avx.cells, .box b2 28 (bif ee 12 then (It.al s a).avx.cells else [.int 0, .int 0, .lit (.slice none 0 0)])]) 14 () (by kernel_rfl) (by kernel_rfl) rfl ?_
  first | refine DE.q (fun e c hk => (Ev.lden (.t rfl) ag28 ty28 rfl rfl)) rfl (fun _ _ => rfl) (by first | exact .inr (fun _ _ => rfl) | exact .inl (by kernel_rfl)) ?_ | refine DE.q (fun e c hk => (Ev.ldbn 0 (.t rfl) rfl ag28 ty28 rfl)) rfl (fun _ _ => rfl) (by first | exact .inr (fun _ _ => rfl) | exact .inl (by kernel_rfl)) ?_ | refine DE.q (fun e c hk => (Ev.ldbn 1 (.t rfl) rfl ag28 ty28 rfl)) rfl (fun _ _ => rfl) (by first | exact .inr (fun _ _ => rfl) | exact .inl (by kernel_rfl)) ?_ | refine DE.q (fun e c hk => (Ev.ldbn 2 (.t rfl) rfl ag28 ty28 rfl)) rfl (fun _ _ => rfl) (by first | exact .inr (fun _ _ => rfl) | exact .inl (by kernel_rfl)) ?_ | refine DE.q (fun e c hk => (Ev.ldbn 3 (.t rfl) rfl ag28 ty28 rfl)) rfl (fun _ _ => rfl) (by first | exact .inr (fun _ _ => rfl) | exact .inl (by kernel_rfl)) ?_ | refine DE.q (fun e c hk => (Ev.ldbn 4 (.t rfl) rfl ag28 ty28 rfl)) rfl (fun _ _ => rfl) (by first | exact .inr (fun _ _ => rfl) | exact .inl (by kernel_rfl)) ?_
  refine DE.q (fun e c hk => (Ev.move (.t rfl))) rfl (fun _ _ => rfl) (by first | exact .inr (fun _ _ => rfl) | exact .inl (by kernel_rfl)) ?_
  refine DE.q (fun e c hk => (Ev.eqi (.t rfl) .k)) rfl (fun _ _ => rfl) (by first | exact .inr (fun _ _ => rfl) | exact .inl (by kernel_rfl)) ?_
  refine DE.q (fun e c hk => (Ev.move (.t rfl))) rfl (fun _ _ => rfl) (by first | exact .inr (fun _ _ => rfl) | exact .inl (by kernel_rfl)) ?_
  refine DE.qg rfl (fun _ => rfl) (fun e c hk => (Ev.move (.t rfl))) rfl (fun _ _ => rfl) (by first | exact .inr (fun _ _ => rfl) | exact .inl (by kernel_rfl)) ?_
  refine DE.qg rfl (fun _ => rfl) (fun e c hk => (Ev.eqi (.c rfl) .k)) rfl (fun _ _ => rfl) (by first | exact .inr (fun _ _ => rfl) | exact .inl (by kernel_rfl)) ?_
  refine DE.q (fun e c hk => (Ev.and (.t rfl) ⟨_, _, rfl, rfl, by first | (simp; done) | (intro hg_ hp_; simp [hp_]; done) | (simp <;> omega; done) | (simp_all; done) | grind⟩)) rfl (fun _ _ => rfl) (by first | exact .inr (fun _ _ => rfl) | exact .inl (by kernel_rfl)) ?_
  refine DE.q (fun e c hk => (Ev.move (.t rfl))) rfl (fun _ _ => rfl) (by first | exact .inr (fun _ _ => rfl) | exact .inl (by kernel_rfl)) ?_
  first | refine DE.qg rfl (fun _ => rfl) (fun e c hk => (Ev.fae (.t rfl) fa28_0 rfl)) rfl (fun _ _ => rfl) (by first | exact .inr (fun _ _ => rfl) | exact .inl (by kernel_rfl)) ?_ | refine DE.qg rfl (fun _ => rfl) (fun e c hk => (Ev.fab (.t rfl) fa28_0)) rfl (fun _ _ => rfl) (by first | exact .inr (fun _ _ => rfl) | exact .inl (by kernel_rfl)) ?_ | refine DE.qg rfl (fun _ => rfl) (fun e c hk => (Ev.faa (.t rfl) fa28_0)) rfl (fun _ _ => rfl) (by first | exact .inr (fun _ _ => rfl) | exact .inl (by kernel_rfl)) ?_
  first | refine DE.qg rfl (fun _ => rfl) (fun e c hk => (Ev.lde1 (.c rfl) ag3)) rfl (fun _ _ => rfl) (by first | exact .inr (fun _ _ => rfl) | exact .inl (by kernel_rfl)) ?_ | refine DE.qg rfl (fun _ => rfl) (fun e c hk => (Ev.ldb1 0 (.c rfl) rfl ag3 rfl)) rfl (fun _ _ => rfl) (by first | exact .inr (fun _ _ => rfl) | exact .inl (by kernel_rfl)) ?_ | refine DE.qg rfl (fun _ => rfl) (fun e c hk => (Ev.ldb1 1 (.c rfl) rfl ag3 rfl)) rfl (fun _ _ => rfl) (by first | exact .inr (fun _ _ => rfl) | exact .inl (by kernel_rfl)) ?_ | refine DE.qg rfl (fun _ => rfl) (fun e c hk => (Ev.ldb1 2 (.c rfl) rfl ag3 rfl)) rfl (fun _ _ => rfl) (by first | exact .inr (fun _ _ => rfl) | exact .inl (by kernel_rfl)) ?_ | refine DE.qg rfl (fun _ => rfl) (fun e c hk => (Ev.ldb1 3 (.c rfl) rfl ag3 rfl)) rfl (fun _ _ => rfl) (by first | exact .inr (fun _ _ => rfl) | exact .inl (by kernel_rfl)) ?_ | refine DE.qg rfl (fun _ => rfl) (fun e c hk => (Ev.ldb1 4 (.c rfl) rfl ag3 rfl)) rfl (fun _ _ => rfl) (by first | exact .inr (fun _ _ => rfl) | exact .inl (by kernel_rfl)) ?_
  refine DE.qg rfl (fun _ => rfl) (fun e c hk => (Ev.eqi (.c rfl) .k)) rfl (fun _ _ => rfl) (by first | exact .inr (fun _ _ => rfl) | exact .inl (by kernel_rfl)) ?_
  refine DE.q (fun e c hk => (Ev.and (.t rfl) ⟨_, _, rfl, rfl, by first | (simp; done) | (intro hg_ hp_; simp [hp_]; done) | (simp <;> omega; done) | (simp_all; done) | grind⟩)) rfl (fun _ _ => rfl) (by first | exact .inr (fun _ _ => rfl) | exact .inl (by kernel_rfl)) ?_
  refine DE.eff0 (fun e c hk L_ hs Q h => ?_) ?_
  · have hk_12 := hk.not
    simp only [addE, hk_12, Nat.reduceAdd, Nat.reduceEqDiff, ↓reduceIte, cond_true, cond_false] at h ⊢
    first | (refine W.stb 0 (.t (hs _ _ rfl)) (.t (hs _ _ rfl)) rfl ty28 rfl rfl rfl ?_; exact h) | (refine W.stb 1 (.t (hs _ _ rfl)) (.t (hs _ _ rfl)) rfl ty28 rfl rfl rfl ?_; exact h) | (refine W.stb 2 (.t (hs _ _ rfl)) (.t (hs _ _ rfl)) rfl ty28 rfl rfl rfl ?_; exact h) | (refine W.stb 3 (.t (hs _ _ rfl)) (.t (hs _ _ rfl)) rfl ty28 rfl rfl rfl ?_; exact h) | (refine W.stb 4 (.t (hs _ _ rfl)) (.t (hs _ _ rfl)) rfl ty28 rfl rfl rfl ?_; exact h)
  refine DE.q (fun e c hk => (Ev.assign (.t rfl))) rfl (fun _ _ => rfl) (by first | exact .inr (fun _ _ => rfl) | exact .inl (by kernel_rfl)) ?_
  refine DE.nil (fun c_ e_ he_ => ?_)
  simp only [he_ 12 (by decide), cond_true, cond_false]
  refine W.then ?_
  refine W.ret ?_
  refine W.retn (M' := []) (D := _) (rs := [.cell 2 28, .tmp 3]) (avs := [_, _]) Try.results9 ⟨⟨_, _, _, rfl, by first | exact List.mem_cons_self | exact List.mem_cons_of_mem _ List.mem_cons_self | exact List.mem_cons_of_mem _ (List.mem_cons_of_mem _ List.mem_cons_self) | exact List.mem_cons_of_mem _ (List.mem_cons_of_mem _ (List.mem_cons_of_mem _ List.mem_cons_self)) | exact List.mem_cons_of_mem _ (List.mem_cons_of_mem _ (List.mem_cons_of_mem _ (List.mem_cons_of_mem _ List.mem_cons_self))), rfl, by funext w; exact ag28.run w, by funext w; exact ty28.size w⟩, rfl, trivial⟩ rfl (.refl _) ?_
  exact ⟨rfl, rfl⟩

end WParse3

end Go.Proofs.Ythhkionhimbekaa
