/-
  Merged: WSame Pick WNoise Lws.
-/
import Derived.Test.YtbdfeolffigdoaaDoorG4
import Derived.Lib.LaidTab

section
set_option linter.unusedVariables false
set_option linter.unusedSimpArgs false
set_option maxRecDepth 100000
namespace Go.Proofs.YtbdfeolffigdoaaDoor
open Go.Vl

namespace WSame
theorem ty9 : Ty Tryd.prog 9 1 16 (.string ⟨#[]⟩) := Ty.of (by kernel_rfl)
theorem ty26 : Ty Tryd.prog 26 1 24 (.slice none 0 0) := Ty.of (by kernel_rfl)
theorem ty29 : Ty Tryd.prog 29 1 24 (.slice none 0 0) := Ty.of (by kernel_rfl)
theorem ty37 : Ty Tryd.prog 37 2 32 (.agg #[.string ⟨#[]⟩, .string ⟨#[]⟩]) := Ty.of (by kernel_rfl)
theorem ty52 : Ty Tryd.prog 52 4 80 (.agg #[.string ⟨#[]⟩, .slice none 0 0, .string ⟨#[]⟩, .slice none 0 0]) := Ty.of (by kernel_rfl)
theorem ag9 : IsAgg Tryd.prog 9 false := ⟨_, Tryd.underlying9, rfl⟩
theorem ag26 : IsAgg Tryd.prog 26 false := ⟨_, Tryd.underlying26, rfl⟩
theorem ag29 : IsAgg Tryd.prog 29 false := ⟨_, Tryd.underlying29, rfl⟩
theorem ag37 : IsAgg Tryd.prog 37 true := ⟨_, Tryd.underlying37, rfl⟩
theorem fa52_0 : FieldAt Tryd.prog 52 0 0 1 false := ⟨_, _, Tryd.underlying52, rfl, rfl, ty9.size, ag9, by decide⟩
theorem fa52_1 : FieldAt Tryd.prog 52 1 1 1 false := ⟨_, _, Tryd.underlying52, rfl, rfl, ty26.size, ag26, by decide⟩
theorem fa52_2 : FieldAt Tryd.prog 52 2 2 1 false := ⟨_, _, Tryd.underlying52, rfl, rfl, ty9.size, ag9, by decide⟩
theorem fa52_3 : FieldAt Tryd.prog 52 3 3 1 false := ⟨_, _, Tryd.underlying52, rfl, rfl, ty29.size, ag29, by decide⟩
theorem s2_37 : Str2 Tryd.prog 37 := Str2.of Tryd.underlying37 (by kernel_rfl) (by kernel_rfl) (by decide) (by decide) rfl rfl Tryd.underlying9 Tryd.underlying9
theorem c_same_step (n : Nat) (hn : n ≤ 16777216) (ih : ∀ l, Nd.szs l < n → FnP Tryd.prog 7 [.sl 4 (l.map Nd.av), .sl 4 (l.map Nd.av)] (.bool true)) (l : List Nd) (hl : Nd.szs l = n) : FnP Tryd.prog 7 [.sl 4 (l.map Nd.av), .sl 4 (l.map Nd.av)] (.bool true) :=  by
  refine FnC.mk Tryd.func7 (by kernel_rfl) rfl Tryd.ntmps7 rfl (fun w0 F => ?_)
  have hll : (l.map Nd.av).length = l.length := List.length_map ..
  have hsl := Nd.szs_len l
  refine W.seq ?_
  refine W.region ?_
  refine W.q (Ev.assign .k) rfl ?_
  refine W.nil ?_
  refine W.then ?_
  refine W.seq ?_
  refine W.seq ?_
  refine W.region ?_
  refine W.q (Ev.move (.t rfl)) rfl ?_
  first | refine W.q (Ev.lensl (.t rfl) Tryd.underlying29) rfl ?_ | refine W.q (Ev.lenar (i := 0) (.t rfl) rfl Tryd.underlying29) rfl ?_ | refine W.q (Ev.lenar (i := 1) (.t rfl) rfl Tryd.underlying29) rfl ?_ | refine W.q (Ev.lenar (i := 2) (.t rfl) rfl Tryd.underlying29) rfl ?_ | refine W.q (Ev.lenar (i := 3) (.t rfl) rfl Tryd.underlying29) rfl ?_
  refine W.q (Ev.move (.t rfl)) rfl ?_
  first | refine W.q (Ev.lensl (.t rfl) Tryd.underlying29) rfl ?_ | refine W.q (Ev.lenar (i := 0) (.t rfl) rfl Tryd.underlying29) rfl ?_ | refine W.q (Ev.lenar (i := 1) (.t rfl) rfl Tryd.underlying29) rfl ?_ | refine W.q (Ev.lenar (i := 2) (.t rfl) rfl Tryd.underlying29) rfl ?_ | refine W.q (Ev.lenar (i := 3) (.t rfl) rfl Tryd.underlying29) rfl ?_
  refine W.q (Ev.nei (.t rfl) (.t rfl)) rfl ?_
  refine W.nil ?_
  refine W.then ?_
  refine W.is (t := 11) (g := true) (av' := .lit (.bool false)) rfl (congrArg (fun b => AV.lit (.bool b)) (by simp)) ?_
  refine W.condF (.t rfl) ?_
  refine W.skip ?_
  refine W.then ?_
  refine W.seq ?_
  refine W.seq ?_
  refine W.region ?_
  refine W.q (Ev.assign .k) rfl ?_
  refine W.nil ?_
  refine W.then ?_
  refine W.block ?_
  refine W.loop (D := []) (ι := Nat) (fun i => [(5, true, .int (i : Int)), (0, true, .sl 4 (l.map Nd.av)), (1, true, .sl 4 (l.map Nd.av))]) (fun _ => []) (fun i => i ≤ l.length) (fun i => l.length - i) 0 ⟨rfl, rfl, rfl, trivial⟩ (.refl _) (Nat.zero_le _) ?_
  intro i hi
  dsimp only at hi ⊢
  rcases (show i < l.length ∨ i = l.length from by omega) with hlt | hend
  · have hga := Nd.at_av l i hlt
    have hsz := Nd.at_sz l i hlt
    generalize hd : l.getD i Nd.dflt = d at hga hsz
    have hse := Nd.sz_eq d
    have hsp := Nd.szs_len d.parts
    have hat : (d.attrs.map dav).length = d.attrs.length := List.length_map ..
    refine W.seq ?_
    refine W.seq ?_
    refine W.region ?_
    refine W.q (Ev.move (.t rfl)) rfl ?_
    refine W.q (Ev.move (.t rfl)) rfl ?_
    first | refine W.q (Ev.lensl (.t rfl) Tryd.underlying29) rfl ?_ | refine W.q (Ev.lenar (i := 0) (.t rfl) rfl Tryd.underlying29) rfl ?_ | refine W.q (Ev.lenar (i := 1) (.t rfl) rfl Tryd.underlying29) rfl ?_ | refine W.q (Ev.lenar (i := 2) (.t rfl) rfl Tryd.underlying29) rfl ?_ | refine W.q (Ev.lenar (i := 3) (.t rfl) rfl Tryd.underlying29) rfl ?_
    refine W.q (Ev.lti (.t rfl) (.t rfl)) rfl ?_
    refine W.nil ?_
    refine W.then ?_
    refine W.is (t := 15) (g := true) (av' := .lit (.bool true)) rfl (congrArg (fun b => AV.lit (.bool b)) (by simp; omega)) ?_
    refine W.condT (.t rfl) ?_
    refine W.skip ?_
    refine W.then ?_
    refine W.seq ?_
    refine W.block ?_
    refine W.seq ?_
    refine W.seq ?_
    refine W.drawnE (ι := Unit) (fun _ _ => _) 53 () (by kernel_rfl) (by kernel_rfl) rfl ?_
    refine DE.q (fun e c hk => (Ev.move (.t rfl))) rfl (fun _ _ => rfl) (by first | exact .inr (fun _ _ => rfl) | exact .inl (by kernel_rfl)) ?_
    refine DE.q (fun e c hk => (Ev.move (.t rfl))) rfl (fun _ _ => rfl) (by first | exact .inr (fun _ _ => rfl) | exact .inl (by kernel_rfl)) ?_
    refine DE.q (fun e c hk => Ev.at (E := 52) (.t rfl) (.t rfl) Tryd.underlying29 ty52 (fun _ => ⟨by omega, hga⟩) rfl rfl) rfl (fun _ _ => rfl) (by first | exact .inr (fun _ _ => rfl) | exact .inl (by kernel_rfl)) ?_
    first | refine DE.q (fun e c hk => (Ev.fae (.t rfl) fa52_0 rfl)) rfl (fun _ _ => rfl) (by first | exact .inr (fun _ _ => rfl) | exact .inl (by kernel_rfl)) ?_ | refine DE.q (fun e c hk => (Ev.fab (.t rfl) fa52_0)) rfl (fun _ _ => rfl) (by first | exact .inr (fun _ _ => rfl) | exact .inl (by kernel_rfl)) ?_ | refine DE.q (fun e c hk => (Ev.faa (.t rfl) fa52_0)) rfl (fun _ _ => rfl) (by first | exact .inr (fun _ _ => rfl) | exact .inl (by kernel_rfl)) ?_
    first | refine DE.q (fun e c hk => (Ev.lde1 (.t rfl) ag9)) rfl (fun _ _ => rfl) (by first | exact .inr (fun _ _ => rfl) | exact .inl (by kernel_rfl)) ?_ | refine DE.q (fun e c hk => (Ev.ldb1 0 (.t rfl) rfl ag9 rfl)) rfl (fun _ _ => rfl) (by first | exact .inr (fun _ _ => rfl) | exact .inl (by kernel_rfl)) ?_ | refine DE.q (fun e c hk => (Ev.ldb1 1 (.t rfl) rfl ag9 rfl)) rfl (fun _ _ => rfl) (by first | exact .inr (fun _ _ => rfl) | exact .inl (by kernel_rfl)) ?_ | refine DE.q (fun e c hk => (Ev.ldb1 2 (.t rfl) rfl ag9 rfl)) rfl (fun _ _ => rfl) (by first | exact .inr (fun _ _ => rfl) | exact .inl (by kernel_rfl)) ?_ | refine DE.q (fun e c hk => (Ev.ldb1 3 (.t rfl) rfl ag9 rfl)) rfl (fun _ _ => rfl) (by first | exact .inr (fun _ _ => rfl) | exact .inl (by kernel_rfl)) ?_
    refine DE.q (fun e c hk => (Ev.move (.t rfl))) rfl (fun _ _ => rfl) (by first | exact .inr (fun _ _ => rfl) | exact .inl (by kernel_rfl)) ?_
    refine DE.q (fun e c hk => (Ev.move (.t rfl))) rfl (fun _ _ => rfl) (by first | exact .inr (fun _ _ => rfl) | exact .inl (by kernel_rfl)) ?_
    refine DE.q (fun e c hk => Ev.at (E := 52) (.t rfl) (.t rfl) Tryd.underlying29 ty52 (fun _ => ⟨by omega, hga⟩) rfl rfl) rfl (fun _ _ => rfl) (by first | exact .inr (fun _ _ => rfl) | exact .inl (by kernel_rfl)) ?_
    first | refine DE.q (fun e c hk => (Ev.fae (.t rfl) fa52_0 rfl)) rfl (fun _ _ => rfl) (by first | exact .inr (fun _ _ => rfl) | exact .inl (by kernel_rfl)) ?_ | refine DE.q (fun e c hk => (Ev.fab (.t rfl) fa52_0)) rfl (fun _ _ => rfl) (by first | exact .inr (fun _ _ => rfl) | exact .inl (by kernel_rfl)) ?_ | refine DE.q (fun e c hk => (Ev.faa (.t rfl) fa52_0)) rfl (fun _ _ => rfl) (by first | exact .inr (fun _ _ => rfl) | exact .inl (by kernel_rfl)) ?_
    first | refine DE.q (fun e c hk => (Ev.lde1 (.t rfl) ag9)) rfl (fun _ _ => rfl) (by first | exact .inr (fun _ _ => rfl) | exact .inl (by kernel_rfl)) ?_ | refine DE.q (fun e c hk => (Ev.ldb1 0 (.t rfl) rfl ag9 rfl)) rfl (fun _ _ => rfl) (by first | exact .inr (fun _ _ => rfl) | exact .inl (by kernel_rfl)) ?_ | refine DE.q (fun e c hk => (Ev.ldb1 1 (.t rfl) rfl ag9 rfl)) rfl (fun _ _ => rfl) (by first | exact .inr (fun _ _ => rfl) | exact .inl (by kernel_rfl)) ?_ | refine DE.q (fun e c hk => (Ev.ldb1 2 (.t rfl) rfl ag9 rfl)) rfl (fun _ _ => rfl) (by first | exact .inr (fun _ _ => rfl) | exact .inl (by kernel_rfl)) ?_ | refine DE.q (fun e c hk => (Ev.ldb1 3 (.t rfl) rfl ag9 rfl)) rfl (fun _ _ => rfl) (by first | exact .inr (fun _ _ => rfl) | exact .inl (by kernel_rfl)) ?_
    refine DE.q (fun e c hk => (Ev.nes (.t rfl) (.t rfl))) rfl (fun _ _ => rfl) (by first | exact .inr (fun _ _ => rfl) | exact .inl (by kernel_rfl)) ?_
    refine DE.q (fun e c hk => (Ev.move (.t rfl))) rfl (fun _ _ => rfl) (by first | exact .inr (fun _ _ => rfl) | exact .inl (by kernel_rfl)) ?_
    refine DE.qg rfl (fun _ => rfl) (fun e c hk => (Ev.move (.t rfl))) rfl (fun _ _ => rfl) (by first | exact .inr (fun _ _ => rfl) | exact .inl (by kernel_rfl)) ?_
    refine DE.qg rfl (fun _ => rfl) (fun e c hk => (Ev.move (.t rfl))) rfl (fun _ _ => rfl) (by first | exact .inr (fun _ _ => rfl) | exact .inl (by kernel_rfl)) ?_
    refine DE.qg rfl (fun _ => rfl) (fun e c hk => Ev.at (E := 52) (.c rfl) (.c rfl) Tryd.underlying29 ty52 (fun _ => ⟨by omega, hga⟩) rfl rfl) rfl (fun _ _ => rfl) (by first | exact .inr (fun _ _ => rfl) | exact .inl (by kernel_rfl)) ?_
    first | refine DE.qg rfl (fun _ => rfl) (fun e c hk => (Ev.fae (.c rfl) fa52_2 rfl)) rfl (fun _ _ => rfl) (by first | exact .inr (fun _ _ => rfl) | exact .inl (by kernel_rfl)) ?_ | refine DE.qg rfl (fun _ => rfl) (fun e c hk => (Ev.fab (.c rfl) fa52_2)) rfl (fun _ _ => rfl) (by first | exact .inr (fun _ _ => rfl) | exact .inl (by kernel_rfl)) ?_ | refine DE.qg rfl (fun _ => rfl) (fun e c hk => (Ev.faa (.c rfl) fa52_2)) rfl (fun _ _ => rfl) (by first | exact .inr (fun _ _ => rfl) | exact .inl (by kernel_rfl)) ?_
    first | refine DE.qg rfl (fun _ => rfl) (fun e c hk => (Ev.lde1 (.c rfl) ag9)) rfl (fun _ _ => rfl) (by first | exact .inr (fun _ _ => rfl) | exact .inl (by kernel_rfl)) ?_ | refine DE.qg rfl (fun _ => rfl) (fun e c hk => (Ev.ldb1 0 (.c rfl) rfl ag9 rfl)) rfl (fun _ _ => rfl) (by first | exact .inr (fun _ _ => rfl) | exact .inl (by kernel_rfl)) ?_ | refine DE.qg rfl (fun _ => rfl) (fun e c hk => (Ev.ldb1 1 (.c rfl) rfl ag9 rfl)) rfl (fun _ _ => rfl) (by first | exact .inr (fun _ _ => rfl) | exact .inl (by kernel_rfl)) ?_ | refine DE.qg rfl (fun _ => rfl) (fun e c hk => (Ev.ldb1 2 (.c rfl) rfl ag9 rfl)) rfl (fun _ _ => rfl) (by first | exact .inr (fun _ _ => rfl) | exact .inl (by kernel_rfl)) ?_ | refine DE.qg rfl (fun _ => rfl) (fun e c hk => (Ev.ldb1 3 (.c rfl) rfl ag9 rfl)) rfl (fun _ _ => rfl) (by first | exact .inr (fun _ _ => rfl) | exact .inl (by kernel_rfl)) ?_
    refine DE.qg rfl (fun _ => rfl) (fun e c hk => (Ev.move (.t rfl))) rfl (fun _ _ => rfl) (by first | exact .inr (fun _ _ => rfl) | exact .inl (by kernel_rfl)) ?_
    refine DE.qg rfl (fun _ => rfl) (fun e c hk => (Ev.move (.t rfl))) rfl (fun _ _ => rfl) (by first | exact .inr (fun _ _ => rfl) | exact .inl (by kernel_rfl)) ?_
    refine DE.qg rfl (fun _ => rfl) (fun e c hk => Ev.at (E := 52) (.c rfl) (.c rfl) Tryd.underlying29 ty52 (fun _ => ⟨by omega, hga⟩) rfl rfl) rfl (fun _ _ => rfl) (by first | exact .inr (fun _ _ => rfl) | exact .inl (by kernel_rfl)) ?_
    first | refine DE.qg rfl (fun _ => rfl) (fun e c hk => (Ev.fae (.c rfl) fa52_2 rfl)) rfl (fun _ _ => rfl) (by first | exact .inr (fun _ _ => rfl) | exact .inl (by kernel_rfl)) ?_ | refine DE.qg rfl (fun _ => rfl) (fun e c hk => (Ev.fab (.c rfl) fa52_2)) rfl (fun _ _ => rfl) (by first | exact .inr (fun _ _ => rfl) | exact .inl (by kernel_rfl)) ?_ | refine DE.qg rfl (fun _ => rfl) (fun e c hk => (Ev.faa (.c rfl) fa52_2)) rfl (fun _ _ => rfl) (by first | exact .inr (fun _ _ => rfl) | exact .inl (by kernel_rfl)) ?_
    first | refine DE.qg rfl (fun _ => rfl) (fun e c hk => (Ev.lde1 (.c rfl) ag9)) rfl (fun _ _ => rfl) (by first | exact .inr (fun _ _ => rfl) | exact .inl (by kernel_rfl)) ?_ | refine DE.qg rfl (fun _ => rfl) (fun e c hk => (Ev.ldb1 0 (.c rfl) rfl ag9 rfl)) rfl (fun _ _ => rfl) (by first | exact .inr (fun _ _ => rfl) | exact .inl (by kernel_rfl)) ?_ | refine DE.qg rfl (fun _ => rfl) (fun e c hk => (Ev.ldb1 1 (.c rfl) rfl ag9 rfl)) rfl (fun _ _ => rfl) (by first | exact .inr (fun _ _ => rfl) | exact .inl (by kernel_rfl)) ?_ | refine DE.qg rfl (fun _ => rfl) (fun e c hk => (Ev.ldb1 2 (.c rfl) rfl ag9 rfl)) rfl (fun _ _ => rfl) (by first | exact .inr (fun _ _ => rfl) | exact .inl (by kernel_rfl)) ?_ | refine DE.qg rfl (fun _ => rfl) (fun e c hk => (Ev.ldb1 3 (.c rfl) rfl ag9 rfl)) rfl (fun _ _ => rfl) (by first | exact .inr (fun _ _ => rfl) | exact .inl (by kernel_rfl)) ?_
    refine DE.qg rfl (fun _ => rfl) (fun e c hk => (Ev.nes (.c rfl) (.c rfl))) rfl (fun _ _ => rfl) (by first | exact .inr (fun _ _ => rfl) | exact .inl (by kernel_rfl)) ?_
    refine DE.q (fun e c hk => (Ev.or (.t rfl) ⟨_, _, rfl, rfl, by first | (simp; done) | (intro hg_ hp_; simp [hp_]; done) | (simp <;> omega; done) | (simp_all; done) | grind⟩)) rfl (fun _ _ => rfl) (by first | exact .inr (fun _ _ => rfl) | exact .inl (by kernel_rfl)) ?_
    refine DE.q (fun e c hk => (Ev.move (.t rfl))) rfl (fun _ _ => rfl) (by first | exact .inr (fun _ _ => rfl) | exact .inl (by kernel_rfl)) ?_
    refine DE.qg rfl (fun _ => rfl) (fun e c hk => (Ev.move (.t rfl))) rfl (fun _ _ => rfl) (by first | exact .inr (fun _ _ => rfl) | exact .inl (by kernel_rfl)) ?_
    refine DE.qg rfl (fun _ => rfl) (fun e c hk => (Ev.move (.t rfl))) rfl (fun _ _ => rfl) (by first | exact .inr (fun _ _ => rfl) | exact .inl (by kernel_rfl)) ?_
    refine DE.qg rfl (fun _ => rfl) (fun e c hk => Ev.at (E := 52) (.c rfl) (.c rfl) Tryd.underlying29 ty52 (fun _ => ⟨by omega, hga⟩) rfl rfl) rfl (fun _ _ => rfl) (by first | exact .inr (fun _ _ => rfl) | exact .inl (by kernel_rfl)) ?_
    first | refine DE.qg rfl (fun _ => rfl) (fun e c hk => (Ev.fae (.c rfl) fa52_1 rfl)) rfl (fun _ _ => rfl) (by first | exact .inr (fun _ _ => rfl) | exact .inl (by kernel_rfl)) ?_ | refine DE.qg rfl (fun _ => rfl) (fun e c hk => (Ev.fab (.c rfl) fa52_1)) rfl (fun _ _ => rfl) (by first | exact .inr (fun _ _ => rfl) | exact .inl (by kernel_rfl)) ?_ | refine DE.qg rfl (fun _ => rfl) (fun e c hk => (Ev.faa (.c rfl) fa52_1)) rfl (fun _ _ => rfl) (by first | exact .inr (fun _ _ => rfl) | exact .inl (by kernel_rfl)) ?_
    first | refine DE.qg rfl (fun _ => rfl) (fun e c hk => (Ev.lde1 (.c rfl) ag26)) rfl (fun _ _ => rfl) (by first | exact .inr (fun _ _ => rfl) | exact .inl (by kernel_rfl)) ?_ | refine DE.qg rfl (fun _ => rfl) (fun e c hk => (Ev.ldb1 0 (.c rfl) rfl ag26 rfl)) rfl (fun _ _ => rfl) (by first | exact .inr (fun _ _ => rfl) | exact .inl (by kernel_rfl)) ?_ | refine DE.qg rfl (fun _ => rfl) (fun e c hk => (Ev.ldb1 1 (.c rfl) rfl ag26 rfl)) rfl (fun _ _ => rfl) (by first | exact .inr (fun _ _ => rfl) | exact .inl (by kernel_rfl)) ?_ | refine DE.qg rfl (fun _ => rfl) (fun e c hk => (Ev.ldb1 2 (.c rfl) rfl ag26 rfl)) rfl (fun _ _ => rfl) (by first | exact .inr (fun _ _ => rfl) | exact .inl (by kernel_rfl)) ?_ | refine DE.qg rfl (fun _ => rfl) (fun e c hk => (Ev.ldb1 3 (.c rfl) rfl ag26 rfl)) rfl (fun _ _ => rfl) (by first | exact .inr (fun _ _ => rfl) | exact .inl (by kernel_rfl)) ?_
    first | refine DE.qg rfl (fun _ => rfl) (fun e c hk => (Ev.lensl (.c rfl) Tryd.underlying26)) rfl (fun _ _ => rfl) (by first | exact .inr (fun _ _ => rfl) | exact .inl (by kernel_rfl)) ?_ | refine DE.qg rfl (fun _ => rfl) (fun e c hk => (Ev.lenar (i := 0) (.c rfl) rfl Tryd.underlying26)) rfl (fun _ _ => rfl) (by first | exact .inr (fun _ _ => rfl) | exact .inl (by kernel_rfl)) ?_ | refine DE.qg rfl (fun _ => rfl) (fun e c hk => (Ev.lenar (i := 1) (.c rfl) rfl Tryd.underlying26)) rfl (fun _ _ => rfl) (by first | exact .inr (fun _ _ => rfl) | exact .inl (by kernel_rfl)) ?_ | refine DE.qg rfl (fun _ => rfl) (fun e c hk => (Ev.lenar (i := 2) (.c rfl) rfl Tryd.underlying26)) rfl (fun _ _ => rfl) (by first | exact .inr (fun _ _ => rfl) | exact .inl (by kernel_rfl)) ?_ | refine DE.qg rfl (fun _ => rfl) (fun e c hk => (Ev.lenar (i := 3) (.c rfl) rfl Tryd.underlying26)) rfl (fun _ _ => rfl) (by first | exact .inr (fun _ _ => rfl) | exact .inl (by kernel_rfl)) ?_
    refine DE.qg rfl (fun _ => rfl) (fun e c hk => (Ev.move (.t rfl))) rfl (fun _ _ => rfl) (by first | exact .inr (fun _ _ => rfl) | exact .inl (by kernel_rfl)) ?_
    refine DE.qg rfl (fun _ => rfl) (fun e c hk => (Ev.move (.t rfl))) rfl (fun _ _ => rfl) (by first | exact .inr (fun _ _ => rfl) | exact .inl (by kernel_rfl)) ?_
    refine DE.qg rfl (fun _ => rfl) (fun e c hk => Ev.at (E := 52) (.c rfl) (.c rfl) Tryd.underlying29 ty52 (fun _ => ⟨by omega, hga⟩) rfl rfl) rfl (fun _ _ => rfl) (by first | exact .inr (fun _ _ => rfl) | exact .inl (by kernel_rfl)) ?_
    first | refine DE.qg rfl (fun _ => rfl) (fun e c hk => (Ev.fae (.c rfl) fa52_1 rfl)) rfl (fun _ _ => rfl) (by first | exact .inr (fun _ _ => rfl) | exact .inl (by kernel_rfl)) ?_ | refine DE.qg rfl (fun _ => rfl) (fun e c hk => (Ev.fab (.c rfl) fa52_1)) rfl (fun _ _ => rfl) (by first | exact .inr (fun _ _ => rfl) | exact .inl (by kernel_rfl)) ?_ | refine DE.qg rfl (fun _ => rfl) (fun e c hk => (Ev.faa (.c rfl) fa52_1)) rfl (fun _ _ => rfl) (by first | exact .inr (fun _ _ => rfl) | exact .inl (by kernel_rfl)) ?_
    first | refine DE.qg rfl (fun _ => rfl) (fun e c hk => (Ev.lde1 (.c rfl) ag26)) rfl (fun _ _ => rfl) (by first | exact .inr (fun _ _ => rfl) | exact .inl (by kernel_rfl)) ?_ | refine DE.qg rfl (fun _ => rfl) (fun e c hk => (Ev.ldb1 0 (.c rfl) rfl ag26 rfl)) rfl (fun _ _ => rfl) (by first | exact .inr (fun _ _ => rfl) | exact .inl (by kernel_rfl)) ?_ | refine DE.qg rfl (fun _ => rfl) (fun e c hk => (Ev.ldb1 1 (.c rfl) rfl ag26 rfl)) rfl (fun _ _ => rfl) (by first | exact .inr (fun _ _ => rfl) | exact .inl (by kernel_rfl)) ?_ | refine DE.qg rfl (fun _ => rfl) (fun e c hk => (Ev.ldb1 2 (.c rfl) rfl ag26 rfl)) rfl (fun _ _ => rfl) (by first | exact .inr (fun _ _ => rfl) | exact .inl (by kernel_rfl)) ?_ | refine DE.qg rfl (fun _ => rfl) (fun e c hk => (Ev.ldb1 3 (.c rfl) rfl ag26 rfl)) rfl (fun _ _ => rfl) (by first | exact .inr (fun _ _ => rfl) | exact .inl (by kernel_rfl)) ?_
    first | refine DE.qg rfl (fun _ => rfl) (fun e c hk => (Ev.lensl (.c rfl) Tryd.underlying26)) rfl (fun _ _ => rfl) (by first | exact .inr (fun _ _ => rfl) | exact .inl (by kernel_rfl)) ?_ | refine DE.qg rfl (fun _ => rfl) (fun e c hk => (Ev.lenar (i := 0) (.c rfl) rfl Tryd.underlying26)) rfl (fun _ _ => rfl) (by first | exact .inr (fun _ _ => rfl) | exact .inl (by kernel_rfl)) ?_ | refine DE.qg rfl (fun _ => rfl) (fun e c hk => (Ev.lenar (i := 1) (.c rfl) rfl Tryd.underlying26)) rfl (fun _ _ => rfl) (by first | exact .inr (fun _ _ => rfl) | exact .inl (by kernel_rfl)) ?_ | refine DE.qg rfl (fun _ => rfl) (fun e c hk => (Ev.lenar (i := 2) (.c rfl) rfl Tryd.underlying26)) rfl (fun _ _ => rfl) (by first | exact .inr (fun _ _ => rfl) | exact .inl (by kernel_rfl)) ?_ | refine DE.qg rfl (fun _ => rfl) (fun e c hk => (Ev.lenar (i := 3) (.c rfl) rfl Tryd.underlying26)) rfl (fun _ _ => rfl) (by first | exact .inr (fun _ _ => rfl) | exact .inl (by kernel_rfl)) ?_
    refine DE.qg rfl (fun _ => rfl) (fun e c hk => (Ev.nei (.c rfl) (.c rfl))) rfl (fun _ _ => rfl) (by first | exact .inr (fun _ _ => rfl) | exact .inl (by kernel_rfl)) ?_
    refine DE.q (fun e c hk => (Ev.or (.t rfl) ⟨_, _, rfl, rfl, by first | (simp; done) | (intro hg_ hp_; simp [hp_]; done) | (simp <;> omega; done) | (simp_all; done) | grind⟩)) rfl (fun _ _ => rfl) (by first | exact .inr (fun _ _ => rfl) | exact .inl (by kernel_rfl)) ?_
    refine DE.q (fun e c hk => (Ev.move (.t rfl))) rfl (fun _ _ => rfl) (by first | exact .inr (fun _ _ => rfl) | exact .inl (by kernel_rfl)) ?_
    refine DE.qg rfl (fun _ => rfl) (fun e c hk => (Ev.move (.t rfl))) rfl (fun _ _ => rfl) (by first | exact .inr (fun _ _ => rfl) | exact .inl (by kernel_rfl)) ?_
    refine DE.qg rfl (fun _ => rfl) (fun e c hk => (Ev.move (.t rfl))) rfl (fun _ _ => rfl) (by first | exact .inr (fun _ _ => rfl) | exact .inl (by kernel_rfl)) ?_
    refine DE.qg rfl (fun _ => rfl) (fun e c hk => Ev.at (E := 52) (.c rfl) (.c rfl) Tryd.underlying29 ty52 (fun _ => ⟨by omega, hga⟩) rfl rfl) rfl (fun _ _ => rfl) (by first | exact .inr (fun _ _ => rfl) | exact .inl (by kernel_rfl)) ?_
    first | refine DE.qg rfl (fun _ => rfl) (fun e c hk => (Ev.fae (.c rfl) fa52_3 rfl)) rfl (fun _ _ => rfl) (by first | exact .inr (fun _ _ => rfl) | exact .inl (by kernel_rfl)) ?_ | refine DE.qg rfl (fun _ => rfl) (fun e c hk => (Ev.fab (.c rfl) fa52_3)) rfl (fun _ _ => rfl) (by first | exact .inr (fun _ _ => rfl) | exact .inl (by kernel_rfl)) ?_ | refine DE.qg rfl (fun _ => rfl) (fun e c hk => (Ev.faa (.c rfl) fa52_3)) rfl (fun _ _ => rfl) (by first | exact .inr (fun _ _ => rfl) | exact .inl (by kernel_rfl)) ?_
    first | refine DE.qg rfl (fun _ => rfl) (fun e c hk => (Ev.lde1 (.c rfl) ag29)) rfl (fun _ _ => rfl) (by first | exact .inr (fun _ _ => rfl) | exact .inl (by kernel_rfl)) ?_ | refine DE.qg rfl (fun _ => rfl) (fun e c hk => (Ev.ldb1 0 (.c rfl) rfl ag29 rfl)) rfl (fun _ _ => rfl) (by first | exact .inr (fun _ _ => rfl) | exact .inl (by kernel_rfl)) ?_ | refine DE.qg rfl (fun _ => rfl) (fun e c hk => (Ev.ldb1 1 (.c rfl) rfl ag29 rfl)) rfl (fun _ _ => rfl) (by first | exact .inr (fun _ _ => rfl) | exact .inl (by kernel_rfl)) ?_ | refine DE.qg rfl (fun _ => rfl) (fun e c hk => (Ev.ldb1 2 (.c rfl) rfl ag29 rfl)) rfl (fun _ _ => rfl) (by first | exact .inr (fun _ _ => rfl) | exact .inl (by kernel_rfl)) ?_ | refine DE.qg rfl (fun _ => rfl) (fun e c hk => (Ev.ldb1 3 (.c rfl) rfl ag29 rfl)) rfl (fun _ _ => rfl) (by first | exact .inr (fun _ _ => rfl) | exact .inl (by kernel_rfl)) ?_
    refine DE.qg rfl (fun _ => rfl) (fun e c hk => (Ev.move (.t rfl))) rfl (fun _ _ => rfl) (by first | exact .inr (fun _ _ => rfl) | exact .inl (by kernel_rfl)) ?_
    refine DE.qg rfl (fun _ => rfl) (fun e c hk => (Ev.move (.t rfl))) rfl (fun _ _ => rfl) (by first | exact .inr (fun _ _ => rfl) | exact .inl (by kernel_rfl)) ?_
    refine DE.qg rfl (fun _ => rfl) (fun e c hk => Ev.at (E := 52) (.c rfl) (.c rfl) Tryd.underlying29 ty52 (fun _ => ⟨by omega, hga⟩) rfl rfl) rfl (fun _ _ => rfl) (by first | exact .inr (fun _ _ => rfl) | exact .inl (by kernel_rfl)) ?_
    first | refine DE.qg rfl (fun _ => rfl) (fun e c hk => (Ev.fae (.c rfl) fa52_3 rfl)) rfl (fun _ _ => rfl) (by first | exact .inr (fun _ _ => rfl) | exact .inl (by kernel_rfl)) ?_ | refine DE.qg rfl (fun _ => rfl) (fun e c hk => (Ev.fab (.c rfl) fa52_3)) rfl (fun _ _ => rfl) (by first | exact .inr (fun _ _ => rfl) | exact .inl (by kernel_rfl)) ?_ | refine DE.qg rfl (fun _ => rfl) (fun e c hk => (Ev.faa (.c rfl) fa52_3)) rfl (fun _ _ => rfl) (by first | exact .inr (fun _ _ => rfl) | exact .inl (by kernel_rfl)) ?_
    first | refine DE.qg rfl (fun _ => rfl) (fun e c hk => (Ev.lde1 (.c rfl) ag29)) rfl (fun _ _ => rfl) (by first | exact .inr (fun _ _ => rfl) | exact .inl (by kernel_rfl)) ?_ | refine DE.qg rfl (fun _ => rfl) (fun e c hk => (Ev.ldb1 0 (.c rfl) rfl ag29 rfl)) rfl (fun _ _ => rfl) (by first | exact .inr (fun _ _ => rfl) | exact .inl (by kernel_rfl)) ?_ | refine DE.qg rfl (fun _ => rfl) (fun e c hk => (Ev.ldb1 1 (.c rfl) rfl ag29 rfl)) rfl (fun _ _ => rfl) (by first | exact .inr (fun _ _ => rfl) | exact .inl (by kernel_rfl)) ?_ | refine DE.qg rfl (fun _ => rfl) (fun e c hk => (Ev.ldb1 2 (.c rfl) rfl ag29 rfl)) rfl (fun _ _ => rfl) (by first | exact .inr (fun _ _ => rfl) | exact .inl (by kernel_rfl)) ?_ | refine DE.qg rfl (fun _ => rfl) (fun e c hk => (Ev.ldb1 3 (.c rfl) rfl ag29 rfl)) rfl (fun _ _ => rfl) (by first | exact .inr (fun _ _ => rfl) | exact .inl (by kernel_rfl)) ?_
    refine DE.callg rfl (fun _ => rfl) (fun c hg => ih d.parts (by omega)) (fun c hg => ⟨(.i rfl (fun _ => hg)), (.i rfl (fun _ => hg)), trivial⟩) rfl (fun _ _ => rfl) (by first | exact .inr (fun _ _ => rfl) | exact .inl (by kernel_rfl)) ?_
    refine DE.qg rfl (fun _ => rfl) (fun e c hk => (Ev.not (.c rfl))) rfl (fun _ _ => rfl) (by first | exact .inr (fun _ _ => rfl) | exact .inl (by kernel_rfl)) ?_
    refine DE.q (fun e c hk => (Ev.or (.t rfl) ⟨_, _, rfl, rfl, by first | (simp; done) | (intro hg_ hp_; simp [hp_]; done) | (simp <;> omega; done) | (simp_all; done) | grind⟩)) rfl (fun _ _ => rfl) (by first | exact .inr (fun _ _ => rfl) | exact .inl (by kernel_rfl)) ?_
    refine DE.nil (fun c_ e_ he_ => ?_)
    dsimp only
    refine W.then ?_
    refine W.is (t := 70) (g := true) (av' := .lit (.bool false)) rfl (congrArg (fun b => AV.lit (.bool b)) (by simp)) ?_
    refine W.condF (.t rfl) ?_
    refine W.skip ?_
    refine W.then ?_
    refine W.seq ?_
    refine W.region ?_
    refine W.q (Ev.assign .k) rfl ?_
    refine W.nil ?_
    refine W.then ?_
    refine W.block ?_
    refine W.loop (D := []) (ι := Nat) (fun k => [(6, true, .int (k : Int)), (5, true, .int (i : Int)), (0, true, .sl 4 (l.map Nd.av)), (1, true, .sl 4 (l.map Nd.av))]) (fun _ => []) (fun k => k ≤ d.attrs.length) (fun k => d.attrs.length - k) 0 ⟨rfl, rfl, rfl, rfl, trivial⟩ (.refl _) (Nat.zero_le _) ?_
    intro k hk
    dsimp only at hk ⊢
    rcases (show k < d.attrs.length ∨ k = d.attrs.length from by omega) with hltk | hendk
    · have hgk := getD_mapG dav ([], []) d.attrs k hltk
      refine W.seq ?_
      refine W.seq ?_
      refine W.region ?_
      refine W.q (Ev.move (.t rfl)) rfl ?_
      refine W.q (Ev.move (.t rfl)) rfl ?_
      refine W.q (Ev.move (.t rfl)) rfl ?_
      refine W.q (Ev.at (E := 52) (.t rfl) (.t rfl) Tryd.underlying29 ty52 (fun _ => ⟨by omega, hga⟩) rfl rfl) rfl ?_
      first | refine W.q (Ev.fae (.t rfl) fa52_1 rfl) rfl ?_ | refine W.q (Ev.fab (.t rfl) fa52_1) rfl ?_ | refine W.q (Ev.faa (.t rfl) fa52_1) rfl ?_
      first | refine W.q (Ev.lde1 (.t rfl) ag26) rfl ?_ | refine W.q (Ev.ldb1 0 (.t rfl) rfl ag26 rfl) rfl ?_ | refine W.q (Ev.ldb1 1 (.t rfl) rfl ag26 rfl) rfl ?_ | refine W.q (Ev.ldb1 2 (.t rfl) rfl ag26 rfl) rfl ?_ | refine W.q (Ev.ldb1 3 (.t rfl) rfl ag26 rfl) rfl ?_
      first | refine W.q (Ev.lensl (.t rfl) Tryd.underlying26) rfl ?_ | refine W.q (Ev.lenar (i := 0) (.t rfl) rfl Tryd.underlying26) rfl ?_ | refine W.q (Ev.lenar (i := 1) (.t rfl) rfl Tryd.underlying26) rfl ?_ | refine W.q (Ev.lenar (i := 2) (.t rfl) rfl Tryd.underlying26) rfl ?_ | refine W.q (Ev.lenar (i := 3) (.t rfl) rfl Tryd.underlying26) rfl ?_
      refine W.q (Ev.lti (.t rfl) (.t rfl)) rfl ?_
      refine W.nil ?_
      refine W.then ?_
      refine W.is (t := 78) (g := true) (av' := .lit (.bool true)) rfl (congrArg (fun b => AV.lit (.bool b)) (by simp; omega)) ?_
      refine W.condT (.t rfl) ?_
      refine W.skip ?_
      refine W.then ?_
      refine W.seq ?_
      refine W.block ?_
      refine W.seq ?_
      refine W.drawn (by kernel_rfl) (by kernel_rfl) ?_
      refine DP.q (Ev.move (.t rfl)) rfl ?_
      refine DP.q (Ev.move (.t rfl)) rfl ?_
      refine DP.q (Ev.at (E := 52) (.t rfl) (.t rfl) Tryd.underlying29 ty52 (fun _ => ⟨by omega, hga⟩) rfl rfl) rfl ?_
      first | refine DP.q (Ev.fae (.t rfl) fa52_1 rfl) rfl ?_ | refine DP.q (Ev.fab (.t rfl) fa52_1) rfl ?_ | refine DP.q (Ev.faa (.t rfl) fa52_1) rfl ?_
      first | refine DP.q (Ev.lde1 (.t rfl) ag26) rfl ?_ | refine DP.q (Ev.ldb1 0 (.t rfl) rfl ag26 rfl) rfl ?_ | refine DP.q (Ev.ldb1 1 (.t rfl) rfl ag26 rfl) rfl ?_ | refine DP.q (Ev.ldb1 2 (.t rfl) rfl ag26 rfl) rfl ?_ | refine DP.q (Ev.ldb1 3 (.t rfl) rfl ag26 rfl) rfl ?_
      refine DP.q (Ev.move (.t rfl)) rfl ?_
      refine DP.q (Ev.at (E := 37) (.t rfl) (.t rfl) Tryd.underlying26 ty37 (fun _ => ⟨by omega, hgk⟩) rfl rfl) rfl ?_
      first | refine DP.q (Ev.lden (.t rfl) ag37 ty37 rfl rfl) rfl ?_ | refine DP.q (Ev.ldbn 0 (.t rfl) rfl ag37 ty37 rfl) rfl ?_ | refine DP.q (Ev.ldbn 1 (.t rfl) rfl ag37 ty37 rfl) rfl ?_ | refine DP.q (Ev.ldbn 2 (.t rfl) rfl ag37 ty37 rfl) rfl ?_ | refine DP.q (Ev.ldbn 3 (.t rfl) rfl ag37 ty37 rfl) rfl ?_
      refine DP.q (Ev.move (.t rfl)) rfl ?_
      refine DP.q (Ev.move (.t rfl)) rfl ?_
      refine DP.q (Ev.at (E := 52) (.t rfl) (.t rfl) Tryd.underlying29 ty52 (fun _ => ⟨by omega, hga⟩) rfl rfl) rfl ?_
      first | refine DP.q (Ev.fae (.t rfl) fa52_1 rfl) rfl ?_ | refine DP.q (Ev.fab (.t rfl) fa52_1) rfl ?_ | refine DP.q (Ev.faa (.t rfl) fa52_1) rfl ?_
      first | refine DP.q (Ev.lde1 (.t rfl) ag26) rfl ?_ | refine DP.q (Ev.ldb1 0 (.t rfl) rfl ag26 rfl) rfl ?_ | refine DP.q (Ev.ldb1 1 (.t rfl) rfl ag26 rfl) rfl ?_ | refine DP.q (Ev.ldb1 2 (.t rfl) rfl ag26 rfl) rfl ?_ | refine DP.q (Ev.ldb1 3 (.t rfl) rfl ag26 rfl) rfl ?_
      refine DP.q (Ev.move (.t rfl)) rfl ?_
      refine DP.q (Ev.at (E := 37) (.t rfl) (.t rfl) Tryd.underlying26 ty37 (fun _ => ⟨by omega, hgk⟩) rfl rfl) rfl ?_
      first | refine DP.q (Ev.lden (.t rfl) ag37 ty37 rfl rfl) rfl ?_ | refine DP.q (Ev.ldbn 0 (.t rfl) rfl ag37 ty37 rfl) rfl ?_ | refine DP.q (Ev.ldbn 1 (.t rfl) rfl ag37 ty37 rfl) rfl ?_ | refine DP.q (Ev.ldbn 2 (.t rfl) rfl ag37 ty37 rfl) rfl ?_ | refine DP.q (Ev.ldbn 3 (.t rfl) rfl ag37 ty37 rfl) rfl ?_
      refine DP.q (Ev.ne2 s2_37 (.t rfl) (.t rfl)) rfl ?_
      refine DP.nil ?_
      refine W.then ?_
      refine W.is (t := 97) (g := true) (av' := .lit (.bool false)) rfl (congrArg (fun b => AV.lit (.bool b)) (by simp)) ?_
      refine W.condF (.t rfl) ?_
      refine W.skip ?_
      refine W.blk_normal ?_
      refine W.then ?_
      refine W.region ?_
      refine W.q (Ev.move (.t rfl)) rfl ?_
      first | refine W.q (Ev.add (.t rfl) .k (fun _ => by omega)) rfl ?_ | refine W.q (Ev.addw (.t rfl) .k) rfl ?_
      refine W.q (Ev.assign (.t rfl)) rfl ?_
      refine W.nil ?_
      refine W.then ?_
      refine W.reach (D := []) (k + 1) ⟨rfl, rfl, rfl, rfl, trivial⟩ (.refl _) ⟨by show k + 1 ≤ _; omega, by show _ - (k + 1) < _; omega⟩
    · skip
      refine W.seq ?_
      refine W.seq ?_
      refine W.region ?_
      refine W.q (Ev.move (.t rfl)) rfl ?_
      refine W.q (Ev.move (.t rfl)) rfl ?_
      refine W.q (Ev.move (.t rfl)) rfl ?_
      refine W.q (Ev.at (E := 52) (.t rfl) (.t rfl) Tryd.underlying29 ty52 (fun _ => ⟨by omega, hga⟩) rfl rfl) rfl ?_
      first | refine W.q (Ev.fae (.t rfl) fa52_1 rfl) rfl ?_ | refine W.q (Ev.fab (.t rfl) fa52_1) rfl ?_ | refine W.q (Ev.faa (.t rfl) fa52_1) rfl ?_
      first | refine W.q (Ev.lde1 (.t rfl) ag26) rfl ?_ | refine W.q (Ev.ldb1 0 (.t rfl) rfl ag26 rfl) rfl ?_ | refine W.q (Ev.ldb1 1 (.t rfl) rfl ag26 rfl) rfl ?_ | refine W.q (Ev.ldb1 2 (.t rfl) rfl ag26 rfl) rfl ?_ | refine W.q (Ev.ldb1 3 (.t rfl) rfl ag26 rfl) rfl ?_
      first | refine W.q (Ev.lensl (.t rfl) Tryd.underlying26) rfl ?_ | refine W.q (Ev.lenar (i := 0) (.t rfl) rfl Tryd.underlying26) rfl ?_ | refine W.q (Ev.lenar (i := 1) (.t rfl) rfl Tryd.underlying26) rfl ?_ | refine W.q (Ev.lenar (i := 2) (.t rfl) rfl Tryd.underlying26) rfl ?_ | refine W.q (Ev.lenar (i := 3) (.t rfl) rfl Tryd.underlying26) rfl ?_
      refine W.q (Ev.lti (.t rfl) (.t rfl)) rfl ?_
      refine W.nil ?_
      refine W.then ?_
      refine W.is (t := 78) (g := true) (av' := .lit (.bool false)) rfl (congrArg (fun b => AV.lit (.bool b)) (by simp; omega)) ?_
      refine W.condF (.t rfl) ?_
      refine W.exit ?_
      refine W.then_exit ?_
      refine W.then_exit ?_
      refine W.blk_hit ?_
      refine W.blk_normal ?_
      refine W.then ?_
      refine W.region ?_
      refine W.q (Ev.move (.t rfl)) rfl ?_
      first | refine W.q (Ev.add (.t rfl) .k (fun _ => by omega)) rfl ?_ | refine W.q (Ev.addw (.t rfl) .k) rfl ?_
      refine W.q (Ev.assign (.t rfl)) rfl ?_
      refine W.nil ?_
      refine W.then ?_
      refine W.reach (D := []) (i + 1) ⟨rfl, rfl, rfl, trivial⟩ (.refl _) ⟨by show i + 1 ≤ _; omega, by show _ - (i + 1) < _; omega⟩
  · skip
    refine W.seq ?_
    refine W.seq ?_
    refine W.region ?_
    refine W.q (Ev.move (.t rfl)) rfl ?_
    refine W.q (Ev.move (.t rfl)) rfl ?_
    first | refine W.q (Ev.lensl (.t rfl) Tryd.underlying29) rfl ?_ | refine W.q (Ev.lenar (i := 0) (.t rfl) rfl Tryd.underlying29) rfl ?_ | refine W.q (Ev.lenar (i := 1) (.t rfl) rfl Tryd.underlying29) rfl ?_ | refine W.q (Ev.lenar (i := 2) (.t rfl) rfl Tryd.underlying29) rfl ?_ | refine W.q (Ev.lenar (i := 3) (.t rfl) rfl Tryd.underlying29) rfl ?_
    refine W.q (Ev.lti (.t rfl) (.t rfl)) rfl ?_
    refine W.nil ?_
    refine W.then ?_
    refine W.is (t := 15) (g := true) (av' := .lit (.bool false)) rfl (congrArg (fun b => AV.lit (.bool b)) (by simp; omega)) ?_
    refine W.condF (.t rfl) ?_
    refine W.exit ?_
    refine W.then_exit ?_
    refine W.then_exit ?_
    refine W.blk_hit ?_
    refine W.then ?_
    refine W.seq ?_
    refine W.region ?_
    refine W.q (Ev.assign .k) rfl ?_
    refine W.nil ?_
    refine W.then ?_
    refine W.ret ?_
    refine W.retn (M' := []) (rs := [.tmp 4]) (avs := [_]) Tryd.results7 ⟨rfl, trivial⟩ rfl (.refl _) ?_
    exact ⟨rfl, rfl⟩

theorem c_same (l : List Nd) (hl : Nd.szs l ≤ 16777216) : FnP Tryd.prog 7 [.sl 4 (l.map Nd.av), .sl 4 (l.map Nd.av)] (.bool true) := by
  suffices H : ∀ n, n ≤ 16777216 → ∀ l, Nd.szs l = n → FnP Tryd.prog 7 [.sl 4 (l.map Nd.av), .sl 4 (l.map Nd.av)] (.bool true) from H _ hl l rfl
  intro n
  induction n using Nat.strongRecOn with
  | _ n ih => exact fun hn l hl => c_same_step n hn (fun l' h' => ih _ h' (by omega) l' rfl) l hl

end WSame

end Go.Proofs.YtbdfeolffigdoaaDoor
end

section
set_option linter.unusedVariables false
set_option linter.unusedSimpArgs false
namespace Go.Vl
structure Pk where
  name : List UInt8
  attr : List UInt8
  deep : Bool
namespace Pk
abbrev dfl : Pk := ⟨[], [], false⟩
def fits (p : Pk) (d : Nd) : Bool := !(d.name == [] || (p.name != [] && p.name != d.name)) && (p.attr == [] || d.attrs.any fun a => a.1 == p.attr)
abbrev Fl := Nat → Bool
abbrev row (n : Nat) (f : Fl) : AV := .sl 1 ((List.range n).map fun k => AV.bool (f k))
def ahead (ps : List Pk) (r w : Fl) (k : Nat) : Bool := (k == 0 || ((ps.getD k dfl).deep && w (k - 1))) || (!(ps.getD k dfl).deep && r (k - 1))
def ends (ps : List Pk) (r w : Fl) (d : Nd) (k : Nat) : Bool := ahead ps r w k && fits (ps.getD k dfl) d
def far (ps : List Pk) (r w : Fl) (d : Nd) (k : Nat) : Bool := w k || ends ps r w d k
mutual
/-- the paths that are found within a node, among nodes -/
def fnd (ps : List Pk) : Nd → List Int → Fl → Fl → List (List Int)
  | .mk n a t q, path, r, w => fnds ps 0 q path r w
def fnds (ps : List Pk) : Nat → List Nd → List Int → Fl → Fl → List (List Int)
  | _, [], _, _, _ => []
  | i, d :: l, path, r, w =>
    (if d.name = [] then [] else (if ends ps r w d (ps.length - 1) then [path ++ [(i : Int)]] else []) ++ fnd ps d (path ++ [(i : Int)]) (ends ps r w d) (far ps r w d)) ++ fnds ps (i + 1) l path r w
end
theorem fnd_eq (ps : List Pk) (d : Nd) (path : List Int) (r w : Fl) : fnd ps d path r w = fnds ps 0 d.parts path r w := by cases d; rfl
mutual
theorem fnd_len (ps : List Pk) : ∀ (d : Nd) (path : List Int) (r w : Fl), (fnd ps d path r w).length + 1 ≤ d.sz
  | .mk n a t q, path, r, w => by have := fnds_len ps q 0 path r w; simp only [fnd, Nd.sz]; omega
theorem fnds_len (ps : List Pk) : ∀ (l : List Nd) (i : Nat) (path : List Int) (r w : Fl), (fnds ps i l path r w).length ≤ Nd.szs l
  | [], _, _, _, _ => Nat.zero_le _
  | d :: l, i, path, r, w => by
    have h1 := fnd_len ps d (path ++ [(i : Int)]) (ends ps r w d) (far ps r w d)
    have h2 := fnds_len ps l (i + 1) path r w
    rw [fnds, List.length_append, Nd.szs]
    split
    · simp only [List.length_nil]; omega
    · rw [List.length_append]
      split <;> simp only [List.length_nil, List.length_cons] <;> omega
end
mutual
/-- what looser picks find -/
theorem fnd_sub (ps ps' : List Pk) (Rel : Fl → Fl → Fl → Fl → Prop)
    (hs : ∀ d r w r' w', d.name ≠ [] → Rel r w r' w' → Rel (ends ps r w d) (far ps r w d) (ends ps' r' w' d) (far ps' r' w' d) ∧ (ends ps r w d (ps.length - 1) = true → ends ps' r' w' d (ps'.length - 1) = true)) :
    ∀ (d : Nd) (path : List Int) (r w r' w' : Fl), Rel r w r' w' → ∀ q ∈ fnd ps d path r w, q ∈ fnd ps' d path r' w'
  | .mk n a t p, path, r, w, r', w', hr, q, hq => by rw [fnd] at hq ⊢; exact fnds_sub ps ps' Rel hs p 0 path r w r' w' hr q hq
theorem fnds_sub (ps ps' : List Pk) (Rel : Fl → Fl → Fl → Fl → Prop)
    (hs : ∀ d r w r' w', d.name ≠ [] → Rel r w r' w' → Rel (ends ps r w d) (far ps r w d) (ends ps' r' w' d) (far ps' r' w' d) ∧ (ends ps r w d (ps.length - 1) = true → ends ps' r' w' d (ps'.length - 1) = true)) :
    ∀ (l : List Nd) (i : Nat) (path : List Int) (r w r' w' : Fl), Rel r w r' w' → ∀ q ∈ fnds ps i l path r w, q ∈ fnds ps' i l path r' w'
  | [], _, _, _, _, _, _, _, q, hq => by simp [fnds] at hq
  | d :: l, i, path, r, w, r', w', hr, q, hq => by
    rw [fnds, List.mem_append] at hq ⊢
    rcases hq with hq | hq
    · left
      by_cases hn : d.name = []
      · simp [hn] at hq
      · rw [if_neg hn, List.mem_append] at hq ⊢
        obtain ⟨h1, h2⟩ := hs d r w r' w' hn hr
        rcases hq with hq | hq
        · left
          by_cases he : ends ps r w d (ps.length - 1) = true
          · rw [if_pos he] at hq; rw [if_pos (h2 he)]; exact hq
          · rw [if_neg he] at hq; cases hq
        · right
          exact fnd_sub ps ps' Rel hs d _ _ _ _ _ h1 q hq
    · right
      exact fnds_sub ps ps' Rel hs l _ _ _ _ _ _ hr q hq
end
mutual
theorem fnd_sl (ps : List Pk) : ∀ (d : Nd) (path : List Int) (r w : Fl), ∃ S, List.Sublist S (Nd.pths d) ∧ fnd ps d path r w = S.map (path ++ ·)
  | .mk n a t p, path, r, w => by rw [fnd, Nd.pths]; exact fnds_sl ps p 0 path r w
/-- what is found are paths, in their order -/
theorem fnds_sl (ps : List Pk) : ∀ (l : List Nd) (i : Nat) (path : List Int) (r w : Fl), ∃ S, List.Sublist S (Nd.pthsFrom i l) ∧ fnds ps i l path r w = S.map (path ++ ·)
  | [], _, _, _, _ => ⟨[], List.nil_sublist _, rfl⟩
  | d :: l, i, path, r, w => by
    obtain ⟨S1, h1, e1⟩ := fnd_sl ps d (path ++ [(i : Int)]) (ends ps r w d) (far ps r w d)
    obtain ⟨S2, h2, e2⟩ := fnds_sl ps l (i + 1) path r w
    rw [fnds, Nd.pthsFrom, e1, e2]
    have hm : List.Sublist (S1.map ((i : Int) :: ·)) (d.pths.map ((i : Int) :: ·)) := h1.map _
    have em : S1.map ((path ++ [(i : Int)]) ++ ·) = (S1.map ((i : Int) :: ·)).map (path ++ ·) := by
      rw [List.map_map]; congr 1; funext s; simp
    by_cases hn : d.name = []
    · rw [if_pos hn]
      exact ⟨S2, (h2.trans (List.sublist_append_right _ _)).trans (List.sublist_cons_self _ _), rfl⟩
    · rw [if_neg hn, em]
      split
      · exact ⟨[(i : Int)] :: (S1.map ((i : Int) :: ·) ++ S2), (hm.append h2).cons_cons _, by simp⟩
      · exact ⟨S1.map ((i : Int) :: ·) ++ S2, (hm.append h2).cons _, by simp⟩
end
mutual
theorem fnd_at (ps : List Pk) : ∀ (d : Nd) (path : List Int) (r w : Fl), ∀ q ∈ fnd ps d path r w, ∃ s e, q = path ++ s ∧ Nd.atP d.parts s e ∧ e.name ≠ [] ∧ fits (ps.getD (ps.length - 1) dfl) e = true
  | .mk n a t p, path, r, w, q, hq => by
    rw [fnd] at hq
    obtain ⟨j, s, e, h1, h2, h3⟩ := fnds_at ps p 0 path r w q hq
    exact ⟨(j : Int) :: s, e, by rw [h1, Nat.zero_add], h2, h3⟩
/-- the nodes that are found fit the last pick -/
theorem fnds_at (ps : List Pk) : ∀ (l : List Nd) (i : Nat) (path : List Int) (r w : Fl), ∀ q ∈ fnds ps i l path r w, ∃ (j : Nat) (s : List Int) (e : Nd), q = path ++ (((i + j : Nat) : Int) :: s) ∧ Nd.atP l ((j : Int) :: s) e ∧ e.name ≠ [] ∧ fits (ps.getD (ps.length - 1) dfl) e = true
  | [], _, _, _, _, q, hq => by simp [fnds] at hq
  | d :: l, i, path, r, w, q, hq => by
    rw [fnds, List.mem_append] at hq
    rcases hq with hq | hq
    · by_cases hn : d.name = []
      · simp [hn] at hq
      · rw [if_neg hn, List.mem_append] at hq
        rcases hq with hq | hq
        · by_cases he : ends ps r w d (ps.length - 1) = true
          · rw [if_pos he, List.mem_singleton] at hq
            refine ⟨0, [], d, by simpa using hq, ⟨0, rfl, by simp, .inl ⟨rfl, rfl⟩⟩, hn, ?_⟩
            simp only [ends, Bool.and_eq_true] at he; exact he.2
          · rw [if_neg he] at hq; cases hq
        · obtain ⟨s, e, h1, h3, h4⟩ := fnd_at ps d _ _ _ q hq
          refine ⟨0, s, e, by rw [h1, List.append_assoc]; rfl, ⟨0, rfl, by simp, .inr ⟨?_, by simpa using h3⟩⟩, h4⟩
          rintro rfl; exact h3.elim
    · obtain ⟨j, s, e, h1, ⟨k, hk, hlt, hx⟩, h5⟩ := fnds_at ps l (i + 1) path r w q hq
      refine ⟨j + 1, s, e, by rw [h1]; congr 3; omega, ⟨k + 1, by omega, by simp; omega, by simpa using hx⟩, h5⟩
end
/-- is a path right ahead of the other one, and part of it? -/
def around (x a : List Int) : Bool := decide (x.length < a.length) && decide (a.take x.length = x)
theorem around_miss (path s t : List Int) (i j : Int) (h : i ≠ j) : around (path ++ i :: s) (path ++ j :: t) = false := by
  cases hc : around (path ++ i :: s) (path ++ j :: t) with
  | false => rfl
  | true =>
    exfalso
    simp only [around, Bool.and_eq_true, decide_eq_true_eq] at hc
    have h1 := congrArg (·[path.length]?) hc.2
    simp at h1
    exact h h1.symm
theorem fnds_shape (ps : List Pk) (l : List Nd) (i : Nat) (path : List Int) (r w : Fl) : ∀ q ∈ fnds ps i l path r w, ∃ (j : Nat) (s : List Int), i ≤ j ∧ q = path ++ (j : Int) :: s := fun q hq => by
  obtain ⟨j, s, e, h1, _⟩ := fnds_at ps l i path r w q hq
  exact ⟨i + j, s, by omega, h1⟩
theorem fnd_shape (ps : List Pk) (d : Nd) (path : List Int) (r w : Fl) : ∀ q ∈ fnd ps d path r w, ∃ (j : Int) (s : List Int), q = path ++ j :: s := fun q hq => by
  rw [fnd_eq] at hq
  obtain ⟨j, s, _, h⟩ := fnds_shape ps _ _ _ _ _ q hq
  exact ⟨j, s, h⟩
mutual
theorem fnd_within (p q : Pk) (hq : q.deep = true) : ∀ (d : Nd) (path : List Int) (r w r1 w1 r2 w2 : Fl), fnd [p, q] d path r w = (fnd [q] d path r1 w1).filter fun a => w 0 || (fnd [p] d path r2 w2).any fun x => around x a
  | .mk _ _ _ l, path, r, w, r1, w1, r2, w2 => by rw [fnd, fnd, fnd]; exact fnds_within p q hq l 0 path r w r1 w1 r2 w2
theorem fnds_within (p q : Pk) (hq : q.deep = true) : ∀ (l : List Nd) (i : Nat) (path : List Int) (r w r1 w1 r2 w2 : Fl), fnds [p, q] i l path r w = (fnds [q] i l path r1 w1).filter fun a => w 0 || (fnds [p] i l path r2 w2).any fun x => around x a
  | [], _, _, _, _, _, _, _, _ => rfl
  | d :: l, i, path, r, w, r1, w1, r2, w2 => by
    have h2 := fnds_within p q hq l (i + 1) path r w r1 w1 r2 w2
    have h1 := fnd_within p q hq d (path ++ [(i : Int)]) (ends [p, q] r w d) (far [p, q] r w d) (ends [q] r1 w1 d) (far [q] r1 w1 d) (ends [p] r2 w2 d) (far [p] r2 w2 d)
    rw [fnds, fnds, fnds, h1, h2]
    rw [List.filter_append]
    have hC : ∀ a ∈ fnds [q] (i + 1) l path r1 w1, (w 0 || ((if d.name = [] then [] else (if ends [p] r2 w2 d ([p].length - 1) then [path ++ [(i : Int)]] else []) ++ fnd [p] d (path ++ [(i : Int)]) (ends [p] r2 w2 d) (far [p] r2 w2 d)) ++ fnds [p] (i + 1) l path r2 w2).any fun x => around x a) =
        (w 0 || (fnds [p] (i + 1) l path r2 w2).any fun x => around x a) := by
      intro a ha
      obtain ⟨j, s, hj, rfl⟩ := fnds_shape _ _ _ _ _ _ a ha
      rw [List.any_append]
      have : ((if d.name = [] then [] else (if ends [p] r2 w2 d ([p].length - 1) then [path ++ [(i : Int)]] else []) ++ fnd [p] d (path ++ [(i : Int)]) (ends [p] r2 w2 d) (far [p] r2 w2 d)).any fun x => around x (path ++ (j : Int) :: s)) = false := by
        rw [List.any_eq_false]
        intro x hx
        split at hx
        · cases hx
        · rw [List.mem_append] at hx
          rcases hx with hx | hx
          · split at hx
            · rw [List.mem_singleton] at hx; subst hx
              rw [around_miss path [] s i j (by omega)]; simp
            · cases hx
          · obtain ⟨j', s', rfl⟩ := fnd_shape _ _ _ _ _ x hx
            have := around_miss path (j' :: s') s i j (by omega)
            simp only [List.append_assoc, List.singleton_append]
            rw [this]; simp
      rw [this, Bool.false_or]
    rw [List.filter_congr hC]
    congr 1
    by_cases hn : d.name = []
    · simp [hn]
    · rw [if_neg hn, if_neg hn, if_neg hn, List.filter_append]
      have e1 : ends [p, q] r w d ([p, q].length - 1) = (w 0 && fits q d) := by simp [ends, ahead, hq]
      have e2 : ends [q] r1 w1 d ([q].length - 1) = fits q d := by simp [ends, ahead]
      have e3 : ends [p] r2 w2 d ([p].length - 1) = fits p d := by simp [ends, ahead]
      have e4 : far [p, q] r w d 0 = (w 0 || fits p d) := by simp [far, ends, ahead]
      rw [e1, e2, e3, e4]
      have hXC : ∀ s : List Int, ((fnds [p] (i + 1) l path r2 w2).any fun x => around x (path ++ (i : Int) :: s)) = false := by
        intro s
        rw [List.any_eq_false]
        intro x hx
        obtain ⟨j, s', hj, rfl⟩ := fnds_shape _ _ _ _ _ _ x hx
        rw [around_miss path s' s j i (by omega)]; simp
      congr 1
      · cases hf : fits q d with
        | false => simp
        | true =>
          rw [Bool.and_true, if_pos rfl, List.filter_cons, List.filter_nil]
          have : (((if fits p d = true then [path ++ [(i : Int)]] else []) ++ fnd [p] d (path ++ [(i : Int)]) (ends [p] r2 w2 d) (far [p] r2 w2 d) ++ fnds [p] (i + 1) l path r2 w2).any fun x => around x (path ++ [(i : Int)])) = false := by
            rw [List.any_append, hXC [], Bool.or_false, List.any_eq_false]
            intro x hx
            rw [List.mem_append] at hx
            rcases hx with hx | hx
            · split at hx
              · rw [List.mem_singleton] at hx; subst hx; simp [around]
              · cases hx
            · obtain ⟨j', s', rfl⟩ := fnd_shape _ _ _ _ _ x hx
              simp [around]
          rw [this, Bool.or_false]
      · refine List.filter_congr ?_
        intro a ha
        obtain ⟨j, s, rfl⟩ := fnd_shape _ _ _ _ _ a ha
        have := hXC (j :: s)
        rw [List.any_append, List.append_assoc, List.singleton_append, this, Bool.or_false, List.any_append, Bool.or_assoc]
        congr 1
        congr 1
        cases fits p d with
        | false => simp
        | true => simp [around, List.take_append, List.take_of_length_le (Nat.le_succ path.length)]
end
mutual
/-- elements; those of a name -/
def els : Nd → Nat
  | .mk _ _ _ l => elss l
def elss : List Nd → Nat
  | [] => 0
  | d :: l => (if d.name = [] then 0 else 1 + els d) + elss l
end
mutual
def nms (s : List UInt8) : Nd → Nat
  | .mk _ _ _ l => nmss s l
def nmss (s : List UInt8) : List Nd → Nat
  | [] => 0
  | d :: l => (if d.name = [] then 0 else (if d.name = s then 1 else 0) + nms s d) + nmss s l
end
mutual
theorem els_le : ∀ d : Nd, els d + 1 ≤ d.sz
  | .mk _ a _ l => by have := elss_le l; simp only [els, Nd.sz]; omega
theorem elss_le : ∀ l : List Nd, elss l ≤ Nd.szs l
  | [] => Nat.le_refl _
  | d :: l => by have := els_le d; have := elss_le l; simp only [elss, Nd.szs]; split <;> omega
end
mutual
theorem nms_le (s : List UInt8) : ∀ d : Nd, nms s d + 1 ≤ d.sz
  | .mk _ a _ l => by have := nmss_le s l; simp only [nms, Nd.sz]; omega
theorem nmss_le (s : List UInt8) : ∀ l : List Nd, nmss s l ≤ Nd.szs l
  | [] => Nat.le_refl _
  | d :: l => by have := nms_le s d; have := nmss_le s l; simp only [nmss, Nd.szs]; split <;> (try split) <;> omega
end
mutual
theorem fnd_star (p : Pk) (hp : p.name = [] ∧ p.attr = []) : ∀ (d : Nd) (path : List Int) (r w : Fl), (fnd [p] d path r w).length = els d
  | .mk _ _ _ l, path, r, w => by rw [fnd, els]; exact fnds_stars p hp l 0 path r w
theorem fnds_stars (p : Pk) (hp : p.name = [] ∧ p.attr = []) : ∀ (l : List Nd) (i : Nat) (path : List Int) (r w : Fl), (fnds [p] i l path r w).length = elss l
  | [], _, _, _, _ => rfl
  | d :: l, i, path, r, w => by
    have h1 := fnd_star p hp d (path ++ [(i : Int)]) (ends [p] r w d) (far [p] r w d)
    have h2 := fnds_stars p hp l (i + 1) path r w
    rw [fnds, List.length_append, elss, h2]
    by_cases hn : d.name = []
    · rw [if_pos hn, if_pos hn]; rfl
    · have : ends [p] r w d ([p].length - 1) = true := by simp [ends, ahead, fits, hp, hn]
      rw [if_neg hn, if_neg hn, List.length_append, this, h1, if_pos rfl]; rfl
end
mutual
theorem fnd_name (p : Pk) (hp : p.name ≠ [] ∧ p.attr = []) : ∀ (d : Nd) (path : List Int) (r w : Fl), (fnd [p] d path r w).length = nms p.name d
  | .mk _ _ _ l, path, r, w => by rw [fnd, nms]; exact fnds_name p hp l 0 path r w
theorem fnds_name (p : Pk) (hp : p.name ≠ [] ∧ p.attr = []) : ∀ (l : List Nd) (i : Nat) (path : List Int) (r w : Fl), (fnds [p] i l path r w).length = nmss p.name l
  | [], _, _, _, _ => rfl
  | d :: l, i, path, r, w => by
    have h1 := fnd_name p hp d (path ++ [(i : Int)]) (ends [p] r w d) (far [p] r w d)
    have h2 := fnds_name p hp l (i + 1) path r w
    rw [fnds, List.length_append, nmss, h2]
    by_cases hn : d.name = []
    · rw [if_pos hn, if_pos hn]; rfl
    · have : ends [p] r w d ([p].length - 1) = (d.name == p.name) := by
        by_cases he : d.name = p.name
        · simp [ends, ahead, fits, hp, hn, he]
        · have he' : ¬ p.name = d.name := fun h => he h.symm
          have e : fits p d = false := by
            unfold fits
            rw [show (d.name == []) = false by simpa using hn, show (p.name != []) = true by simpa using hp.1, show (p.name != d.name) = true by simpa using he']; rfl
          have e2 : (d.name == p.name) = false := by simpa using he
          rw [e2]
          simp [ends, ahead, e]
      rw [if_neg hn, if_neg hn, List.length_append, this, h1]
      congr 1
      congr 1
      by_cases he : d.name = p.name <;> simp [he]
end
abbrev oddS (s : List UInt8) : Bool := !(s == []) && !(nameOk s)
def odd (p : Pk) : Bool := oddS p.name || oddS p.attr
/-- picks that are no fault -/
structure ok (p : Pk) : Prop where
  n : p.name.length ≤ 1000
  a : p.attr.length ≤ 1000
  o : odd p = false
abbrev dp (p : Pk) : Pk := ⟨p.name, p.attr, true⟩
mutual
theorem fnd_same' (q : Pk) : ∀ (d : Nd) (path : List Int) (r w r1 w1 : Fl), fnd [dp q] d path r w = fnd [q] d path r1 w1
  | .mk _ _ _ l, path, r, w, r1, w1 => by rw [fnd, fnd]; exact fnds_same' q l 0 path r w r1 w1
theorem fnds_same' (q : Pk) : ∀ (l : List Nd) (i : Nat) (path : List Int) (r w r1 w1 : Fl), fnds [dp q] i l path r w = fnds [q] i l path r1 w1
  | [], _, _, _, _, _, _ => rfl
  | d :: l, i, path, r, w, r1, w1 => by
    rw [fnds, fnds, fnd_same' q d _ _ _ (ends [q] r1 w1 d) (far [q] r1 w1 d), fnds_same' q l _ _ _ _ r1 w1]
    rfl
end
end Pk
def upto {α : Type} (f : α → α) (l : List α) (i : Nat) : List α := (l.take i).map f ++ l.drop i
section sl
variable {x : Cx} {g : Bool} {L : List (Tmp × Bool × AV)} {M : List ME} {ty T : TypeId} {o1 o2 : Operand}
theorem Ev.takesl {α : Type} {f : α → AV} {l : List α} {n k E bytes : Nat} {z : Value} {c : Int} (h1 : Ov g L o1 (.sl k (l.map f))) (hT : x.P.underlying T = some (.slice E)) (hE : Ty x.P E k bytes z) (h2 : Ov g L o2 (.lit (.int .i64 c))) (hc : c = (n : Int)) (hb : g = true → n ≤ l.length) :
    Ev x g L M (.slice T o1 none (some o2) none) ty (.sl k ((l.take n).map f)) := by
  subst hc
  have h := Ev.subsl (x := x) (M := M) (ty := ty) (lo := none) (hi := some o2) h1 hT hE rfl h2 (fun hg => ⟨Int.le_refl _, by omega, by have := hb hg; rw [List.length_map]; omega⟩)
  simpa [List.map_take] using h
theorem Ev.dropsl {α : Type} {f : α → AV} {l : List α} {n k E bytes : Nat} {z : Value} {c : Int} (h1 : Ov g L o1 (.sl k (l.map f))) (hT : x.P.underlying T = some (.slice E)) (hE : Ty x.P E k bytes z) (h2 : Ov g L o2 (.lit (.int .i64 c))) (hc : c = (n : Int)) (hb : g = true → n ≤ l.length) :
    Ev x g L M (.slice T o1 (some o2) none none) ty (.sl k ((l.drop n).map f)) := by
  subst hc
  have h := Ev.subsl (x := x) (M := M) (ty := ty) (lo := some o2) (hi := none) h1 hT hE h2 rfl (fun hg => ⟨by omega, by have := hb hg; rw [List.length_map]; omega, Int.le_refl _⟩)
  have e : (l.map f).take ((l.map f).length : Int).toNat = l.map f := List.take_of_length_le (by simp)
  rw [e] at h
  simpa [List.map_drop] using h
end sl
end Go.Vl
end

section
set_option linter.unusedVariables false
set_option linter.unusedSimpArgs false
set_option maxRecDepth 100000
namespace Go.Proofs.YtbdfeolffigdoaaDoor
open Go.Vl

namespace WNoise
theorem ty3 : Ty Tryd.prog 3 1 8 (.int .i64 0) := Ty.of (by kernel_rfl)
theorem ty4 : Ty Tryd.prog 4 1 1 (.bool false) := Ty.of (by kernel_rfl)
theorem ty9 : Ty Tryd.prog 9 1 16 (.string ⟨#[]⟩) := Ty.of (by kernel_rfl)
theorem ty26 : Ty Tryd.prog 26 1 24 (.slice none 0 0) := Ty.of (by kernel_rfl)
theorem ty28 : Ty Tryd.prog 28 5 72 (.agg #[.int .i64 0, .string ⟨#[]⟩, .slice none 0 0, .bool false, .string ⟨#[]⟩]) := Ty.of (by kernel_rfl)
theorem ag28 : IsAgg Tryd.prog 28 true := ⟨_, Tryd.underlying28, rfl⟩
theorem st28 : StructAt Tryd.prog 28 [(0, 1), (1, 1), (2, 1), (3, 1), (4, 1)] := ⟨_, Tryd.underlying28, rfl, ty3.size, rfl, ty9.size, rfl, ty26.size, rfl, ty4.size, rfl, ty9.size, trivial⟩
theorem ni23 : NotInt Tryd.prog 23 := .inl ⟨_, Tryd.underlying23⟩
theorem c_TreeNoise (l : List Int) (x : Int) (how : Bool) (hl : l.length ≤ 1048576) : FnC Tryd.prog 3 [.sl 1 (l.map AV.int), .int x, .bool how] [.shr 0 54 (Opn.blocks.map AV.str), .shr 1 57 (Opn.voids.map AV.str)] (fun rr M => rr = .bool true ∧ M = [.shr 0 54 (Opn.blocks.map AV.str), .shr 1 57 (Opn.voids.map AV.str)]) :=  by
  refine FnC.mk Tryd.func3 (by kernel_rfl) rfl Tryd.ntmps3 rfl (fun w0 F => ?_)
  refine W.seq ?_
  refine W.region ?_
  refine W.q (Ev.assign .k) rfl ?_
  refine W.nil ?_
  refine W.then ?_
  refine W.seq ?_
  refine W.region ?_
  refine W.q (Ev.move (.t rfl)) rfl ?_
  refine W.call (WTokens.c_Tokens l (by omega) 20 (by decide)) ⟨(.t rfl), .k, trivial⟩ (.refl _) rfl ?_
  rintro _ _ ⟨v17, ts, rfl, rfl, hts, htl⟩
  have htm : (ts.map tav).length = ts.length := List.length_map ..
  have hok : ∀ t ∈ ts, Opn.okt t := Opn.okt_drawns hts
  have hzz : ∀ t ∈ ts, t.name ≠ [122, 122] := Opn.zz_drawns hts
  refine W.q (Ev.assign (.t rfl)) rfl ?_
  refine W.nil ?_
  refine W.freezeA (M1 := [.shr 0 54 (Opn.blocks.map AV.str), .shr 1 57 (Opn.voids.map AV.str)]) (M2 := [.shr 0 54 (Opn.blocks.map AV.str), .shr 1 57 (Opn.voids.map AV.str)]) (D := []) (v := v17) (L' := [(7, true, .sl 5 (ts.map tav))]) (by rw [List.append_nil] <;> exact .refl _) ⟨⟨_, rfl, .one .hit⟩, trivial⟩ (FrzMs.refl _) ?_
  refine W.then ?_
  refine W.seq ?_
  refine W.region ?_
  refine W.q (Ev.move (.t rfl)) rfl ?_
  refine W.q (Ev.move (.t rfl)) rfl ?_
  first | refine W.q (Ev.lensl (.t rfl) Tryd.underlying23) rfl ?_ | refine W.q (Ev.lenar (i := 0) (.t rfl) rfl Tryd.underlying23) rfl ?_ | refine W.q (Ev.lenar (i := 1) (.t rfl) rfl Tryd.underlying23) rfl ?_ | refine W.q (Ev.lenar (i := 2) (.t rfl) rfl Tryd.underlying23) rfl ?_ | refine W.q (Ev.lenar (i := 3) (.t rfl) rfl Tryd.underlying23) rfl ?_
  first | refine W.q (Ev.add (.t rfl) .k (fun _ => by omega)) rfl ?_ | refine W.q (Ev.addw (.t rfl) .k) rfl ?_
  refine W.callp (Base.c_Picked x (((ts.map tav).length : Int) + 1) (by omega) (by omega)) ⟨(.t rfl), (.t rfl), trivial⟩ rfl ?_
  refine W.q (Ev.assign (.t rfl)) rfl ?_
  refine W.nil ?_
  obtain ⟨k, hkl, hkv⟩ : ∃ k : Nat, k ≤ ts.length ∧ x % (((ts.map tav).length : Int) + 1) = (k : Int) := ⟨(x % (((ts.map tav).length : Int) + 1)).toNat, by have h1 := Int.emod_lt_of_pos x (show (0 : Int) < ((ts.map tav).length : Int) + 1 by omega); omega, by have h1 := Int.emod_nonneg x (show ((ts.map tav).length : Int) + 1 ≠ 0 by omega); omega⟩
  refine W.is (t := 8) (g := true) (av' := .int (k : Int)) rfl (congrArg AV.int hkv) ?_
  refine W.then ?_
  refine W.seq ?_
  refine W.region ?_
  refine W.q (Ev.build ty28 st28 rfl (fun hg => ⟨_, _, _, rfl, .k, rfl, rfl, rfl, _, _, _, rfl, .k, rfl, rfl, rfl, rfl⟩)) rfl ?_
  refine W.nils (t := 23) (g := true) (cs' := [.int 4, .str [], .sl 2 [], .bool false, .str [122]]) rfl ⟨.inl rfl, .inl rfl, .inr ⟨rfl, 2, rfl⟩, .inl rfl, .inl rfl, trivial⟩ ?_
  refine W.alloc ty28 rfl rfl ?_
  intro b9
  first | refine W.stb 0 (.t rfl) (.t rfl) rfl ty28 rfl rfl rfl ?_ | refine W.stb 1 (.t rfl) (.t rfl) rfl ty28 rfl rfl rfl ?_ | refine W.stb 2 (.t rfl) (.t rfl) rfl ty28 rfl rfl rfl ?_ | refine W.stb 3 (.t rfl) (.t rfl) rfl ty28 rfl rfl rfl ?_
  refine W.nil ?_
  refine W.then ?_
  refine W.seq_at (ι := Tk) (fun _ => [(7, true, .sl 5 (ts.map tav)), (8, true, .int (k : Int)), (9, true, .lit (.pointer (some ⟨b9, 0, none⟩)))]) (fun nz => [.box b9 28 (tav nz).cells, .shr 0 54 (Opn.blocks.map AV.str), .shr 1 57 (Opn.voids.map AV.str)]) (fun nz => nz = ⟨4, [], [], false, [122]⟩ ∨ nz = ⟨2, [122, 122], [], false, []⟩) ?_ ?_
  · refine W.seq ?_
    refine W.region ?_
    refine W.q (Ev.move (.t rfl)) rfl ?_
    refine W.nil ?_
    refine W.then ?_
    refine W.cond (.t rfl) (fun hc_t24 => ?_) (fun hc_t24 => ?_)
    · refine W.region ?_
      refine W.q (Ev.build ty28 st28 rfl (fun hg => ⟨_, _, _, rfl, .k, rfl, rfl, rfl, _, _, _, rfl, .k, rfl, rfl, rfl, rfl⟩)) rfl ?_
      refine W.nils (t := 25) (g := true) (cs' := [.int 2, .str [122, 122], .sl 2 [], .bool false, .str []]) rfl ⟨.inl rfl, .inl rfl, .inr ⟨rfl, 2, rfl⟩, .inl rfl, .inl rfl, trivial⟩ ?_
      first | refine W.stb 0 (.t rfl) (.t rfl) rfl ty28 rfl rfl rfl ?_ | refine W.stb 1 (.t rfl) (.t rfl) rfl ty28 rfl rfl rfl ?_ | refine W.stb 2 (.t rfl) (.t rfl) rfl ty28 rfl rfl rfl ?_ | refine W.stb 3 (.t rfl) (.t rfl) rfl ty28 rfl rfl rfl ?_
      refine W.nil ?_
      refine W.then ?_
      refine W.reach (D := []) (⟨2, [122, 122], [], false, []⟩ : Tk) ⟨rfl, rfl, rfl, trivial⟩ (List.Perm.of_eq (List.append_nil _).symm) (.inr rfl)
    · refine W.skip ?_
      refine W.then ?_
      refine W.reach (D := []) (⟨4, [], [], false, [122]⟩ : Tk) ⟨rfl, rfl, rfl, trivial⟩ (List.Perm.of_eq (List.append_nil _).symm) (.inl rfl)
  · rintro nz hnz
    dsimp only
    have hnz1 : Opn.okt nz := by rcases hnz with rfl | rfl <;> exact ⟨by decide, fun h => absurd h (by decide), fun h => absurd h (by decide)⟩
    have hnz2 : nz.kind = 4 ∨ nz.kind = 2 ∧ nz.name = [122, 122] := by rcases hnz with rfl | rfl; exact .inl rfl; exact .inr ⟨rfl, rfl⟩
    have hkz : ∀ t ∈ (ts.take k ++ [nz] ++ ts.drop k), Opn.okt t := by
      intro t ht
      rcases List.mem_append.1 ht with ht | ht
      · rcases List.mem_append.1 ht with ht | ht
        · exact hok t (List.mem_of_mem_take ht)
        · rw [List.mem_singleton.1 ht]; exact hnz1
      · exact hok t (List.mem_of_mem_drop ht)
    have hlz : (ts.take k ++ [nz] ++ ts.drop k).length ≤ 21 := by simp only [List.length_append, List.length_take, List.length_drop, List.length_singleton]; omega
    have hYX : (List.foldl Opn.Bd.step Opn.Bd.root (ts.take k ++ [nz] ++ ts.drop k)).obs = (List.foldl Opn.Bd.step Opn.Bd.root ts).obs := by rw [Opn.Bd.noise _ _ nz (fun q hq => hzz q (List.mem_of_mem_take hq)) hnz2, List.take_append_drop]
    have hBz := WOBuild.c_Build (ts.take k ++ [nz] ++ ts.drop k) hlz hkz
    rw [show (ts.take k ++ [nz] ++ ts.drop k).map tav = (ts.take k).map tav ++ [tav nz] ++ (ts.drop k).map tav from by simp only [List.map_append, List.map_cons, List.map_nil]] at hBz
    refine W.seq ?_
    refine W.region ?_
    refine W.q (Ev.move (.t rfl)) rfl ?_
    first | refine W.app0 .k (.sl (.t rfl) (by intro e he; obtain ⟨d, _, rfl⟩ := List.mem_map.1 he; rfl)) Tryd.underlying23 ni23 ty28 rfl rfl (by rw [List.length_map]; omega) rfl ?_ | refine W.app0 .k (.arr 0 (.t rfl) rfl (by intro e he; obtain ⟨d, _, rfl⟩ := List.mem_map.1 he; rfl)) Tryd.underlying23 ni23 ty28 rfl rfl (by rw [List.length_map]; omega) rfl ?_ | refine W.app0 .k (.arr 1 (.t rfl) rfl (by intro e he; obtain ⟨d, _, rfl⟩ := List.mem_map.1 he; rfl)) Tryd.underlying23 ni23 ty28 rfl rfl (by rw [List.length_map]; omega) rfl ?_ | refine W.app0 .k (.arr 2 (.t rfl) rfl (by intro e he; obtain ⟨d, _, rfl⟩ := List.mem_map.1 he; rfl)) Tryd.underlying23 ni23 ty28 rfl rfl (by rw [List.length_map]; omega) rfl ?_ | refine W.app0 .k (.arr 3 (.t rfl) rfl (by intro e he; obtain ⟨d, _, rfl⟩ := List.mem_map.1 he; rfl)) Tryd.underlying23 ni23 ty28 rfl rfl (by rw [List.length_map]; omega) rfl ?_ | refine W.app0 .k (.sl (.t rfl) (by intro e he; obtain ⟨d, _, rfl⟩ := List.mem_map.1 he; rfl)) Tryd.underlying23 ni23 ty28 rfl rfl (by rw [List.length_map]; omega) rfl ?_ | refine W.app0 .k (.arr 0 (.t rfl) rfl (by intro e he; obtain ⟨d, _, rfl⟩ := List.mem_map.1 he; rfl)) Tryd.underlying23 ni23 ty28 rfl rfl (by rw [List.length_map]; omega) rfl ?_ | refine W.app0 .k (.arr 1 (.t rfl) rfl (by intro e he; obtain ⟨d, _, rfl⟩ := List.mem_map.1 he; rfl)) Tryd.underlying23 ni23 ty28 rfl rfl (by rw [List.length_map]; omega) rfl ?_ | refine W.app0 .k (.arr 2 (.t rfl) rfl (by intro e he; obtain ⟨d, _, rfl⟩ := List.mem_map.1 he; rfl)) Tryd.underlying23 ni23 ty28 rfl rfl (by rw [List.length_map]; omega) rfl ?_ | refine W.app0 .k (.arr 3 (.t rfl) rfl (by intro e he; obtain ⟨d, _, rfl⟩ := List.mem_map.1 he; rfl)) Tryd.underlying23 ni23 ty28 rfl rfl (by rw [List.length_map]; omega) rfl ?_
    refine W.call (WOBuild.c_Build ts (by omega) hok) ⟨(.t rfl), trivial⟩ ((List.perm_append_comm (l₁ := [_]))) rfl ?_
    rintro _ _ ⟨v29, rfl, rfl, hsz⟩
    refine W.q (Ev.move (.t rfl)) rfl ?_
    refine W.q (Ev.extract (.t rfl) rfl) rfl ?_
    refine W.q (Ev.extract (.t rfl) rfl) rfl ?_
    refine W.q (Ev.assign (.t rfl)) rfl ?_
    refine W.q (Ev.assign (.t rfl)) rfl ?_
    refine W.nil ?_
    refine W.freezeA (M1 := [.shr 0 54 (Opn.blocks.map AV.str), .shr 1 57 (Opn.voids.map AV.str), .box b9 28 (tav nz).cells]) (M2 := [.shr 0 54 (Opn.blocks.map AV.str), .shr 1 57 (Opn.voids.map AV.str), .box b9 28 (tav nz).cells]) (D := []) (v := v29) (L' := [(10, true, .sl 4 ((Opn.Bd.nds (List.foldl Opn.Bd.step Opn.Bd.root ts).obs 22 0).map Nd.av))]) (by rw [List.append_nil] <;> exact .refl _) ⟨⟨_, rfl, .one .hit⟩, trivial⟩ (FrzMs.refl _) ?_
    refine W.perm (M' := [.box b9 28 (tav nz).cells, .shr 0 54 (Opn.blocks.map AV.str), .shr 1 57 (Opn.voids.map AV.str)]) ((List.perm_middle (l₁ := [_, _])).trans <| List.Perm.cons _ <| List.Perm.cons _ <| List.Perm.cons _ <| .refl _) ?_
    refine W.then ?_
    refine W.seq ?_
    refine W.drawnM (fun ee c_ => .box b9 28 (tav nz).cells :: ((bif ee 11 then [ME.arr (c_ 11).2 52 4 ((Opn.Bd.nds (List.foldl Opn.Bd.step Opn.Bd.root (ts.take k ++ [nz] ++ ts.drop k)).obs 22 0).map Nd.av)] else bif ee 10 then [ME.arr (c_ 10).2 28 5 ((ts.take k).map tav ++ [tav nz] ++ (ts.drop k).map tav)] else bif ee 6 then [ME.arr (c_ 6).2 28 5 ((ts.take k).map tav ++ [tav nz])] else bif ee 3 then [ME.arr (c_ 3).2 28 5 ((ts.take k).map tav)] else []) ++ [.shr 0 54 (Opn.blocks.map AV.str), .shr 1 57 (Opn.voids.map AV.str)])) (c0 := ks0) (by kernel_rfl) (by kernel_rfl) rfl ?_
    refine DM.q (fun e c hk => (Ev.move (.t rfl))) rfl (fun _ _ => rfl) (fun c c_ h => by first | rfl) ?_
    refine DM.q (fun e c hk => (Ev.move (.t rfl))) rfl (fun _ _ => rfl) (fun c c_ h => by first | rfl) ?_
    refine DM.q (fun e c hk => Ev.takesl (n := k) (.t rfl) Tryd.underlying23 ty28 (.t rfl) rfl (fun _ => hkl)) rfl (fun _ _ => rfl) (fun _ _ _ => rfl) ?_
    refine DM.eff1 (av := fun c => .lit (c 3).2) rfl (fun c c_ h => by first | rfl | simp only [h 3 (by first | exact .inl rfl | exact .inr (by kernel_rfl))]) (fun e c hk L_ hs Q h => ?_) ?_
    · have hk_3 := hk.not
      have hk_6 := hk.down 6 (by kernel_rfl)
      have hk_10 := hk.down 10 (by kernel_rfl)
      have hk_11 := hk.down 11 (by kernel_rfl)
      simp only [addE, upd, eq_self, List.nil_append, List.cons_append, List.append_nil, hk_3, hk_6, hk_10, hk_11, Nat.reduceAdd, Nat.reduceEqDiff, ↓reduceIte, cond_true, cond_false] at h ⊢
      first | (refine W.appn .k (.sl (.t (hs _ _ rfl)) (by intro e he; obtain ⟨d, _, rfl⟩ := List.mem_map.1 he; rfl)) Tryd.underlying23 ni23 ty28 rfl rfl (by rw [List.length_map, List.length_take]; omega) rfl ?_; exact fun v => h (0, v) _ (by first | exact .refl _ | exact (List.perm_middle (l₁ := [_])).symm | exact (List.perm_middle (l₁ := [_, _])).symm | exact (List.perm_middle (l₁ := [_, _, _])).symm | exact (List.perm_middle (l₁ := [_, _, _, _])).symm | exact (List.perm_middle (l₁ := [_, _, _, _, _])).symm | exact (List.perm_middle (l₁ := [_, _, _, _, _, _])).symm | exact (List.perm_middle (l₁ := [_, _, _, _, _, _, _])).symm | exact (List.perm_middle (l₁ := [_, _, _, _, _, _, _, _])).symm)) | (refine W.appn .k (.arr 0 (.t (hs _ _ rfl)) rfl (by intro e he; obtain ⟨d, _, rfl⟩ := List.mem_map.1 he; rfl)) Tryd.underlying23 ni23 ty28 rfl rfl (by rw [List.length_map, List.length_take]; omega) rfl ?_; exact fun v => h (0, v) _ (by first | exact .refl _ | exact (List.perm_middle (l₁ := [_])).symm | exact (List.perm_middle (l₁ := [_, _])).symm | exact (List.perm_middle (l₁ := [_, _, _])).symm | exact (List.perm_middle (l₁ := [_, _, _, _])).symm | exact (List.perm_middle (l₁ := [_, _, _, _, _])).symm | exact (List.perm_middle (l₁ := [_, _, _, _, _, _])).symm | exact (List.perm_middle (l₁ := [_, _, _, _, _, _, _])).symm | exact (List.perm_middle (l₁ := [_, _, _, _, _, _, _, _])).symm)) | (refine W.appn .k (.arr 1 (.t (hs _ _ rfl)) rfl (by intro e he; obtain ⟨d, _, rfl⟩ := List.mem_map.1 he; rfl)) Tryd.underlying23 ni23 ty28 rfl rfl (by rw [List.length_map, List.length_take]; omega) rfl ?_; exact fun v => h (0, v) _ (by first | exact .refl _ | exact (List.perm_middle (l₁ := [_])).symm | exact (List.perm_middle (l₁ := [_, _])).symm | exact (List.perm_middle (l₁ := [_, _, _])).symm | exact (List.perm_middle (l₁ := [_, _, _, _])).symm | exact (List.perm_middle (l₁ := [_, _, _, _, _])).symm | exact (List.perm_middle (l₁ := [_, _, _, _, _, _])).symm | exact (List.perm_middle (l₁ := [_, _, _, _, _, _, _])).symm | exact (List.perm_middle (l₁ := [_, _, _, _, _, _, _, _])).symm)) | (refine W.appn .k (.arr 2 (.t (hs _ _ rfl)) rfl (by intro e he; obtain ⟨d, _, rfl⟩ := List.mem_map.1 he; rfl)) Tryd.underlying23 ni23 ty28 rfl rfl (by rw [List.length_map, List.length_take]; omega) rfl ?_; exact fun v => h (0, v) _ (by first | exact .refl _ | exact (List.perm_middle (l₁ := [_])).symm | exact (List.perm_middle (l₁ := [_, _])).symm | exact (List.perm_middle (l₁ := [_, _, _])).symm | exact (List.perm_middle (l₁ := [_, _, _, _])).symm | exact (List.perm_middle (l₁ := [_, _, _, _, _])).symm | exact (List.perm_middle (l₁ := [_, _, _, _, _, _])).symm | exact (List.perm_middle (l₁ := [_, _, _, _, _, _, _])).symm | exact (List.perm_middle (l₁ := [_, _, _, _, _, _, _, _])).symm)) | (refine W.appn .k (.arr 3 (.t (hs _ _ rfl)) rfl (by intro e he; obtain ⟨d, _, rfl⟩ := List.mem_map.1 he; rfl)) Tryd.underlying23 ni23 ty28 rfl rfl (by rw [List.length_map, List.length_take]; omega) rfl ?_; exact fun v => h (0, v) _ (by first | exact .refl _ | exact (List.perm_middle (l₁ := [_])).symm | exact (List.perm_middle (l₁ := [_, _])).symm | exact (List.perm_middle (l₁ := [_, _, _])).symm | exact (List.perm_middle (l₁ := [_, _, _, _])).symm | exact (List.perm_middle (l₁ := [_, _, _, _, _])).symm | exact (List.perm_middle (l₁ := [_, _, _, _, _, _])).symm | exact (List.perm_middle (l₁ := [_, _, _, _, _, _, _])).symm | exact (List.perm_middle (l₁ := [_, _, _, _, _, _, _, _])).symm))
    first | refine DM.q (fun e c hk => (Ev.lden (.t rfl) ag28 ty28 rfl rfl)) rfl (fun _ _ => rfl) (fun c c_ h => by first | rfl) ?_ | refine DM.q (fun e c hk => (Ev.ldbn 0 (.t rfl) rfl ag28 ty28 rfl)) rfl (fun _ _ => rfl) (fun c c_ h => by first | rfl) ?_ | refine DM.q (fun e c hk => (Ev.ldbn 1 (.t rfl) rfl ag28 ty28 rfl)) rfl (fun _ _ => rfl) (fun c c_ h => by first | rfl) ?_ | refine DM.q (fun e c hk => (Ev.ldbn 2 (.t rfl) rfl ag28 ty28 rfl)) rfl (fun _ _ => rfl) (fun c c_ h => by first | rfl) ?_ | refine DM.q (fun e c hk => (Ev.ldbn 3 (.t rfl) rfl ag28 ty28 rfl)) rfl (fun _ _ => rfl) (fun c c_ h => by first | rfl) ?_
    refine DM.bs (es := fun _ => [_]) Tryd.underlying23 ty28 (fun c => ⟨rfl, (.t rfl), rfl, rfl, trivial⟩) (fun _ => rfl) (by decide) rfl rfl (fun _ _ => rfl) (fun c c_ h => by first | rfl) ?_
    refine DM.eff1 (av := fun c => .lit (c 6).2) rfl (fun c c_ h => by first | rfl | simp only [h 3 (by first | exact .inl rfl | exact .inr (by kernel_rfl)), h 6 (by first | exact .inl rfl | exact .inr (by kernel_rfl))]) (fun e c hk L_ hs Q h => ?_) ?_
    · have hk_6 := hk.not
      have hk_3 := hk.up 3 (by kernel_rfl)
      have hk_10 := hk.down 10 (by kernel_rfl)
      have hk_11 := hk.down 11 (by kernel_rfl)
      simp only [addE, upd, eq_self, List.nil_append, List.cons_append, List.append_nil, hk_6, hk_3, hk_10, hk_11, Nat.reduceAdd, Nat.reduceEqDiff, ↓reduceIte, cond_true, cond_false] at h ⊢
      first | (refine W.app 0 (.t (hs _ _ rfl)) rfl (.sl (.t (hs _ _ rfl)) (by first | (simp [AV.okc, shV]; done) | (intro e he; rw [List.mem_singleton.1 he]; rfl))) Tryd.underlying23 ni23 ty28 rfl rfl (by simp only [List.length_append, List.length_map, List.length_take, List.length_cons, List.length_nil]; omega) rfl ?_; exact fun v => h (0, v) _ (by first | exact .refl _ | exact (List.perm_middle (l₁ := [_])).symm | exact (List.perm_middle (l₁ := [_, _])).symm | exact (List.perm_middle (l₁ := [_, _, _])).symm | exact (List.perm_middle (l₁ := [_, _, _, _])).symm | exact (List.perm_middle (l₁ := [_, _, _, _, _])).symm | exact (List.perm_middle (l₁ := [_, _, _, _, _, _])).symm | exact (List.perm_middle (l₁ := [_, _, _, _, _, _, _])).symm | exact (List.perm_middle (l₁ := [_, _, _, _, _, _, _, _])).symm)) | (refine W.app 1 (.t (hs _ _ rfl)) rfl (.sl (.t (hs _ _ rfl)) (by first | (simp [AV.okc, shV]; done) | (intro e he; rw [List.mem_singleton.1 he]; rfl))) Tryd.underlying23 ni23 ty28 rfl rfl (by simp only [List.length_append, List.length_map, List.length_take, List.length_cons, List.length_nil]; omega) rfl ?_; exact fun v => h (0, v) _ (by first | exact .refl _ | exact (List.perm_middle (l₁ := [_])).symm | exact (List.perm_middle (l₁ := [_, _])).symm | exact (List.perm_middle (l₁ := [_, _, _])).symm | exact (List.perm_middle (l₁ := [_, _, _, _])).symm | exact (List.perm_middle (l₁ := [_, _, _, _, _])).symm | exact (List.perm_middle (l₁ := [_, _, _, _, _, _])).symm | exact (List.perm_middle (l₁ := [_, _, _, _, _, _, _])).symm | exact (List.perm_middle (l₁ := [_, _, _, _, _, _, _, _])).symm)) | (refine W.app 2 (.t (hs _ _ rfl)) rfl (.sl (.t (hs _ _ rfl)) (by first | (simp [AV.okc, shV]; done) | (intro e he; rw [List.mem_singleton.1 he]; rfl))) Tryd.underlying23 ni23 ty28 rfl rfl (by simp only [List.length_append, List.length_map, List.length_take, List.length_cons, List.length_nil]; omega) rfl ?_; exact fun v => h (0, v) _ (by first | exact .refl _ | exact (List.perm_middle (l₁ := [_])).symm | exact (List.perm_middle (l₁ := [_, _])).symm | exact (List.perm_middle (l₁ := [_, _, _])).symm | exact (List.perm_middle (l₁ := [_, _, _, _])).symm | exact (List.perm_middle (l₁ := [_, _, _, _, _])).symm | exact (List.perm_middle (l₁ := [_, _, _, _, _, _])).symm | exact (List.perm_middle (l₁ := [_, _, _, _, _, _, _])).symm | exact (List.perm_middle (l₁ := [_, _, _, _, _, _, _, _])).symm)) | (refine W.app 3 (.t (hs _ _ rfl)) rfl (.sl (.t (hs _ _ rfl)) (by first | (simp [AV.okc, shV]; done) | (intro e he; rw [List.mem_singleton.1 he]; rfl))) Tryd.underlying23 ni23 ty28 rfl rfl (by simp only [List.length_append, List.length_map, List.length_take, List.length_cons, List.length_nil]; omega) rfl ?_; exact fun v => h (0, v) _ (by first | exact .refl _ | exact (List.perm_middle (l₁ := [_])).symm | exact (List.perm_middle (l₁ := [_, _])).symm | exact (List.perm_middle (l₁ := [_, _, _])).symm | exact (List.perm_middle (l₁ := [_, _, _, _])).symm | exact (List.perm_middle (l₁ := [_, _, _, _, _])).symm | exact (List.perm_middle (l₁ := [_, _, _, _, _, _])).symm | exact (List.perm_middle (l₁ := [_, _, _, _, _, _, _])).symm | exact (List.perm_middle (l₁ := [_, _, _, _, _, _, _, _])).symm)) | (refine W.app 0 (.t (hs _ _ rfl)) rfl (.arr 0 (.t (hs _ _ rfl)) rfl (by first | (simp [AV.okc, shV]; done) | (intro e he; rw [List.mem_singleton.1 he]; rfl))) Tryd.underlying23 ni23 ty28 rfl rfl (by simp only [List.length_append, List.length_map, List.length_take, List.length_cons, List.length_nil]; omega) rfl ?_; exact fun v => h (0, v) _ (by first | exact .refl _ | exact (List.perm_middle (l₁ := [_])).symm | exact (List.perm_middle (l₁ := [_, _])).symm | exact (List.perm_middle (l₁ := [_, _, _])).symm | exact (List.perm_middle (l₁ := [_, _, _, _])).symm | exact (List.perm_middle (l₁ := [_, _, _, _, _])).symm | exact (List.perm_middle (l₁ := [_, _, _, _, _, _])).symm | exact (List.perm_middle (l₁ := [_, _, _, _, _, _, _])).symm | exact (List.perm_middle (l₁ := [_, _, _, _, _, _, _, _])).symm)) | (refine W.app 1 (.t (hs _ _ rfl)) rfl (.arr 0 (.t (hs _ _ rfl)) rfl (by first | (simp [AV.okc, shV]; done) | (intro e he; rw [List.mem_singleton.1 he]; rfl))) Tryd.underlying23 ni23 ty28 rfl rfl (by simp only [List.length_append, List.length_map, List.length_take, List.length_cons, List.length_nil]; omega) rfl ?_; exact fun v => h (0, v) _ (by first | exact .refl _ | exact (List.perm_middle (l₁ := [_])).symm | exact (List.perm_middle (l₁ := [_, _])).symm | exact (List.perm_middle (l₁ := [_, _, _])).symm | exact (List.perm_middle (l₁ := [_, _, _, _])).symm | exact (List.perm_middle (l₁ := [_, _, _, _, _])).symm | exact (List.perm_middle (l₁ := [_, _, _, _, _, _])).symm | exact (List.perm_middle (l₁ := [_, _, _, _, _, _, _])).symm | exact (List.perm_middle (l₁ := [_, _, _, _, _, _, _, _])).symm)) | (refine W.app 2 (.t (hs _ _ rfl)) rfl (.arr 0 (.t (hs _ _ rfl)) rfl (by first | (simp [AV.okc, shV]; done) | (intro e he; rw [List.mem_singleton.1 he]; rfl))) Tryd.underlying23 ni23 ty28 rfl rfl (by simp only [List.length_append, List.length_map, List.length_take, List.length_cons, List.length_nil]; omega) rfl ?_; exact fun v => h (0, v) _ (by first | exact .refl _ | exact (List.perm_middle (l₁ := [_])).symm | exact (List.perm_middle (l₁ := [_, _])).symm | exact (List.perm_middle (l₁ := [_, _, _])).symm | exact (List.perm_middle (l₁ := [_, _, _, _])).symm | exact (List.perm_middle (l₁ := [_, _, _, _, _])).symm | exact (List.perm_middle (l₁ := [_, _, _, _, _, _])).symm | exact (List.perm_middle (l₁ := [_, _, _, _, _, _, _])).symm | exact (List.perm_middle (l₁ := [_, _, _, _, _, _, _, _])).symm)) | (refine W.app 3 (.t (hs _ _ rfl)) rfl (.arr 0 (.t (hs _ _ rfl)) rfl (by first | (simp [AV.okc, shV]; done) | (intro e he; rw [List.mem_singleton.1 he]; rfl))) Tryd.underlying23 ni23 ty28 rfl rfl (by simp only [List.length_append, List.length_map, List.length_take, List.length_cons, List.length_nil]; omega) rfl ?_; exact fun v => h (0, v) _ (by first | exact .refl _ | exact (List.perm_middle (l₁ := [_])).symm | exact (List.perm_middle (l₁ := [_, _])).symm | exact (List.perm_middle (l₁ := [_, _, _])).symm | exact (List.perm_middle (l₁ := [_, _, _, _])).symm | exact (List.perm_middle (l₁ := [_, _, _, _, _])).symm | exact (List.perm_middle (l₁ := [_, _, _, _, _, _])).symm | exact (List.perm_middle (l₁ := [_, _, _, _, _, _, _])).symm | exact (List.perm_middle (l₁ := [_, _, _, _, _, _, _, _])).symm)) | (refine W.app 0 (.t (hs _ _ rfl)) rfl (.arr 1 (.t (hs _ _ rfl)) rfl (by first | (simp [AV.okc, shV]; done) | (intro e he; rw [List.mem_singleton.1 he]; rfl))) Tryd.underlying23 ni23 ty28 rfl rfl (by simp only [List.length_append, List.length_map, List.length_take, List.length_cons, List.length_nil]; omega) rfl ?_; exact fun v => h (0, v) _ (by first | exact .refl _ | exact (List.perm_middle (l₁ := [_])).symm | exact (List.perm_middle (l₁ := [_, _])).symm | exact (List.perm_middle (l₁ := [_, _, _])).symm | exact (List.perm_middle (l₁ := [_, _, _, _])).symm | exact (List.perm_middle (l₁ := [_, _, _, _, _])).symm | exact (List.perm_middle (l₁ := [_, _, _, _, _, _])).symm | exact (List.perm_middle (l₁ := [_, _, _, _, _, _, _])).symm | exact (List.perm_middle (l₁ := [_, _, _, _, _, _, _, _])).symm)) | (refine W.app 1 (.t (hs _ _ rfl)) rfl (.arr 1 (.t (hs _ _ rfl)) rfl (by first | (simp [AV.okc, shV]; done) | (intro e he; rw [List.mem_singleton.1 he]; rfl))) Tryd.underlying23 ni23 ty28 rfl rfl (by simp only [List.length_append, List.length_map, List.length_take, List.length_cons, List.length_nil]; omega) rfl ?_; exact fun v => h (0, v) _ (by first | exact .refl _ | exact (List.perm_middle (l₁ := [_])).symm | exact (List.perm_middle (l₁ := [_, _])).symm | exact (List.perm_middle (l₁ := [_, _, _])).symm | exact (List.perm_middle (l₁ := [_, _, _, _])).symm | exact (List.perm_middle (l₁ := [_, _, _, _, _])).symm | exact (List.perm_middle (l₁ := [_, _, _, _, _, _])).symm | exact (List.perm_middle (l₁ := [_, _, _, _, _, _, _])).symm | exact (List.perm_middle (l₁ := [_, _, _, _, _, _, _, _])).symm)) | (refine W.app 2 (.t (hs _ _ rfl)) rfl (.arr 1 (.t (hs _ _ rfl)) rfl (by first | (simp [AV.okc, shV]; done) | (intro e he; rw [List.mem_singleton.1 he]; rfl))) Tryd.underlying23 ni23 ty28 rfl rfl (by simp only [List.length_append, List.length_map, List.length_take, List.length_cons, List.length_nil]; omega) rfl ?_; exact fun v => h (0, v) _ (by first | exact .refl _ | exact (List.perm_middle (l₁ := [_])).symm | exact (List.perm_middle (l₁ := [_, _])).symm | exact (List.perm_middle (l₁ := [_, _, _])).symm | exact (List.perm_middle (l₁ := [_, _, _, _])).symm | exact (List.perm_middle (l₁ := [_, _, _, _, _])).symm | exact (List.perm_middle (l₁ := [_, _, _, _, _, _])).symm | exact (List.perm_middle (l₁ := [_, _, _, _, _, _, _])).symm | exact (List.perm_middle (l₁ := [_, _, _, _, _, _, _, _])).symm)) | (refine W.app 3 (.t (hs _ _ rfl)) rfl (.arr 1 (.t (hs _ _ rfl)) rfl (by first | (simp [AV.okc, shV]; done) | (intro e he; rw [List.mem_singleton.1 he]; rfl))) Tryd.underlying23 ni23 ty28 rfl rfl (by simp only [List.length_append, List.length_map, List.length_take, List.length_cons, List.length_nil]; omega) rfl ?_; exact fun v => h (0, v) _ (by first | exact .refl _ | exact (List.perm_middle (l₁ := [_])).symm | exact (List.perm_middle (l₁ := [_, _])).symm | exact (List.perm_middle (l₁ := [_, _, _])).symm | exact (List.perm_middle (l₁ := [_, _, _, _])).symm | exact (List.perm_middle (l₁ := [_, _, _, _, _])).symm | exact (List.perm_middle (l₁ := [_, _, _, _, _, _])).symm | exact (List.perm_middle (l₁ := [_, _, _, _, _, _, _])).symm | exact (List.perm_middle (l₁ := [_, _, _, _, _, _, _, _])).symm)) | (refine W.app 0 (.t (hs _ _ rfl)) rfl (.arr 2 (.t (hs _ _ rfl)) rfl (by first | (simp [AV.okc, shV]; done) | (intro e he; rw [List.mem_singleton.1 he]; rfl))) Tryd.underlying23 ni23 ty28 rfl rfl (by simp only [List.length_append, List.length_map, List.length_take, List.length_cons, List.length_nil]; omega) rfl ?_; exact fun v => h (0, v) _ (by first | exact .refl _ | exact (List.perm_middle (l₁ := [_])).symm | exact (List.perm_middle (l₁ := [_, _])).symm | exact (List.perm_middle (l₁ := [_, _, _])).symm | exact (List.perm_middle (l₁ := [_, _, _, _])).symm | exact (List.perm_middle (l₁ := [_, _, _, _, _])).symm | exact (List.perm_middle (l₁ := [_, _, _, _, _, _])).symm | exact (List.perm_middle (l₁ := [_, _, _, _, _, _, _])).symm | exact (List.perm_middle (l₁ := [_, _, _, _, _, _, _, _])).symm)) | (refine W.app 1 (.t (hs _ _ rfl)) rfl (.arr 2 (.t (hs _ _ rfl)) rfl (by first | (simp [AV.okc, shV]; done) | (intro e he; rw [List.mem_singleton.1 he]; rfl))) Tryd.underlying23 ni23 ty28 rfl rfl (by simp only [List.length_append, List.length_map, List.length_take, List.length_cons, List.length_nil]; omega) rfl ?_; exact fun v => h (0, v) _ (by first | exact .refl _ | exact (List.perm_middle (l₁ := [_])).symm | exact (List.perm_middle (l₁ := [_, _])).symm | exact (List.perm_middle (l₁ := [_, _, _])).symm | exact (List.perm_middle (l₁ := [_, _, _, _])).symm | exact (List.perm_middle (l₁ := [_, _, _, _, _])).symm | exact (List.perm_middle (l₁ := [_, _, _, _, _, _])).symm | exact (List.perm_middle (l₁ := [_, _, _, _, _, _, _])).symm | exact (List.perm_middle (l₁ := [_, _, _, _, _, _, _, _])).symm)) | (refine W.app 2 (.t (hs _ _ rfl)) rfl (.arr 2 (.t (hs _ _ rfl)) rfl (by first | (simp [AV.okc, shV]; done) | (intro e he; rw [List.mem_singleton.1 he]; rfl))) Tryd.underlying23 ni23 ty28 rfl rfl (by simp only [List.length_append, List.length_map, List.length_take, List.length_cons, List.length_nil]; omega) rfl ?_; exact fun v => h (0, v) _ (by first | exact .refl _ | exact (List.perm_middle (l₁ := [_])).symm | exact (List.perm_middle (l₁ := [_, _])).symm | exact (List.perm_middle (l₁ := [_, _, _])).symm | exact (List.perm_middle (l₁ := [_, _, _, _])).symm | exact (List.perm_middle (l₁ := [_, _, _, _, _])).symm | exact (List.perm_middle (l₁ := [_, _, _, _, _, _])).symm | exact (List.perm_middle (l₁ := [_, _, _, _, _, _, _])).symm | exact (List.perm_middle (l₁ := [_, _, _, _, _, _, _, _])).symm)) | (refine W.app 3 (.t (hs _ _ rfl)) rfl (.arr 2 (.t (hs _ _ rfl)) rfl (by first | (simp [AV.okc, shV]; done) | (intro e he; rw [List.mem_singleton.1 he]; rfl))) Tryd.underlying23 ni23 ty28 rfl rfl (by simp only [List.length_append, List.length_map, List.length_take, List.length_cons, List.length_nil]; omega) rfl ?_; exact fun v => h (0, v) _ (by first | exact .refl _ | exact (List.perm_middle (l₁ := [_])).symm | exact (List.perm_middle (l₁ := [_, _])).symm | exact (List.perm_middle (l₁ := [_, _, _])).symm | exact (List.perm_middle (l₁ := [_, _, _, _])).symm | exact (List.perm_middle (l₁ := [_, _, _, _, _])).symm | exact (List.perm_middle (l₁ := [_, _, _, _, _, _])).symm | exact (List.perm_middle (l₁ := [_, _, _, _, _, _, _])).symm | exact (List.perm_middle (l₁ := [_, _, _, _, _, _, _, _])).symm)) | (refine W.app 0 (.t (hs _ _ rfl)) rfl (.arr 3 (.t (hs _ _ rfl)) rfl (by first | (simp [AV.okc, shV]; done) | (intro e he; rw [List.mem_singleton.1 he]; rfl))) Tryd.underlying23 ni23 ty28 rfl rfl (by simp only [List.length_append, List.length_map, List.length_take, List.length_cons, List.length_nil]; omega) rfl ?_; exact fun v => h (0, v) _ (by first | exact .refl _ | exact (List.perm_middle (l₁ := [_])).symm | exact (List.perm_middle (l₁ := [_, _])).symm | exact (List.perm_middle (l₁ := [_, _, _])).symm | exact (List.perm_middle (l₁ := [_, _, _, _])).symm | exact (List.perm_middle (l₁ := [_, _, _, _, _])).symm | exact (List.perm_middle (l₁ := [_, _, _, _, _, _])).symm | exact (List.perm_middle (l₁ := [_, _, _, _, _, _, _])).symm | exact (List.perm_middle (l₁ := [_, _, _, _, _, _, _, _])).symm)) | (refine W.app 1 (.t (hs _ _ rfl)) rfl (.arr 3 (.t (hs _ _ rfl)) rfl (by first | (simp [AV.okc, shV]; done) | (intro e he; rw [List.mem_singleton.1 he]; rfl))) Tryd.underlying23 ni23 ty28 rfl rfl (by simp only [List.length_append, List.length_map, List.length_take, List.length_cons, List.length_nil]; omega) rfl ?_; exact fun v => h (0, v) _ (by first | exact .refl _ | exact (List.perm_middle (l₁ := [_])).symm | exact (List.perm_middle (l₁ := [_, _])).symm | exact (List.perm_middle (l₁ := [_, _, _])).symm | exact (List.perm_middle (l₁ := [_, _, _, _])).symm | exact (List.perm_middle (l₁ := [_, _, _, _, _])).symm | exact (List.perm_middle (l₁ := [_, _, _, _, _, _])).symm | exact (List.perm_middle (l₁ := [_, _, _, _, _, _, _])).symm | exact (List.perm_middle (l₁ := [_, _, _, _, _, _, _, _])).symm)) | (refine W.app 2 (.t (hs _ _ rfl)) rfl (.arr 3 (.t (hs _ _ rfl)) rfl (by first | (simp [AV.okc, shV]; done) | (intro e he; rw [List.mem_singleton.1 he]; rfl))) Tryd.underlying23 ni23 ty28 rfl rfl (by simp only [List.length_append, List.length_map, List.length_take, List.length_cons, List.length_nil]; omega) rfl ?_; exact fun v => h (0, v) _ (by first | exact .refl _ | exact (List.perm_middle (l₁ := [_])).symm | exact (List.perm_middle (l₁ := [_, _])).symm | exact (List.perm_middle (l₁ := [_, _, _])).symm | exact (List.perm_middle (l₁ := [_, _, _, _])).symm | exact (List.perm_middle (l₁ := [_, _, _, _, _])).symm | exact (List.perm_middle (l₁ := [_, _, _, _, _, _])).symm | exact (List.perm_middle (l₁ := [_, _, _, _, _, _, _])).symm | exact (List.perm_middle (l₁ := [_, _, _, _, _, _, _, _])).symm)) | (refine W.app 3 (.t (hs _ _ rfl)) rfl (.arr 3 (.t (hs _ _ rfl)) rfl (by first | (simp [AV.okc, shV]; done) | (intro e he; rw [List.mem_singleton.1 he]; rfl))) Tryd.underlying23 ni23 ty28 rfl rfl (by simp only [List.length_append, List.length_map, List.length_take, List.length_cons, List.length_nil]; omega) rfl ?_; exact fun v => h (0, v) _ (by first | exact .refl _ | exact (List.perm_middle (l₁ := [_])).symm | exact (List.perm_middle (l₁ := [_, _])).symm | exact (List.perm_middle (l₁ := [_, _, _])).symm | exact (List.perm_middle (l₁ := [_, _, _, _])).symm | exact (List.perm_middle (l₁ := [_, _, _, _, _])).symm | exact (List.perm_middle (l₁ := [_, _, _, _, _, _])).symm | exact (List.perm_middle (l₁ := [_, _, _, _, _, _, _])).symm | exact (List.perm_middle (l₁ := [_, _, _, _, _, _, _, _])).symm))
    refine DM.q (fun e c hk => (Ev.move (.t rfl))) rfl (fun _ _ => rfl) (fun c c_ h => by first | rfl) ?_
    refine DM.q (fun e c hk => (Ev.move (.t rfl))) rfl (fun _ _ => rfl) (fun c c_ h => by first | rfl) ?_
    refine DM.q (fun e c hk => Ev.dropsl (n := k) (.t rfl) Tryd.underlying23 ty28 (.t rfl) rfl (fun _ => hkl)) rfl (fun _ _ => rfl) (fun _ _ _ => rfl) ?_
    refine DM.eff1 (av := fun c => .lit (c 10).2) rfl (fun c c_ h => by first | rfl | simp only [h 3 (by first | exact .inl rfl | exact .inr (by kernel_rfl)), h 6 (by first | exact .inl rfl | exact .inr (by kernel_rfl)), h 10 (by first | exact .inl rfl | exact .inr (by kernel_rfl))]) (fun e c hk L_ hs Q h => ?_) ?_
    · have hk_10 := hk.not
      have hk_3 := hk.up 3 (by kernel_rfl)
      have hk_6 := hk.up 6 (by kernel_rfl)
      have hk_11 := hk.down 11 (by kernel_rfl)
      simp only [addE, upd, eq_self, List.nil_append, List.cons_append, List.append_nil, hk_10, hk_3, hk_6, hk_11, Nat.reduceAdd, Nat.reduceEqDiff, ↓reduceIte, cond_true, cond_false] at h ⊢
      first | (refine W.app 0 (.t (hs _ _ rfl)) rfl (.sl (.t (hs _ _ rfl)) (by intro e he; obtain ⟨d, _, rfl⟩ := List.mem_map.1 he; rfl)) Tryd.underlying23 ni23 ty28 rfl rfl (by simp only [List.length_append, List.length_map, List.length_take, List.length_drop, List.length_cons, List.length_nil]; omega) rfl ?_; exact fun v => h (0, v) _ (by first | exact .refl _ | exact (List.perm_middle (l₁ := [_])).symm | exact (List.perm_middle (l₁ := [_, _])).symm | exact (List.perm_middle (l₁ := [_, _, _])).symm | exact (List.perm_middle (l₁ := [_, _, _, _])).symm | exact (List.perm_middle (l₁ := [_, _, _, _, _])).symm | exact (List.perm_middle (l₁ := [_, _, _, _, _, _])).symm | exact (List.perm_middle (l₁ := [_, _, _, _, _, _, _])).symm | exact (List.perm_middle (l₁ := [_, _, _, _, _, _, _, _])).symm)) | (refine W.app 1 (.t (hs _ _ rfl)) rfl (.sl (.t (hs _ _ rfl)) (by intro e he; obtain ⟨d, _, rfl⟩ := List.mem_map.1 he; rfl)) Tryd.underlying23 ni23 ty28 rfl rfl (by simp only [List.length_append, List.length_map, List.length_take, List.length_drop, List.length_cons, List.length_nil]; omega) rfl ?_; exact fun v => h (0, v) _ (by first | exact .refl _ | exact (List.perm_middle (l₁ := [_])).symm | exact (List.perm_middle (l₁ := [_, _])).symm | exact (List.perm_middle (l₁ := [_, _, _])).symm | exact (List.perm_middle (l₁ := [_, _, _, _])).symm | exact (List.perm_middle (l₁ := [_, _, _, _, _])).symm | exact (List.perm_middle (l₁ := [_, _, _, _, _, _])).symm | exact (List.perm_middle (l₁ := [_, _, _, _, _, _, _])).symm | exact (List.perm_middle (l₁ := [_, _, _, _, _, _, _, _])).symm)) | (refine W.app 2 (.t (hs _ _ rfl)) rfl (.sl (.t (hs _ _ rfl)) (by intro e he; obtain ⟨d, _, rfl⟩ := List.mem_map.1 he; rfl)) Tryd.underlying23 ni23 ty28 rfl rfl (by simp only [List.length_append, List.length_map, List.length_take, List.length_drop, List.length_cons, List.length_nil]; omega) rfl ?_; exact fun v => h (0, v) _ (by first | exact .refl _ | exact (List.perm_middle (l₁ := [_])).symm | exact (List.perm_middle (l₁ := [_, _])).symm | exact (List.perm_middle (l₁ := [_, _, _])).symm | exact (List.perm_middle (l₁ := [_, _, _, _])).symm | exact (List.perm_middle (l₁ := [_, _, _, _, _])).symm | exact (List.perm_middle (l₁ := [_, _, _, _, _, _])).symm | exact (List.perm_middle (l₁ := [_, _, _, _, _, _, _])).symm | exact (List.perm_middle (l₁ := [_, _, _, _, _, _, _, _])).symm)) | (refine W.app 3 (.t (hs _ _ rfl)) rfl (.sl (.t (hs _ _ rfl)) (by intro e he; obtain ⟨d, _, rfl⟩ := List.mem_map.1 he; rfl)) Tryd.underlying23 ni23 ty28 rfl rfl (by simp only [List.length_append, List.length_map, List.length_take, List.length_drop, List.length_cons, List.length_nil]; omega) rfl ?_; exact fun v => h (0, v) _ (by first | exact .refl _ | exact (List.perm_middle (l₁ := [_])).symm | exact (List.perm_middle (l₁ := [_, _])).symm | exact (List.perm_middle (l₁ := [_, _, _])).symm | exact (List.perm_middle (l₁ := [_, _, _, _])).symm | exact (List.perm_middle (l₁ := [_, _, _, _, _])).symm | exact (List.perm_middle (l₁ := [_, _, _, _, _, _])).symm | exact (List.perm_middle (l₁ := [_, _, _, _, _, _, _])).symm | exact (List.perm_middle (l₁ := [_, _, _, _, _, _, _, _])).symm)) | (refine W.app 0 (.t (hs _ _ rfl)) rfl (.arr 0 (.t (hs _ _ rfl)) rfl (by intro e he; obtain ⟨d, _, rfl⟩ := List.mem_map.1 he; rfl)) Tryd.underlying23 ni23 ty28 rfl rfl (by simp only [List.length_append, List.length_map, List.length_take, List.length_drop, List.length_cons, List.length_nil]; omega) rfl ?_; exact fun v => h (0, v) _ (by first | exact .refl _ | exact (List.perm_middle (l₁ := [_])).symm | exact (List.perm_middle (l₁ := [_, _])).symm | exact (List.perm_middle (l₁ := [_, _, _])).symm | exact (List.perm_middle (l₁ := [_, _, _, _])).symm | exact (List.perm_middle (l₁ := [_, _, _, _, _])).symm | exact (List.perm_middle (l₁ := [_, _, _, _, _, _])).symm | exact (List.perm_middle (l₁ := [_, _, _, _, _, _, _])).symm | exact (List.perm_middle (l₁ := [_, _, _, _, _, _, _, _])).symm)) | (refine W.app 1 (.t (hs _ _ rfl)) rfl (.arr 0 (.t (hs _ _ rfl)) rfl (by intro e he; obtain ⟨d, _, rfl⟩ := List.mem_map.1 he; rfl)) Tryd.underlying23 ni23 ty28 rfl rfl (by simp only [List.length_append, List.length_map, List.length_take, List.length_drop, List.length_cons, List.length_nil]; omega) rfl ?_; exact fun v => h (0, v) _ (by first | exact .refl _ | exact (List.perm_middle (l₁ := [_])).symm | exact (List.perm_middle (l₁ := [_, _])).symm | exact (List.perm_middle (l₁ := [_, _, _])).symm | exact (List.perm_middle (l₁ := [_, _, _, _])).symm | exact (List.perm_middle (l₁ := [_, _, _, _, _])).symm | exact (List.perm_middle (l₁ := [_, _, _, _, _, _])).symm | exact (List.perm_middle (l₁ := [_, _, _, _, _, _, _])).symm | exact (List.perm_middle (l₁ := [_, _, _, _, _, _, _, _])).symm)) | (refine W.app 2 (.t (hs _ _ rfl)) rfl (.arr 0 (.t (hs _ _ rfl)) rfl (by intro e he; obtain ⟨d, _, rfl⟩ := List.mem_map.1 he; rfl)) Tryd.underlying23 ni23 ty28 rfl rfl (by simp only [List.length_append, List.length_map, List.length_take, List.length_drop, List.length_cons, List.length_nil]; omega) rfl ?_; exact fun v => h (0, v) _ (by first | exact .refl _ | exact (List.perm_middle (l₁ := [_])).symm | exact (List.perm_middle (l₁ := [_, _])).symm | exact (List.perm_middle (l₁ := [_, _, _])).symm | exact (List.perm_middle (l₁ := [_, _, _, _])).symm | exact (List.perm_middle (l₁ := [_, _, _, _, _])).symm | exact (List.perm_middle (l₁ := [_, _, _, _, _, _])).symm | exact (List.perm_middle (l₁ := [_, _, _, _, _, _, _])).symm | exact (List.perm_middle (l₁ := [_, _, _, _, _, _, _, _])).symm)) | (refine W.app 3 (.t (hs _ _ rfl)) rfl (.arr 0 (.t (hs _ _ rfl)) rfl (by intro e he; obtain ⟨d, _, rfl⟩ := List.mem_map.1 he; rfl)) Tryd.underlying23 ni23 ty28 rfl rfl (by simp only [List.length_append, List.length_map, List.length_take, List.length_drop, List.length_cons, List.length_nil]; omega) rfl ?_; exact fun v => h (0, v) _ (by first | exact .refl _ | exact (List.perm_middle (l₁ := [_])).symm | exact (List.perm_middle (l₁ := [_, _])).symm | exact (List.perm_middle (l₁ := [_, _, _])).symm | exact (List.perm_middle (l₁ := [_, _, _, _])).symm | exact (List.perm_middle (l₁ := [_, _, _, _, _])).symm | exact (List.perm_middle (l₁ := [_, _, _, _, _, _])).symm | exact (List.perm_middle (l₁ := [_, _, _, _, _, _, _])).symm | exact (List.perm_middle (l₁ := [_, _, _, _, _, _, _, _])).symm)) | (refine W.app 0 (.t (hs _ _ rfl)) rfl (.arr 1 (.t (hs _ _ rfl)) rfl (by intro e he; obtain ⟨d, _, rfl⟩ := List.mem_map.1 he; rfl)) Tryd.underlying23 ni23 ty28 rfl rfl (by simp only [List.length_append, List.length_map, List.length_take, List.length_drop, List.length_cons, List.length_nil]; omega) rfl ?_; exact fun v => h (0, v) _ (by first | exact .refl _ | exact (List.perm_middle (l₁ := [_])).symm | exact (List.perm_middle (l₁ := [_, _])).symm | exact (List.perm_middle (l₁ := [_, _, _])).symm | exact (List.perm_middle (l₁ := [_, _, _, _])).symm | exact (List.perm_middle (l₁ := [_, _, _, _, _])).symm | exact (List.perm_middle (l₁ := [_, _, _, _, _, _])).symm | exact (List.perm_middle (l₁ := [_, _, _, _, _, _, _])).symm | exact (List.perm_middle (l₁ := [_, _, _, _, _, _, _, _])).symm)) | (refine W.app 1 (.t (hs _ _ rfl)) rfl (.arr 1 (.t (hs _ _ rfl)) rfl (by intro e he; obtain ⟨d, _, rfl⟩ := List.mem_map.1 he; rfl)) Tryd.underlying23 ni23 ty28 rfl rfl (by simp only [List.length_append, List.length_map, List.length_take, List.length_drop, List.length_cons, List.length_nil]; omega) rfl ?_; exact fun v => h (0, v) _ (by first | exact .refl _ | exact (List.perm_middle (l₁ := [_])).symm | exact (List.perm_middle (l₁ := [_, _])).symm | exact (List.perm_middle (l₁ := [_, _, _])).symm | exact (List.perm_middle (l₁ := [_, _, _, _])).symm | exact (List.perm_middle (l₁ := [_, _, _, _, _])).symm | exact (List.perm_middle (l₁ := [_, _, _, _, _, _])).symm | exact (List.perm_middle (l₁ := [_, _, _, _, _, _, _])).symm | exact (List.perm_middle (l₁ := [_, _, _, _, _, _, _, _])).symm)) | (refine W.app 2 (.t (hs _ _ rfl)) rfl (.arr 1 (.t (hs _ _ rfl)) rfl (by intro e he; obtain ⟨d, _, rfl⟩ := List.mem_map.1 he; rfl)) Tryd.underlying23 ni23 ty28 rfl rfl (by simp only [List.length_append, List.length_map, List.length_take, List.length_drop, List.length_cons, List.length_nil]; omega) rfl ?_; exact fun v => h (0, v) _ (by first | exact .refl _ | exact (List.perm_middle (l₁ := [_])).symm | exact (List.perm_middle (l₁ := [_, _])).symm | exact (List.perm_middle (l₁ := [_, _, _])).symm | exact (List.perm_middle (l₁ := [_, _, _, _])).symm | exact (List.perm_middle (l₁ := [_, _, _, _, _])).symm | exact (List.perm_middle (l₁ := [_, _, _, _, _, _])).symm | exact (List.perm_middle (l₁ := [_, _, _, _, _, _, _])).symm | exact (List.perm_middle (l₁ := [_, _, _, _, _, _, _, _])).symm)) | (refine W.app 3 (.t (hs _ _ rfl)) rfl (.arr 1 (.t (hs _ _ rfl)) rfl (by intro e he; obtain ⟨d, _, rfl⟩ := List.mem_map.1 he; rfl)) Tryd.underlying23 ni23 ty28 rfl rfl (by simp only [List.length_append, List.length_map, List.length_take, List.length_drop, List.length_cons, List.length_nil]; omega) rfl ?_; exact fun v => h (0, v) _ (by first | exact .refl _ | exact (List.perm_middle (l₁ := [_])).symm | exact (List.perm_middle (l₁ := [_, _])).symm | exact (List.perm_middle (l₁ := [_, _, _])).symm | exact (List.perm_middle (l₁ := [_, _, _, _])).symm | exact (List.perm_middle (l₁ := [_, _, _, _, _])).symm | exact (List.perm_middle (l₁ := [_, _, _, _, _, _])).symm | exact (List.perm_middle (l₁ := [_, _, _, _, _, _, _])).symm | exact (List.perm_middle (l₁ := [_, _, _, _, _, _, _, _])).symm)) | (refine W.app 0 (.t (hs _ _ rfl)) rfl (.arr 2 (.t (hs _ _ rfl)) rfl (by intro e he; obtain ⟨d, _, rfl⟩ := List.mem_map.1 he; rfl)) Tryd.underlying23 ni23 ty28 rfl rfl (by simp only [List.length_append, List.length_map, List.length_take, List.length_drop, List.length_cons, List.length_nil]; omega) rfl ?_; exact fun v => h (0, v) _ (by first | exact .refl _ | exact (List.perm_middle (l₁ := [_])).symm | exact (List.perm_middle (l₁ := [_, _])).symm | exact (List.perm_middle (l₁ := [_, _, _])).symm | exact (List.perm_middle (l₁ := [_, _, _, _])).symm | exact (List.perm_middle (l₁ := [_, _, _, _, _])).symm | exact (List.perm_middle (l₁ := [_, _, _, _, _, _])).symm | exact (List.perm_middle (l₁ := [_, _, _, _, _, _, _])).symm | exact (List.perm_middle (l₁ := [_, _, _, _, _, _, _, _])).symm)) | (refine W.app 1 (.t (hs _ _ rfl)) rfl (.arr 2 (.t (hs _ _ rfl)) rfl (by intro e he; obtain ⟨d, _, rfl⟩ := List.mem_map.1 he; rfl)) Tryd.underlying23 ni23 ty28 rfl rfl (by simp only [List.length_append, List.length_map, List.length_take, List.length_drop, List.length_cons, List.length_nil]; omega) rfl ?_; exact fun v => h (0, v) _ (by first | exact .refl _ | exact (List.perm_middle (l₁ := [_])).symm | exact (List.perm_middle (l₁ := [_, _])).symm | exact (List.perm_middle (l₁ := [_, _, _])).symm | exact (List.perm_middle (l₁ := [_, _, _, _])).symm | exact (List.perm_middle (l₁ := [_, _, _, _, _])).symm | exact (List.perm_middle (l₁ := [_, _, _, _, _, _])).symm | exact (List.perm_middle (l₁ := [_, _, _, _, _, _, _])).symm | exact (List.perm_middle (l₁ := [_, _, _, _, _, _, _, _])).symm)) | (refine W.app 2 (.t (hs _ _ rfl)) rfl (.arr 2 (.t (hs _ _ rfl)) rfl (by intro e he; obtain ⟨d, _, rfl⟩ := List.mem_map.1 he; rfl)) Tryd.underlying23 ni23 ty28 rfl rfl (by simp only [List.length_append, List.length_map, List.length_take, List.length_drop, List.length_cons, List.length_nil]; omega) rfl ?_; exact fun v => h (0, v) _ (by first | exact .refl _ | exact (List.perm_middle (l₁ := [_])).symm | exact (List.perm_middle (l₁ := [_, _])).symm | exact (List.perm_middle (l₁ := [_, _, _])).symm | exact (List.perm_middle (l₁ := [_, _, _, _])).symm | exact (List.perm_middle (l₁ := [_, _, _, _, _])).symm | exact (List.perm_middle (l₁ := [_, _, _, _, _, _])).symm | exact (List.perm_middle (l₁ := [_, _, _, _, _, _, _])).symm | exact (List.perm_middle (l₁ := [_, _, _, _, _, _, _, _])).symm)) | (refine W.app 3 (.t (hs _ _ rfl)) rfl (.arr 2 (.t (hs _ _ rfl)) rfl (by intro e he; obtain ⟨d, _, rfl⟩ := List.mem_map.1 he; rfl)) Tryd.underlying23 ni23 ty28 rfl rfl (by simp only [List.length_append, List.length_map, List.length_take, List.length_drop, List.length_cons, List.length_nil]; omega) rfl ?_; exact fun v => h (0, v) _ (by first | exact .refl _ | exact (List.perm_middle (l₁ := [_])).symm | exact (List.perm_middle (l₁ := [_, _])).symm | exact (List.perm_middle (l₁ := [_, _, _])).symm | exact (List.perm_middle (l₁ := [_, _, _, _])).symm | exact (List.perm_middle (l₁ := [_, _, _, _, _])).symm | exact (List.perm_middle (l₁ := [_, _, _, _, _, _])).symm | exact (List.perm_middle (l₁ := [_, _, _, _, _, _, _])).symm | exact (List.perm_middle (l₁ := [_, _, _, _, _, _, _, _])).symm)) | (refine W.app 0 (.t (hs _ _ rfl)) rfl (.arr 3 (.t (hs _ _ rfl)) rfl (by intro e he; obtain ⟨d, _, rfl⟩ := List.mem_map.1 he; rfl)) Tryd.underlying23 ni23 ty28 rfl rfl (by simp only [List.length_append, List.length_map, List.length_take, List.length_drop, List.length_cons, List.length_nil]; omega) rfl ?_; exact fun v => h (0, v) _ (by first | exact .refl _ | exact (List.perm_middle (l₁ := [_])).symm | exact (List.perm_middle (l₁ := [_, _])).symm | exact (List.perm_middle (l₁ := [_, _, _])).symm | exact (List.perm_middle (l₁ := [_, _, _, _])).symm | exact (List.perm_middle (l₁ := [_, _, _, _, _])).symm | exact (List.perm_middle (l₁ := [_, _, _, _, _, _])).symm | exact (List.perm_middle (l₁ := [_, _, _, _, _, _, _])).symm | exact (List.perm_middle (l₁ := [_, _, _, _, _, _, _, _])).symm)) | (refine W.app 1 (.t (hs _ _ rfl)) rfl (.arr 3 (.t (hs _ _ rfl)) rfl (by intro e he; obtain ⟨d, _, rfl⟩ := List.mem_map.1 he; rfl)) Tryd.underlying23 ni23 ty28 rfl rfl (by simp only [List.length_append, List.length_map, List.length_take, List.length_drop, List.length_cons, List.length_nil]; omega) rfl ?_; exact fun v => h (0, v) _ (by first | exact .refl _ | exact (List.perm_middle (l₁ := [_])).symm | exact (List.perm_middle (l₁ := [_, _])).symm | exact (List.perm_middle (l₁ := [_, _, _])).symm | exact (List.perm_middle (l₁ := [_, _, _, _])).symm | exact (List.perm_middle (l₁ := [_, _, _, _, _])).symm | exact (List.perm_middle (l₁ := [_, _, _, _, _, _])).symm | exact (List.perm_middle (l₁ := [_, _, _, _, _, _, _])).symm | exact (List.perm_middle (l₁ := [_, _, _, _, _, _, _, _])).symm)) | (refine W.app 2 (.t (hs _ _ rfl)) rfl (.arr 3 (.t (hs _ _ rfl)) rfl (by intro e he; obtain ⟨d, _, rfl⟩ := List.mem_map.1 he; rfl)) Tryd.underlying23 ni23 ty28 rfl rfl (by simp only [List.length_append, List.length_map, List.length_take, List.length_drop, List.length_cons, List.length_nil]; omega) rfl ?_; exact fun v => h (0, v) _ (by first | exact .refl _ | exact (List.perm_middle (l₁ := [_])).symm | exact (List.perm_middle (l₁ := [_, _])).symm | exact (List.perm_middle (l₁ := [_, _, _])).symm | exact (List.perm_middle (l₁ := [_, _, _, _])).symm | exact (List.perm_middle (l₁ := [_, _, _, _, _])).symm | exact (List.perm_middle (l₁ := [_, _, _, _, _, _])).symm | exact (List.perm_middle (l₁ := [_, _, _, _, _, _, _])).symm | exact (List.perm_middle (l₁ := [_, _, _, _, _, _, _, _])).symm)) | (refine W.app 3 (.t (hs _ _ rfl)) rfl (.arr 3 (.t (hs _ _ rfl)) rfl (by intro e he; obtain ⟨d, _, rfl⟩ := List.mem_map.1 he; rfl)) Tryd.underlying23 ni23 ty28 rfl rfl (by simp only [List.length_append, List.length_map, List.length_take, List.length_drop, List.length_cons, List.length_nil]; omega) rfl ?_; exact fun v => h (0, v) _ (by first | exact .refl _ | exact (List.perm_middle (l₁ := [_])).symm | exact (List.perm_middle (l₁ := [_, _])).symm | exact (List.perm_middle (l₁ := [_, _, _])).symm | exact (List.perm_middle (l₁ := [_, _, _, _])).symm | exact (List.perm_middle (l₁ := [_, _, _, _, _])).symm | exact (List.perm_middle (l₁ := [_, _, _, _, _, _])).symm | exact (List.perm_middle (l₁ := [_, _, _, _, _, _, _])).symm | exact (List.perm_middle (l₁ := [_, _, _, _, _, _, _, _])).symm))
    refine DM.eff1 (av := fun c => .tup [.lit (c 11).2, .int 0]) rfl (fun c c_ h => by first | rfl | simp only [h 3 (by first | exact .inl rfl | exact .inr (by kernel_rfl)), h 6 (by first | exact .inl rfl | exact .inr (by kernel_rfl)), h 10 (by first | exact .inl rfl | exact .inr (by kernel_rfl)), h 11 (by first | exact .inl rfl | exact .inr (by kernel_rfl))]) (fun e c hk L_ hs Q h => ?_) ?_
    · have hk_11 := hk.not
      have hk_3 := hk.up 3 (by kernel_rfl)
      have hk_6 := hk.up 6 (by kernel_rfl)
      have hk_10 := hk.up 10 (by kernel_rfl)
      simp only [addE, upd, eq_self, List.nil_append, List.cons_append, List.append_nil, hk_11, hk_3, hk_6, hk_10, Nat.reduceAdd, Nat.reduceEqDiff, ↓reduceIte, cond_true, cond_false] at h ⊢
      refine W.call (hBz.give (c 10).2 28) ⟨(.t (hs _ _ rfl)), trivial⟩ (((List.perm_middle (l₁ := [_])).trans <| List.Perm.cons _ <| (List.perm_middle (l₁ := [_])).trans <| List.Perm.cons _ <| (List.perm_middle (l₁ := [_])).trans <| List.Perm.cons _ <| List.Perm.cons _ <| .refl _)) rfl ?_
      rintro _ _ ⟨v44, rfl, rfl, -⟩
      exact h (0, v44) _ ((List.perm_middle (l₁ := [_, _, _])).trans <| List.Perm.cons _ <| List.Perm.cons _ <| List.Perm.cons _ <| List.Perm.cons _ <| .refl _)
    refine DM.q (fun e c hk => (Ev.move (.t rfl))) rfl (fun _ _ => rfl) (fun c c_ h => by first | rfl | simp only [h 3 (by first | exact .inl rfl | exact .inr (by kernel_rfl)), h 6 (by first | exact .inl rfl | exact .inr (by kernel_rfl)), h 10 (by first | exact .inl rfl | exact .inr (by kernel_rfl)), h 11 (by first | exact .inl rfl | exact .inr (by kernel_rfl))]) ?_
    refine DM.q (fun e c hk => (Ev.extract (.t rfl) rfl)) rfl (fun _ _ => rfl) (fun c c_ h => by first | rfl | simp only [h 3 (by first | exact .inl rfl | exact .inr (by kernel_rfl)), h 6 (by first | exact .inl rfl | exact .inr (by kernel_rfl)), h 10 (by first | exact .inl rfl | exact .inr (by kernel_rfl)), h 11 (by first | exact .inl rfl | exact .inr (by kernel_rfl))]) ?_
    refine DM.q (fun e c hk => (Ev.extract (.t rfl) rfl)) rfl (fun _ _ => rfl) (fun c c_ h => by first | rfl | simp only [h 3 (by first | exact .inl rfl | exact .inr (by kernel_rfl)), h 6 (by first | exact .inl rfl | exact .inr (by kernel_rfl)), h 10 (by first | exact .inl rfl | exact .inr (by kernel_rfl)), h 11 (by first | exact .inl rfl | exact .inr (by kernel_rfl))]) ?_
    refine DM.q (fun e c hk => (Ev.assign (.t rfl))) rfl (fun _ _ => rfl) (fun c c_ h => by first | rfl | simp only [h 3 (by first | exact .inl rfl | exact .inr (by kernel_rfl)), h 6 (by first | exact .inl rfl | exact .inr (by kernel_rfl)), h 10 (by first | exact .inl rfl | exact .inr (by kernel_rfl)), h 11 (by first | exact .inl rfl | exact .inr (by kernel_rfl))]) ?_
    refine DM.q (fun e c hk => (Ev.assign (.t rfl))) rfl (fun _ _ => rfl) (fun c c_ h => by first | rfl | simp only [h 3 (by first | exact .inl rfl | exact .inr (by kernel_rfl)), h 6 (by first | exact .inl rfl | exact .inr (by kernel_rfl)), h 10 (by first | exact .inl rfl | exact .inr (by kernel_rfl)), h 11 (by first | exact .inl rfl | exact .inr (by kernel_rfl))]) ?_
    refine DM.nil (fun cc e_ he_ => ?_)
    simp only [he_ 3 (by decide), he_ 6 (by decide), he_ 10 (by decide), he_ 11 (by decide), cond_true, cond_false]
    generalize (cc 11).2 = v44
    rw [hYX]
    refine W.freezeA (M1 := [.box b9 28 (tav nz).cells, .shr 0 54 (Opn.blocks.map AV.str), .shr 1 57 (Opn.voids.map AV.str)]) (M2 := [.box b9 28 (tav nz).cells, .shr 0 54 (Opn.blocks.map AV.str), .shr 1 57 (Opn.voids.map AV.str)]) (D := []) (v := v44) (L' := [(12, true, .sl 4 ((Opn.Bd.nds (List.foldl Opn.Bd.step Opn.Bd.root ts).obs 22 0).map Nd.av))]) (by rw [List.append_nil] <;> exact ((List.perm_middle (l₁ := [_])).trans <| List.Perm.cons _ <| List.Perm.cons _ <| List.Perm.cons _ <| List.Perm.cons _ <| .refl _)) ⟨⟨_, rfl, .one .hit⟩, trivial⟩ (FrzMs.refl _) ?_
    refine W.then ?_
    refine W.seq ?_
    refine W.region ?_
    refine W.q (Ev.build ty28 st28 rfl (fun hg => ⟨_, _, _, rfl, .k, rfl, rfl, rfl, _, _, _, rfl, .k, rfl, rfl, rfl, rfl⟩)) rfl ?_
    refine W.nils (t := 48) (g := true) (cs' := [.int 1, .str [98], .sl 2 [], .bool false, .str []]) rfl ⟨.inl rfl, .inl rfl, .inr ⟨rfl, 2, rfl⟩, .inl rfl, .inl rfl, trivial⟩ ?_
    refine W.bs (es := [_]) Tryd.underlying23 ty28 ⟨rfl, (.t rfl), rfl, rfl, trivial⟩ rfl (by decide) rfl rfl ?_
    refine W.call (WOBuild.c_Build [⟨1, [98], [], false, []⟩] (by decide) (by intro t ht; rw [List.mem_singleton.1 ht]; exact ⟨by decide, fun _ => by decide, fun h => absurd h (by decide)⟩)) ⟨(.t rfl), trivial⟩ ((List.perm_append_comm (l₁ := [_]))) rfl ?_
    rintro _ _ ⟨v50, rfl, rfl, -⟩
    refine W.q (Ev.move (.t rfl)) rfl ?_
    refine W.q (Ev.extract (.t rfl) rfl) rfl ?_
    refine W.q (Ev.extract (.t rfl) rfl) rfl ?_
    refine W.q (Ev.assign (.t rfl)) rfl ?_
    refine W.q (Ev.assign (.t rfl)) rfl ?_
    refine W.nil ?_
    refine W.freezeA (M1 := [.shr 0 54 (Opn.blocks.map AV.str), .shr 1 57 (Opn.voids.map AV.str), .box b9 28 (tav nz).cells]) (M2 := [.shr 0 54 (Opn.blocks.map AV.str), .shr 1 57 (Opn.voids.map AV.str), .box b9 28 (tav nz).cells]) (D := []) (v := v50) (L' := [(14, true, .sl 4 ((Opn.Bd.nds (List.foldl Opn.Bd.step Opn.Bd.root [⟨1, [98], [], false, []⟩]).obs 22 0).map Nd.av))]) (by rw [List.append_nil] <;> exact .refl _) ⟨⟨_, rfl, .one .hit⟩, trivial⟩ (FrzMs.refl _) ?_
    refine W.then ?_
    refine W.seq ?_
    refine W.region ?_
    refine W.q (Ev.move (.t rfl)) rfl ?_
    refine W.q (Ev.eqi (.t rfl) .k) rfl ?_
    refine W.q (Ev.move (.t rfl)) rfl ?_
    refine W.is (t := 55) (g := true) (av' := .bool true) rfl rfl ?_
    refine W.gyes rfl rfl ?_
    refine W.q (Ev.move (.t rfl)) rfl ?_
    refine W.gyes rfl rfl ?_
    refine W.q (Ev.eqi (.t rfl) .k) rfl ?_
    refine W.q (Ev.and (.t rfl) ⟨_, _, rfl, rfl, by first | (simp; done) | (intro hg_ hp_; simp [hp_]; done) | (simp <;> omega; done) | (simp_all; done) | grind⟩) rfl ?_
    refine W.q (Ev.move (.t rfl)) rfl ?_
    refine W.is (t := 59) (g := true) (av' := .bool true) rfl rfl ?_
    refine W.gyes rfl rfl ?_
    refine W.q (Ev.move (.t rfl)) rfl ?_
    refine W.gyes rfl rfl ?_
    refine W.q (Ev.eqi (.t rfl) .k) rfl ?_
    refine W.q (Ev.and (.t rfl) ⟨_, _, rfl, rfl, by first | (simp; done) | (intro hg_ hp_; simp [hp_]; done) | (simp <;> omega; done) | (simp_all; done) | grind⟩) rfl ?_
    refine W.q (Ev.move (.t rfl)) rfl ?_
    refine W.is (t := 63) (g := true) (av' := .bool true) rfl rfl ?_
    refine W.gyes rfl rfl ?_
    refine W.q (Ev.move (.t rfl)) rfl ?_
    refine W.gyes rfl rfl ?_
    first | refine W.q (Ev.lensl (.t rfl) Tryd.underlying29) rfl ?_ | refine W.q (Ev.lenar (i := 0) (.t rfl) rfl Tryd.underlying29) rfl ?_ | refine W.q (Ev.lenar (i := 1) (.t rfl) rfl Tryd.underlying29) rfl ?_ | refine W.q (Ev.lenar (i := 2) (.t rfl) rfl Tryd.underlying29) rfl ?_ | refine W.q (Ev.lenar (i := 3) (.t rfl) rfl Tryd.underlying29) rfl ?_
    refine W.gyes rfl rfl ?_
    refine W.q (Ev.eqi (.t rfl) .k) rfl ?_
    refine W.q (Ev.and (.t rfl) ⟨_, _, rfl, rfl, by first | (simp; done) | (intro hg_ hp_; simp [hp_]; done) | (simp <;> omega; done) | (simp_all; done) | grind⟩) rfl ?_
    refine W.q (Ev.move (.t rfl)) rfl ?_
    refine W.is (t := 68) (g := true) (av' := .bool true) rfl (congrArg AV.bool (by decide)) ?_
    refine W.gyes rfl rfl ?_
    refine W.q (Ev.move (.t rfl)) rfl ?_
    refine W.gyes rfl rfl ?_
    refine W.q (Ev.move (.t rfl)) rfl ?_
    refine W.gyes rfl rfl ?_
    refine W.callp (WSame.c_same (Opn.Bd.nds (List.foldl Opn.Bd.step Opn.Bd.root ts).obs 22 0) hsz) ⟨(.t rfl), (.t rfl), trivial⟩ rfl ?_
    refine W.q (Ev.and (.t rfl) ⟨_, _, rfl, rfl, by first | (simp; done) | (intro hg_ hp_; simp [hp_]; done) | (simp <;> omega; done) | (simp_all; done) | grind⟩) rfl ?_
    refine W.q (Ev.assign (.t rfl)) rfl ?_
    refine W.nil ?_
    refine W.then ?_
    refine W.ret ?_
    refine W.retn (M' := [_, _]) (D := [_]) (rs := [.tmp 6]) (avs := [_]) Tryd.results3 ⟨rfl, trivial⟩ rfl (.refl _) ?_
    exact ⟨rfl, rfl⟩

end WNoise

end Go.Proofs.YtbdfeolffigdoaaDoor
end

section
set_option linter.unusedVariables false
set_option linter.unusedSimpArgs false
namespace Go.Vl
open Go.RowKit (Below)
abbrev strVs (ss : List (List UInt8)) : List Value := ss.map fun s => Value.string ⟨s.toArray⟩
def strData {H : Type} (ss : List (List UInt8)) : DataW H := .agg (ss.map fun s => .lit (.string s))
theorem repL_strs {w : World} {N : List Nat} : ∀ {ss : List (List UInt8)} {row : List Value}, row = strVs ss → RepL w N (ss.map AV.str) row
  | [], row, h => by subst h; simp [RepL, strVs]
  | s :: ss, row, h => by
    subst h
    simp only [List.map_cons, RepL, strVs]
    exact ⟨_, _, rfl, ⟨rfl, rfl, by simp only [AV.str, RepC]; rfl⟩, repL_strs rfl⟩
theorem cells_of_strs {H : Type} {enc : TypeId × Value → H} {P : Program} {w : World} {base : Nat} {sp : Nat → Bool} {held : Bool} {fuel : Nat} {t e : TypeId} {n : Nat} {cs : List Value} {ss : List (List UInt8)} {p : List MemPlace}
    (ht : P.underlying t = some (.array n e)) (he : P.underlying e = some .string) (hce : P.cellsOf e = 1) (hct : P.cellsOf t = n)
    (h : DataW.trod enc P w base sp held fuel t cs = some (strData ss, p)) : cs = strVs ss := by
  cases fuel with
  | zero => simp [DataW.trod] at h
  | succ fuel =>
    simp only [DataW.trod, ht, hce, hct, Nat.mul_one] at h
    split at h
    · rename_i hl
      obtain ⟨xs, hm, hx⟩ := Option.map_eq_some_iff.1 h
      have hxs : xs.map (·.1) = ss.map fun s => (DataW.lit (.string s) : DataW H) := by
        have := congrArg Prod.fst hx
        simpa [strData] using this
      have hxl : xs.length = n := by simpa using Lib.mapM_length hm
      have hzl : ss.length = n := by
        have := congrArg List.length hxs
        simp at this
        omega
      apply List.ext_getElem?
      intro i
      by_cases hi : i < n
      · obtain ⟨b, hb, hf⟩ := Lib.mapM_at hm i i (by simp [hi])
        obtain ⟨s, hc, rfl, _⟩ := DataW.trod_string he hf
        have h1 : cs[i]? = some (.string s) := by
          have := congrArg (·[0]?) hc
          simpa [List.getElem?_take, List.getElem?_drop] using this
        have h2 : (xs.map (·.1))[i]? = some (DataW.lit (.string s.data.toList) : DataW H) := by simp [hb]
        rw [hxs] at h2
        simp only [List.getElem?_map, Option.map_eq_some_iff, DataW.lit.injEq, Lit.string.injEq] at h2
        obtain ⟨z, hz, hzs⟩ := h2
        rw [h1, strVs, List.getElem?_map, hz, hzs]
        show some (Value.string s) = some (Value.string ⟨s.data.toList.toArray⟩)
        rw [Array.toArray_toList]
      · rw [List.getElem?_eq_none (by omega), List.getElem?_eq_none (by simp; omega)]
    · cases h
theorem laid_tl2 {P : Program} {x : String × DataW Unit} {r : List (String × DataW Unit)} {w : World} (h : laidMet P (x :: r) w) : laidMet P r w := by
  obtain ⟨ps, hv, hnd, hrows⟩ := h
  obtain ⟨n, d⟩ := x
  obtain ⟨g, t, cs, fuel, p, q, _, _, _, _, hq, rfl⟩ := hv
  exact ⟨q, hq, List.Nodup.sublist (List.sublist_append_right _ _) hnd, fun b off hm => hrows b off (List.mem_append_right _ hm)⟩
theorem str_block {P : Program} {W : World} {name : String} {ss : List (List UInt8)} {rest : List (String × DataW Unit)} {g : Nat} {t e : TypeId} {n : Nat} {zero : Array Value} {T : TypeId} (hsh : W.ShapedOpen P) (hgs : g < P.globals.size)
    (hzz : (((begin P (fun _ _ => 0) default).world.heap[g]?).bind Obj.row?) = some (zero, T))
    (hg : P.globalNamed name = some g) (hty : (P.globals[g]?).map (·.type) = some t) (ht : P.underlying t = some (.array n e)) (he : P.underlying e = some .string) (hce : P.cellsOf e = 1) (hct : P.cellsOf t = n)
    (h : laidMet P ((name, strData ss) :: rest) W) : W.heap[g]? = some (.cells (strVs ss).toArray T (0, 0)) := by
  obtain ⟨cs, hc, hsz, _⟩ := hsh.1 g zero T hgs hzz
  obtain ⟨ps, ⟨g', t', cs', fuel, p, q, hg', ht', hvar, hd, _, hps⟩, hnd, hrows⟩ := h
  obtain rfl := Option.some.inj (hg.symm.trans hg')
  obtain rfl := Option.some.inj (hty.symm.trans ht')
  have e1 := cells_of_strs ht he hce hct hd
  unfold World.var? at hvar
  rw [hg, Option.bind_some, hc] at hvar
  have e2 : cs = cs' := Option.some.inj hvar
  rw [hc, e2, ← e1]
theorem law_calls2 {P : Program} {f : FuncId} {avs : List AV} {W : World} {vs : List Value} {g1 g2 : Nat} {T1 T2 : TypeId} {ss1 ss2 : List (List UInt8)} (hg1 : W.heap[g1]? = some (.cells (strVs ss1).toArray T1 (0, 0))) (hg2 : W.heap[g2]? = some (.cells (strVs ss2).toArray T2 (0, 0)))
    (h : FnC P f avs [.shr g1 T1 (ss1.map AV.str), .shr g2 T2 (ss2.map AV.str)] (fun r M => r = .bool true ∧ M = [.shr g1 T1 (ss1.map AV.str), .shr g2 T2 (ss2.map AV.str)])) (ha : RepT W [] avs vs) :
    Calls P f vs.toArray W fun e W' => e = .returned (.bool true) ∧ Below W.heap.size W W' := by
  have hm : MOk W [.shr g1 T1 (ss1.map AV.str), .shr g2 T2 (ss2.map AV.str)] [] := ⟨by simp [bl, ME.blks], by simp, fun x hx => by
    rcases List.mem_cons.1 hx with rfl | hx
    · exact ⟨by simp [bl, ME.blks], _, hg1, repL_strs (by simp)⟩
    · rw [List.mem_singleton.1 hx]
      exact ⟨by simp [bl, ME.blks], _, hg2, repL_strs (by simp)⟩⟩
  refine (h.2 W [] vs (by simp) hm (by simpa [bl, ME.blks] using ha)).mono ?_
  rintro e W' ⟨v, r, M', rfl, ⟨rfl, rfl⟩, hm', hr, hf⟩
  have hv := Rep.lit_iff.1 hr
  subst hv
  exact ⟨rfl, hf.os, hf.tape, hf.output, hf.size, fun j hj => (hf.block j hj (by simp [bl, ME.blks])).1⟩
end Go.Vl
end
