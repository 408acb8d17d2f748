/-
  A tree is the same as itself.
-/
import Derived.Test.YtpjngpegkoohgaaTree
import Derived.Test.YtpjngpegkoohgaaBase
set_option linter.unusedVariables false
set_option linter.unusedSimpArgs false
set_option maxRecDepth 100000
namespace Go.Proofs.Ytpjngpegkoohgaa
open Go.Vl

namespace WSame
theorem ty9 : Ty Try.prog 9 1 16 (.string ⟨#[]⟩) := Ty.of (by kernel_rfl)
theorem ty24 : Ty Try.prog 24 1 24 (.slice none 0 0) := Ty.of (by kernel_rfl)
theorem ty40 : Ty Try.prog 40 1 24 (.slice none 0 0) := Ty.of (by kernel_rfl)
theorem ty42 : Ty Try.prog 42 4 80 (.agg #[.string ⟨#[]⟩, .slice none 0 0, .string ⟨#[]⟩, .slice none 0 0]) := Ty.of (by kernel_rfl)
theorem ty45 : Ty Try.prog 45 2 32 (.agg #[.string ⟨#[]⟩, .string ⟨#[]⟩]) := Ty.of (by kernel_rfl)
theorem ag9 : IsAgg Try.prog 9 false := ⟨_, Try.underlying9, rfl⟩
theorem ag24 : IsAgg Try.prog 24 false := ⟨_, Try.underlying24, rfl⟩
theorem ag40 : IsAgg Try.prog 40 false := ⟨_, Try.underlying40, rfl⟩
theorem ag45 : IsAgg Try.prog 45 true := ⟨_, Try.underlying45, rfl⟩
theorem fa42_0 : FieldAt Try.prog 42 0 0 1 false := ⟨_, _, Try.underlying42, rfl, rfl, ty9.size, ag9, by decide⟩
theorem fa42_1 : FieldAt Try.prog 42 1 1 1 false := ⟨_, _, Try.underlying42, rfl, rfl, ty40.size, ag40, by decide⟩
theorem fa42_2 : FieldAt Try.prog 42 2 2 1 false := ⟨_, _, Try.underlying42, rfl, rfl, ty9.size, ag9, by decide⟩
theorem fa42_3 : FieldAt Try.prog 42 3 3 1 false := ⟨_, _, Try.underlying42, rfl, rfl, ty24.size, ag24, by decide⟩
theorem s2_45 : Str2 Try.prog 45 := Str2.of Try.underlying45 (by kernel_rfl) (by kernel_rfl) (by decide) (by decide) rfl rfl Try.underlying9 Try.underlying9
theorem c_same_step (n : Nat) (hn : n ≤ 16777216) (ih : ∀ l, Nd.szs l < n → FnP Try.prog 10 [.sl 4 (l.map Nd.av), .sl 4 (l.map Nd.av)] (.bool true)) (l : List Nd) (hl : Nd.szs l = n) : FnP Try.prog 10 [.sl 4 (l.map Nd.av), .sl 4 (l.map Nd.av)] (.bool true) :=  by
  refine FnC.mk Try.func10 (by kernel_rfl) rfl Try.ntmps10 rfl (fun w0 F => ?_)
  have hll : (l.map Nd.av).length = l.length := List.length_map ..
  have hsl := Nd.szs_len l
  refine W.seq ?_
  refine W.region ?_
  refine W.q (Ev.assign .k) rfl ?_
  refine W.nil ?_
  refine W.then ?_
  refine W.seq ?_
  refine W.seq ?_
  refine W.region ?_
  refine W.q (Ev.move (.t rfl)) rfl ?_
  first | refine W.q (Ev.lensl (.t rfl) Try.underlying24) rfl ?_ | refine W.q (Ev.lenar (i := 0) (.t rfl) rfl Try.underlying24) rfl ?_ | refine W.q (Ev.lenar (i := 1) (.t rfl) rfl Try.underlying24) rfl ?_ | refine W.q (Ev.lenar (i := 2) (.t rfl) rfl Try.underlying24) rfl ?_ | refine W.q (Ev.lenar (i := 3) (.t rfl) rfl Try.underlying24) rfl ?_
  refine W.q (Ev.move (.t rfl)) rfl ?_
  first | refine W.q (Ev.lensl (.t rfl) Try.underlying24) rfl ?_ | refine W.q (Ev.lenar (i := 0) (.t rfl) rfl Try.underlying24) rfl ?_ | refine W.q (Ev.lenar (i := 1) (.t rfl) rfl Try.underlying24) rfl ?_ | refine W.q (Ev.lenar (i := 2) (.t rfl) rfl Try.underlying24) rfl ?_ | refine W.q (Ev.lenar (i := 3) (.t rfl) rfl Try.underlying24) rfl ?_
  refine W.q (Ev.nei (.t rfl) (.t rfl)) rfl ?_
  refine W.nil ?_
  refine W.then ?_
  refine W.is (t := 11) (g := true) (av' := .lit (.bool false)) rfl (congrArg (fun b => AV.lit (.bool b)) (by simp)) ?_
  refine W.condF (.t rfl) ?_
  refine W.skip ?_
  refine W.then ?_
  refine W.seq ?_
  refine W.seq ?_
  refine W.region ?_
  refine W.q (Ev.assign .k) rfl ?_
  refine W.nil ?_
  refine W.then ?_
  refine W.block ?_
  refine W.loop (D := []) (ι := Nat) (fun i => [(5, true, .int (i : Int)), (0, true, .sl 4 (l.map Nd.av)), (1, true, .sl 4 (l.map Nd.av))]) (fun _ => []) (fun i => i ≤ l.length) (fun i => l.length - i) 0 ⟨rfl, rfl, rfl, trivial⟩ (.refl _) (Nat.zero_le _) ?_
  intro i hi
  dsimp only at hi ⊢
  rcases (show i < l.length ∨ i = l.length from by omega) with hlt | hend
  · have hga := Nd.at_av l i hlt
    have hsz := Nd.at_sz l i hlt
    generalize hd : l.getD i Nd.dflt = d at hga hsz
    have hse := Nd.sz_eq d
    have hsp := Nd.szs_len d.parts
    have hat : (d.attrs.map dav).length = d.attrs.length := List.length_map ..
    refine W.seq ?_
    refine W.seq ?_
    refine W.region ?_
    refine W.q (Ev.move (.t rfl)) rfl ?_
    refine W.q (Ev.move (.t rfl)) rfl ?_
    first | refine W.q (Ev.lensl (.t rfl) Try.underlying24) rfl ?_ | refine W.q (Ev.lenar (i := 0) (.t rfl) rfl Try.underlying24) rfl ?_ | refine W.q (Ev.lenar (i := 1) (.t rfl) rfl Try.underlying24) rfl ?_ | refine W.q (Ev.lenar (i := 2) (.t rfl) rfl Try.underlying24) rfl ?_ | refine W.q (Ev.lenar (i := 3) (.t rfl) rfl Try.underlying24) rfl ?_
    refine W.q (Ev.lti (.t rfl) (.t rfl)) rfl ?_
    refine W.nil ?_
    refine W.then ?_
    refine W.is (t := 15) (g := true) (av' := .lit (.bool true)) rfl (congrArg (fun b => AV.lit (.bool b)) (by simp; omega)) ?_
    refine W.condT (.t rfl) ?_
    refine W.skip ?_
    refine W.then ?_
    refine W.seq ?_
    refine W.block ?_
    refine W.seq ?_
    refine W.seq ?_
    refine W.drawnE (ι := Unit) (fun _ _ => _) 53 () (by kernel_rfl) (by kernel_rfl) rfl ?_
    refine DE.q (fun e c hk => (Ev.move (.t rfl))) rfl (fun _ _ => rfl) (by first | exact .inr (fun _ _ => rfl) | exact .inl (by kernel_rfl)) ?_
    refine DE.q (fun e c hk => (Ev.move (.t rfl))) rfl (fun _ _ => rfl) (by first | exact .inr (fun _ _ => rfl) | exact .inl (by kernel_rfl)) ?_
    refine DE.q (fun e c hk => Ev.at (E := 42) (.t rfl) (.t rfl) Try.underlying24 ty42 (fun _ => ⟨by omega, hga⟩) rfl rfl) rfl (fun _ _ => rfl) (by first | exact .inr (fun _ _ => rfl) | exact .inl (by kernel_rfl)) ?_
    first | refine DE.q (fun e c hk => (Ev.fae (.t rfl) fa42_0 rfl)) rfl (fun _ _ => rfl) (by first | exact .inr (fun _ _ => rfl) | exact .inl (by kernel_rfl)) ?_ | refine DE.q (fun e c hk => (Ev.fab (.t rfl) fa42_0)) rfl (fun _ _ => rfl) (by first | exact .inr (fun _ _ => rfl) | exact .inl (by kernel_rfl)) ?_ | refine DE.q (fun e c hk => (Ev.faa (.t rfl) fa42_0)) rfl (fun _ _ => rfl) (by first | exact .inr (fun _ _ => rfl) | exact .inl (by kernel_rfl)) ?_
    first | refine DE.q (fun e c hk => (Ev.lde1 (.t rfl) ag9)) rfl (fun _ _ => rfl) (by first | exact .inr (fun _ _ => rfl) | exact .inl (by kernel_rfl)) ?_ | refine DE.q (fun e c hk => (Ev.ldb1 0 (.t rfl) rfl ag9 rfl)) rfl (fun _ _ => rfl) (by first | exact .inr (fun _ _ => rfl) | exact .inl (by kernel_rfl)) ?_ | refine DE.q (fun e c hk => (Ev.ldb1 1 (.t rfl) rfl ag9 rfl)) rfl (fun _ _ => rfl) (by first | exact .inr (fun _ _ => rfl) | exact .inl (by kernel_rfl)) ?_ | refine DE.q (fun e c hk => (Ev.ldb1 2 (.t rfl) rfl ag9 rfl)) rfl (fun _ _ => rfl) (by first | exact .inr (fun _ _ => rfl) | exact .inl (by kernel_rfl)) ?_ | refine DE.q (fun e c hk => (Ev.ldb1 3 (.t rfl) rfl ag9 rfl)) rfl (fun _ _ => rfl) (by first | exact .inr (fun _ _ => rfl) | exact .inl (by kernel_rfl)) ?_
    refine DE.q (fun e c hk => (Ev.move (.t rfl))) rfl (fun _ _ => rfl) (by first | exact .inr (fun _ _ => rfl) | exact .inl (by kernel_rfl)) ?_
    refine DE.q (fun e c hk => (Ev.move (.t rfl))) rfl (fun _ _ => rfl) (by first | exact .inr (fun _ _ => rfl) | exact .inl (by kernel_rfl)) ?_
    refine DE.q (fun e c hk => Ev.at (E := 42) (.t rfl) (.t rfl) Try.underlying24 ty42 (fun _ => ⟨by omega, hga⟩) rfl rfl) rfl (fun _ _ => rfl) (by first | exact .inr (fun _ _ => rfl) | exact .inl (by kernel_rfl)) ?_
    first | refine DE.q (fun e c hk => (Ev.fae (.t rfl) fa42_0 rfl)) rfl (fun _ _ => rfl) (by first | exact .inr (fun _ _ => rfl) | exact .inl (by kernel_rfl)) ?_ | refine DE.q (fun e c hk => (Ev.fab (.t rfl) fa42_0)) rfl (fun _ _ => rfl) (by first | exact .inr (fun _ _ => rfl) | exact .inl (by kernel_rfl)) ?_ | refine DE.q (fun e c hk => (Ev.faa (.t rfl) fa42_0)) rfl (fun _ _ => rfl) (by first | exact .inr (fun _ _ => rfl) | exact .inl (by kernel_rfl)) ?_
    first | refine DE.q (fun e c hk => (Ev.lde1 (.t rfl) ag9)) rfl (fun _ _ => rfl) (by first | exact .inr (fun _ _ => rfl) | exact .inl (by kernel_rfl)) ?_ | refine DE.q (fun e c hk => (Ev.ldb1 0 (.t rfl) rfl ag9 rfl)) rfl (fun _ _ => rfl) (by first | exact .inr (fun _ _ => rfl) | exact .inl (by kernel_rfl)) ?_ | refine DE.q (fun e c hk => (Ev.ldb1 1 (.t rfl) rfl ag9 rfl)) rfl (fun _ _ => rfl) (by first | exact .inr (fun _ _ => rfl) | exact .inl (by kernel_rfl)) ?_ | refine DE.q (fun e c hk => (Ev.ldb1 2 (.t rfl) rfl ag9 rfl)) rfl (fun _ _ => rfl) (by first | exact .inr (fun _ _ => rfl) | exact .inl (by kernel_rfl)) ?_ | refine DE.q (fun e c hk => (Ev.ldb1 3 (.t rfl) rfl ag9 rfl)) rfl (fun _ _ => rfl) (by first | exact .inr (fun _ _ => rfl) | exact .inl (by kernel_rfl)) ?_
    refine DE.q (fun e c hk => (Ev.nes (.t rfl) (.t rfl))) rfl (fun _ _ => rfl) (by first | exact .inr (fun _ _ => rfl) | exact .inl (by kernel_rfl)) ?_
    refine DE.q (fun e c hk => (Ev.move (.t rfl))) rfl (fun _ _ => rfl) (by first | exact .inr (fun _ _ => rfl) | exact .inl (by kernel_rfl)) ?_
    refine DE.qg rfl (fun _ => rfl) (fun e c hk => (Ev.move (.t rfl))) rfl (fun _ _ => rfl) (by first | exact .inr (fun _ _ => rfl) | exact .inl (by kernel_rfl)) ?_
    refine DE.qg rfl (fun _ => rfl) (fun e c hk => (Ev.move (.t rfl))) rfl (fun _ _ => rfl) (by first | exact .inr (fun _ _ => rfl) | exact .inl (by kernel_rfl)) ?_
    refine DE.qg rfl (fun _ => rfl) (fun e c hk => Ev.at (E := 42) (.c rfl) (.c rfl) Try.underlying24 ty42 (fun _ => ⟨by omega, hga⟩) rfl rfl) rfl (fun _ _ => rfl) (by first | exact .inr (fun _ _ => rfl) | exact .inl (by kernel_rfl)) ?_
    first | refine DE.qg rfl (fun _ => rfl) (fun e c hk => (Ev.fae (.c rfl) fa42_2 rfl)) rfl (fun _ _ => rfl) (by first | exact .inr (fun _ _ => rfl) | exact .inl (by kernel_rfl)) ?_ | refine DE.qg rfl (fun _ => rfl) (fun e c hk => (Ev.fab (.c rfl) fa42_2)) rfl (fun _ _ => rfl) (by first | exact .inr (fun _ _ => rfl) | exact .inl (by kernel_rfl)) ?_ | refine DE.qg rfl (fun _ => rfl) (fun e c hk => (Ev.faa (.c rfl) fa42_2)) rfl (fun _ _ => rfl) (by first | exact .inr (fun _ _ => rfl) | exact .inl (by kernel_rfl)) ?_
    first | refine DE.qg rfl (fun _ => rfl) (fun e c hk => (Ev.lde1 (.c rfl) ag9)) rfl (fun _ _ => rfl) (by first | exact .inr (fun _ _ => rfl) | exact .inl (by kernel_rfl)) ?_ | refine DE.qg rfl (fun _ => rfl) (fun e c hk => (Ev.ldb1 0 (.c rfl) rfl ag9 rfl)) rfl (fun _ _ => rfl) (by first | exact .inr (fun _ _ => rfl) | exact .inl (by kernel_rfl)) ?_ | refine DE.qg rfl (fun _ => rfl) (fun e c hk => (Ev.ldb1 1 (.c rfl) rfl ag9 rfl)) rfl (fun _ _ => rfl) (by first | exact .inr (fun _ _ => rfl) | exact .inl (by kernel_rfl)) ?_ | refine DE.qg rfl (fun _ => rfl) (fun e c hk => (Ev.ldb1 2 (.c rfl) rfl ag9 rfl)) rfl (fun _ _ => rfl) (by first | exact .inr (fun _ _ => rfl) | exact .inl (by kernel_rfl)) ?_ | refine DE.qg rfl (fun _ => rfl) (fun e c hk => (Ev.ldb1 3 (.c rfl) rfl ag9 rfl)) rfl (fun _ _ => rfl) (by first | exact .inr (fun _ _ => rfl) | exact .inl (by kernel_rfl)) ?_
    refine DE.qg rfl (fun _ => rfl) (fun e c hk => (Ev.move (.t rfl))) rfl (fun _ _ => rfl) (by first | exact .inr (fun _ _ => rfl) | exact .inl (by kernel_rfl)) ?_
    refine DE.qg rfl (fun _ => rfl) (fun e c hk => (Ev.move (.t rfl))) rfl (fun _ _ => rfl) (by first | exact .inr (fun _ _ => rfl) | exact .inl (by kernel_rfl)) ?_
    refine DE.qg rfl (fun _ => rfl) (fun e c hk => Ev.at (E := 42) (.c rfl) (.c rfl) Try.underlying24 ty42 (fun _ => ⟨by omega, hga⟩) rfl rfl) rfl (fun _ _ => rfl) (by first | exact .inr (fun _ _ => rfl) | exact .inl (by kernel_rfl)) ?_
    first | refine DE.qg rfl (fun _ => rfl) (fun e c hk => (Ev.fae (.c rfl) fa42_2 rfl)) rfl (fun _ _ => rfl) (by first | exact .inr (fun _ _ => rfl) | exact .inl (by kernel_rfl)) ?_ | refine DE.qg rfl (fun _ => rfl) (fun e c hk => (Ev.fab (.c rfl) fa42_2)) rfl (fun _ _ => rfl) (by first | exact .inr (fun _ _ => rfl) | exact .inl (by kernel_rfl)) ?_ | refine DE.qg rfl (fun _ => rfl) (fun e c hk => (Ev.faa (.c rfl) fa42_2)) rfl (fun _ _ => rfl) (by first | exact .inr (fun _ _ => rfl) | exact .inl (by kernel_rfl)) ?_
    first | refine DE.qg rfl (fun _ => rfl) (fun e c hk => (Ev.lde1 (.c rfl) ag9)) rfl (fun _ _ => rfl) (by first | exact .inr (fun _ _ => rfl) | exact .inl (by kernel_rfl)) ?_ | refine DE.qg rfl (fun _ => rfl) (fun e c hk => (Ev.ldb1 0 (.c rfl) rfl ag9 rfl)) rfl (fun _ _ => rfl) (by first | exact .inr (fun _ _ => rfl) | exact .inl (by kernel_rfl)) ?_ | refine DE.qg rfl (fun _ => rfl) (fun e c hk => (Ev.ldb1 1 (.c rfl) rfl ag9 rfl)) rfl (fun _ _ => rfl) (by first | exact .inr (fun _ _ => rfl) | exact .inl (by kernel_rfl)) ?_ | refine DE.qg rfl (fun _ => rfl) (fun e c hk => (Ev.ldb1 2 (.c rfl) rfl ag9 rfl)) rfl (fun _ _ => rfl) (by first | exact .inr (fun _ _ => rfl) | exact .inl (by kernel_rfl)) ?_ | refine DE.qg rfl (fun _ => rfl) (fun e c hk => (Ev.ldb1 3 (.c rfl) rfl ag9 rfl)) rfl (fun _ _ => rfl) (by first | exact .inr (fun _ _ => rfl) | exact .inl (by kernel_rfl)) ?_
    refine DE.qg rfl (fun _ => rfl) (fun e c hk => (Ev.nes (.c rfl) (.c rfl))) rfl (fun _ _ => rfl) (by first | exact .inr (fun _ _ => rfl) | exact .inl (by kernel_rfl)) ?_
    refine DE.q (fun e c hk => (Ev.or (.t rfl) ⟨_, _, rfl, rfl, by first | (simp; done) | (intro hg_ hp_; simp [hp_]; done) | (simp <;> omega; done) | (simp_all; done) | grind⟩)) rfl (fun _ _ => rfl) (by first | exact .inr (fun _ _ => rfl) | exact .inl (by kernel_rfl)) ?_
    refine DE.q (fun e c hk => (Ev.move (.t rfl))) rfl (fun _ _ => rfl) (by first | exact .inr (fun _ _ => rfl) | exact .inl (by kernel_rfl)) ?_
    refine DE.qg rfl (fun _ => rfl) (fun e c hk => (Ev.move (.t rfl))) rfl (fun _ _ => rfl) (by first | exact .inr (fun _ _ => rfl) | exact .inl (by kernel_rfl)) ?_
    refine DE.qg rfl (fun _ => rfl) (fun e c hk => (Ev.move (.t rfl))) rfl (fun _ _ => rfl) (by first | exact .inr (fun _ _ => rfl) | exact .inl (by kernel_rfl)) ?_
    refine DE.qg rfl (fun _ => rfl) (fun e c hk => Ev.at (E := 42) (.c rfl) (.c rfl) Try.underlying24 ty42 (fun _ => ⟨by omega, hga⟩) rfl rfl) rfl (fun _ _ => rfl) (by first | exact .inr (fun _ _ => rfl) | exact .inl (by kernel_rfl)) ?_
    first | refine DE.qg rfl (fun _ => rfl) (fun e c hk => (Ev.fae (.c rfl) fa42_1 rfl)) rfl (fun _ _ => rfl) (by first | exact .inr (fun _ _ => rfl) | exact .inl (by kernel_rfl)) ?_ | refine DE.qg rfl (fun _ => rfl) (fun e c hk => (Ev.fab (.c rfl) fa42_1)) rfl (fun _ _ => rfl) (by first | exact .inr (fun _ _ => rfl) | exact .inl (by kernel_rfl)) ?_ | refine DE.qg rfl (fun _ => rfl) (fun e c hk => (Ev.faa (.c rfl) fa42_1)) rfl (fun _ _ => rfl) (by first | exact .inr (fun _ _ => rfl) | exact .inl (by kernel_rfl)) ?_
    first | refine DE.qg rfl (fun _ => rfl) (fun e c hk => (Ev.lde1 (.c rfl) ag40)) rfl (fun _ _ => rfl) (by first | exact .inr (fun _ _ => rfl) | exact .inl (by kernel_rfl)) ?_ | refine DE.qg rfl (fun _ => rfl) (fun e c hk => (Ev.ldb1 0 (.c rfl) rfl ag40 rfl)) rfl (fun _ _ => rfl) (by first | exact .inr (fun _ _ => rfl) | exact .inl (by kernel_rfl)) ?_ | refine DE.qg rfl (fun _ => rfl) (fun e c hk => (Ev.ldb1 1 (.c rfl) rfl ag40 rfl)) rfl (fun _ _ => rfl) (by first | exact .inr (fun _ _ => rfl) | exact .inl (by kernel_rfl)) ?_ | refine DE.qg rfl (fun _ => rfl) (fun e c hk => (Ev.ldb1 2 (.c rfl) rfl ag40 rfl)) rfl (fun _ _ => rfl) (by first | exact .inr (fun _ _ => rfl) | exact .inl (by kernel_rfl)) ?_ | refine DE.qg rfl (fun _ => rfl) (fun e c hk => (Ev.ldb1 3 (.c rfl) rfl ag40 rfl)) rfl (fun _ _ => rfl) (by first | exact .inr (fun _ _ => rfl) | exact .inl (by kernel_rfl)) ?_
    first | refine DE.qg rfl (fun _ => rfl) (fun e c hk => (Ev.lensl (.c rfl) Try.underlying40)) rfl (fun _ _ => rfl) (by first | exact .inr (fun _ _ => rfl) | exact .inl (by kernel_rfl)) ?_ | refine DE.qg rfl (fun _ => rfl) (fun e c hk => (Ev.lenar (i := 0) (.c rfl) rfl Try.underlying40)) rfl (fun _ _ => rfl) (by first | exact .inr (fun _ _ => rfl) | exact .inl (by kernel_rfl)) ?_ | refine DE.qg rfl (fun _ => rfl) (fun e c hk => (Ev.lenar (i := 1) (.c rfl) rfl Try.underlying40)) rfl (fun _ _ => rfl) (by first | exact .inr (fun _ _ => rfl) | exact .inl (by kernel_rfl)) ?_ | refine DE.qg rfl (fun _ => rfl) (fun e c hk => (Ev.lenar (i := 2) (.c rfl) rfl Try.underlying40)) rfl (fun _ _ => rfl) (by first | exact .inr (fun _ _ => rfl) | exact .inl (by kernel_rfl)) ?_ | refine DE.qg rfl (fun _ => rfl) (fun e c hk => (Ev.lenar (i := 3) (.c rfl) rfl Try.underlying40)) rfl (fun _ _ => rfl) (by first | exact .inr (fun _ _ => rfl) | exact .inl (by kernel_rfl)) ?_
    refine DE.qg rfl (fun _ => rfl) (fun e c hk => (Ev.move (.t rfl))) rfl (fun _ _ => rfl) (by first | exact .inr (fun _ _ => rfl) | exact .inl (by kernel_rfl)) ?_
    refine DE.qg rfl (fun _ => rfl) (fun e c hk => (Ev.move (.t rfl))) rfl (fun _ _ => rfl) (by first | exact .inr (fun _ _ => rfl) | exact .inl (by kernel_rfl)) ?_
    refine DE.qg rfl (fun _ => rfl) (fun e c hk => Ev.at (E := 42) (.c rfl) (.c rfl) Try.underlying24 ty42 (fun _ => ⟨by omega, hga⟩) rfl rfl) rfl (fun _ _ => rfl) (by first | exact .inr (fun _ _ => rfl) | exact .inl (by kernel_rfl)) ?_
    first | refine DE.qg rfl (fun _ => rfl) (fun e c hk => (Ev.fae (.c rfl) fa42_1 rfl)) rfl (fun _ _ => rfl) (by first | exact .inr (fun _ _ => rfl) | exact .inl (by kernel_rfl)) ?_ | refine DE.qg rfl (fun _ => rfl) (fun e c hk => (Ev.fab (.c rfl) fa42_1)) rfl (fun _ _ => rfl) (by first | exact .inr (fun _ _ => rfl) | exact .inl (by kernel_rfl)) ?_ | refine DE.qg rfl (fun _ => rfl) (fun e c hk => (Ev.faa (.c rfl) fa42_1)) rfl (fun _ _ => rfl) (by first | exact .inr (fun _ _ => rfl) | exact .inl (by kernel_rfl)) ?_
    first | refine DE.qg rfl (fun _ => rfl) (fun e c hk => (Ev.lde1 (.c rfl) ag40)) rfl (fun _ _ => rfl) (by first | exact .inr (fun _ _ => rfl) | exact .inl (by kernel_rfl)) ?_ | refine DE.qg rfl (fun _ => rfl) (fun e c hk => (Ev.ldb1 0 (.c rfl) rfl ag40 rfl)) rfl (fun _ _ => rfl) (by first | exact .inr (fun _ _ => rfl) | exact .inl (by kernel_rfl)) ?_ | refine DE.qg rfl (fun _ => rfl) (fun e c hk => (Ev.ldb1 1 (.c rfl) rfl ag40 rfl)) rfl (fun _ _ => rfl) (by first | exact .inr (fun _ _ => rfl) | exact .inl (by kernel_rfl)) ?_ | refine DE.qg rfl (fun _ => rfl) (fun e c hk => (Ev.ldb1 2 (.c rfl) rfl ag40 rfl)) rfl (fun _ _ => rfl) (by first | exact .inr (fun _ _ => rfl) | exact .inl (by kernel_rfl)) ?_ | refine DE.qg rfl (fun _ => rfl) (fun e c hk => (Ev.ldb1 3 (.c rfl) rfl ag40 rfl)) rfl (fun _ _ => rfl) (by first | exact .inr (fun _ _ => rfl) | exact .inl (by kernel_rfl)) ?_
    first | refine DE.qg rfl (fun _ => rfl) (fun e c hk => (Ev.lensl (.c rfl) Try.underlying40)) rfl (fun _ _ => rfl) (by first | exact .inr (fun _ _ => rfl) | exact .inl (by kernel_rfl)) ?_ | refine DE.qg rfl (fun _ => rfl) (fun e c hk => (Ev.lenar (i := 0) (.c rfl) rfl Try.underlying40)) rfl (fun _ _ => rfl) (by first | exact .inr (fun _ _ => rfl) | exact .inl (by kernel_rfl)) ?_ | refine DE.qg rfl (fun _ => rfl) (fun e c hk => (Ev.lenar (i := 1) (.c rfl) rfl Try.underlying40)) rfl (fun _ _ => rfl) (by first | exact .inr (fun _ _ => rfl) | exact .inl (by kernel_rfl)) ?_ | refine DE.qg rfl (fun _ => rfl) (fun e c hk => (Ev.lenar (i := 2) (.c rfl) rfl Try.underlying40)) rfl (fun _ _ => rfl) (by first | exact .inr (fun _ _ => rfl) | exact .inl (by kernel_rfl)) ?_ | refine DE.qg rfl (fun _ => rfl) (fun e c hk => (Ev.lenar (i := 3) (.c rfl) rfl Try.underlying40)) rfl (fun _ _ => rfl) (by first | exact .inr (fun _ _ => rfl) | exact .inl (by kernel_rfl)) ?_
    refine DE.qg rfl (fun _ => rfl) (fun e c hk => (Ev.nei (.c rfl) (.c rfl))) rfl (fun _ _ => rfl) (by first | exact .inr (fun _ _ => rfl) | exact .inl (by kernel_rfl)) ?_
    refine DE.q (fun e c hk => (Ev.or (.t rfl) ⟨_, _, rfl, rfl, by first | (simp; done) | (intro hg_ hp_; simp [hp_]; done) | (simp <;> omega; done) | (simp_all; done) | grind⟩)) rfl (fun _ _ => rfl) (by first | exact .inr (fun _ _ => rfl) | exact .inl (by kernel_rfl)) ?_
    refine DE.q (fun e c hk => (Ev.move (.t rfl))) rfl (fun _ _ => rfl) (by first | exact .inr (fun _ _ => rfl) | exact .inl (by kernel_rfl)) ?_
    refine DE.qg rfl (fun _ => rfl) (fun e c hk => (Ev.move (.t rfl))) rfl (fun _ _ => rfl) (by first | exact .inr (fun _ _ => rfl) | exact .inl (by kernel_rfl)) ?_
    refine DE.qg rfl (fun _ => rfl) (fun e c hk => (Ev.move (.t rfl))) rfl (fun _ _ => rfl) (by first | exact .inr (fun _ _ => rfl) | exact .inl (by kernel_rfl)) ?_
    refine DE.qg rfl (fun _ => rfl) (fun e c hk => Ev.at (E := 42) (.c rfl) (.c rfl) Try.underlying24 ty42 (fun _ => ⟨by omega, hga⟩) rfl rfl) rfl (fun _ _ => rfl) (by first | exact .inr (fun _ _ => rfl) | exact .inl (by kernel_rfl)) ?_
    first | refine DE.qg rfl (fun _ => rfl) (fun e c hk => (Ev.fae (.c rfl) fa42_3 rfl)) rfl (fun _ _ => rfl) (by first | exact .inr (fun _ _ => rfl) | exact .inl (by kernel_rfl)) ?_ | refine DE.qg rfl (fun _ => rfl) (fun e c hk => (Ev.fab (.c rfl) fa42_3)) rfl (fun _ _ => rfl) (by first | exact .inr (fun _ _ => rfl) | exact .inl (by kernel_rfl)) ?_ | refine DE.qg rfl (fun _ => rfl) (fun e c hk => (Ev.faa (.c rfl) fa42_3)) rfl (fun _ _ => rfl) (by first | exact .inr (fun _ _ => rfl) | exact .inl (by kernel_rfl)) ?_
    first | refine DE.qg rfl (fun _ => rfl) (fun e c hk => (Ev.lde1 (.c rfl) ag24)) rfl (fun _ _ => rfl) (by first | exact .inr (fun _ _ => rfl) | exact .inl (by kernel_rfl)) ?_ | refine DE.qg rfl (fun _ => rfl) (fun e c hk => (Ev.ldb1 0 (.c rfl) rfl ag24 rfl)) rfl (fun _ _ => rfl) (by first | exact .inr (fun _ _ => rfl) | exact .inl (by kernel_rfl)) ?_ | refine DE.qg rfl (fun _ => rfl) (fun e c hk => (Ev.ldb1 1 (.c rfl) rfl ag24 rfl)) rfl (fun _ _ => rfl) (by first | exact .inr (fun _ _ => rfl) | exact .inl (by kernel_rfl)) ?_ | refine DE.qg rfl (fun _ => rfl) (fun e c hk => (Ev.ldb1 2 (.c rfl) rfl ag24 rfl)) rfl (fun _ _ => rfl) (by first | exact .inr (fun _ _ => rfl) | exact .inl (by kernel_rfl)) ?_ | refine DE.qg rfl (fun _ => rfl) (fun e c hk => (Ev.ldb1 3 (.c rfl) rfl ag24 rfl)) rfl (fun _ _ => rfl) (by first | exact .inr (fun _ _ => rfl) | exact .inl (by kernel_rfl)) ?_
    refine DE.qg rfl (fun _ => rfl) (fun e c hk => (Ev.move (.t rfl))) rfl (fun _ _ => rfl) (by first | exact .inr (fun _ _ => rfl) | exact .inl (by kernel_rfl)) ?_
    refine DE.qg rfl (fun _ => rfl) (fun e c hk => (Ev.move (.t rfl))) rfl (fun _ _ => rfl) (by first | exact .inr (fun _ _ => rfl) | exact .inl (by kernel_rfl)) ?_
    refine DE.qg rfl (fun _ => rfl) (fun e c hk => Ev.at (E := 42) (.c rfl) (.c rfl) Try.underlying24 ty42 (fun _ => ⟨by omega, hga⟩) rfl rfl) rfl (fun _ _ => rfl) (by first | exact .inr (fun _ _ => rfl) | exact .inl (by kernel_rfl)) ?_
    first | refine DE.qg rfl (fun _ => rfl) (fun e c hk => (Ev.fae (.c rfl) fa42_3 rfl)) rfl (fun _ _ => rfl) (by first | exact .inr (fun _ _ => rfl) | exact .inl (by kernel_rfl)) ?_ | refine DE.qg rfl (fun _ => rfl) (fun e c hk => (Ev.fab (.c rfl) fa42_3)) rfl (fun _ _ => rfl) (by first | exact .inr (fun _ _ => rfl) | exact .inl (by kernel_rfl)) ?_ | refine DE.qg rfl (fun _ => rfl) (fun e c hk => (Ev.faa (.c rfl) fa42_3)) rfl (fun _ _ => rfl) (by first | exact .inr (fun _ _ => rfl) | exact .inl (by kernel_rfl)) ?_
    first | refine DE.qg rfl (fun _ => rfl) (fun e c hk => (Ev.lde1 (.c rfl) ag24)) rfl (fun _ _ => rfl) (by first | exact .inr (fun _ _ => rfl) | exact .inl (by kernel_rfl)) ?_ | refine DE.qg rfl (fun _ => rfl) (fun e c hk => (Ev.ldb1 0 (.c rfl) rfl ag24 rfl)) rfl (fun _ _ => rfl) (by first | exact .inr (fun _ _ => rfl) | exact .inl (by kernel_rfl)) ?_ | refine DE.qg rfl (fun _ => rfl) (fun e c hk => (Ev.ldb1 1 (.c rfl) rfl ag24 rfl)) rfl (fun _ _ => rfl) (by first | exact .inr (fun _ _ => rfl) | exact .inl (by kernel_rfl)) ?_ | refine DE.qg rfl (fun _ => rfl) (fun e c hk => (Ev.ldb1 2 (.c rfl) rfl ag24 rfl)) rfl (fun _ _ => rfl) (by first | exact .inr (fun _ _ => rfl) | exact .inl (by kernel_rfl)) ?_ | refine DE.qg rfl (fun _ => rfl) (fun e c hk => (Ev.ldb1 3 (.c rfl) rfl ag24 rfl)) rfl (fun _ _ => rfl) (by first | exact .inr (fun _ _ => rfl) | exact .inl (by kernel_rfl)) ?_
    refine DE.callg rfl (fun _ => rfl) (fun c hg => ih d.parts (by omega)) (fun c hg => ⟨(.i rfl (fun _ => hg)), (.i rfl (fun _ => hg)), trivial⟩) rfl (fun _ _ => rfl) (by first | exact .inr (fun _ _ => rfl) | exact .inl (by kernel_rfl)) ?_
    refine DE.qg rfl (fun _ => rfl) (fun e c hk => (Ev.not (.c rfl))) rfl (fun _ _ => rfl) (by first | exact .inr (fun _ _ => rfl) | exact .inl (by kernel_rfl)) ?_
    refine DE.q (fun e c hk => (Ev.or (.t rfl) ⟨_, _, rfl, rfl, by first | (simp; done) | (intro hg_ hp_; simp [hp_]; done) | (simp <;> omega; done) | (simp_all; done) | grind⟩)) rfl (fun _ _ => rfl) (by first | exact .inr (fun _ _ => rfl) | exact .inl (by kernel_rfl)) ?_
    refine DE.nil (fun c_ e_ he_ => ?_)
    dsimp only
    refine W.then ?_
    refine W.is (t := 70) (g := true) (av' := .lit (.bool false)) rfl (congrArg (fun b => AV.lit (.bool b)) (by simp)) ?_
    refine W.condF (.t rfl) ?_
    refine W.skip ?_
    refine W.then ?_
    refine W.seq ?_
    refine W.region ?_
    refine W.q (Ev.assign .k) rfl ?_
    refine W.nil ?_
    refine W.then ?_
    refine W.block ?_
    refine W.loop (D := []) (ι := Nat) (fun k => [(6, true, .int (k : Int)), (5, true, .int (i : Int)), (0, true, .sl 4 (l.map Nd.av)), (1, true, .sl 4 (l.map Nd.av))]) (fun _ => []) (fun k => k ≤ d.attrs.length) (fun k => d.attrs.length - k) 0 ⟨rfl, rfl, rfl, rfl, trivial⟩ (.refl _) (Nat.zero_le _) ?_
    intro k hk
    dsimp only at hk ⊢
    rcases (show k < d.attrs.length ∨ k = d.attrs.length from by omega) with hltk | hendk
    · have hgk := getD_mapG dav ([], []) d.attrs k hltk
      refine W.seq ?_
      refine W.seq ?_
      refine W.region ?_
      refine W.q (Ev.move (.t rfl)) rfl ?_
      refine W.q (Ev.move (.t rfl)) rfl ?_
      refine W.q (Ev.move (.t rfl)) rfl ?_
      refine W.q (Ev.at (E := 42) (.t rfl) (.t rfl) Try.underlying24 ty42 (fun _ => ⟨by omega, hga⟩) rfl rfl) rfl ?_
      first | refine W.q (Ev.fae (.t rfl) fa42_1 rfl) rfl ?_ | refine W.q (Ev.fab (.t rfl) fa42_1) rfl ?_ | refine W.q (Ev.faa (.t rfl) fa42_1) rfl ?_
      first | refine W.q (Ev.lde1 (.t rfl) ag40) rfl ?_ | refine W.q (Ev.ldb1 0 (.t rfl) rfl ag40 rfl) rfl ?_ | refine W.q (Ev.ldb1 1 (.t rfl) rfl ag40 rfl) rfl ?_ | refine W.q (Ev.ldb1 2 (.t rfl) rfl ag40 rfl) rfl ?_ | refine W.q (Ev.ldb1 3 (.t rfl) rfl ag40 rfl) rfl ?_
      first | refine W.q (Ev.lensl (.t rfl) Try.underlying40) rfl ?_ | refine W.q (Ev.lenar (i := 0) (.t rfl) rfl Try.underlying40) rfl ?_ | refine W.q (Ev.lenar (i := 1) (.t rfl) rfl Try.underlying40) rfl ?_ | refine W.q (Ev.lenar (i := 2) (.t rfl) rfl Try.underlying40) rfl ?_ | refine W.q (Ev.lenar (i := 3) (.t rfl) rfl Try.underlying40) rfl ?_
      refine W.q (Ev.lti (.t rfl) (.t rfl)) rfl ?_
      refine W.nil ?_
      refine W.then ?_
      refine W.is (t := 78) (g := true) (av' := .lit (.bool true)) rfl (congrArg (fun b => AV.lit (.bool b)) (by simp; omega)) ?_
      refine W.condT (.t rfl) ?_
      refine W.skip ?_
      refine W.then ?_
      refine W.seq ?_
      refine W.block ?_
      refine W.seq ?_
      refine W.drawn (by kernel_rfl) (by kernel_rfl) ?_
      refine DP.q (Ev.move (.t rfl)) rfl ?_
      refine DP.q (Ev.move (.t rfl)) rfl ?_
      refine DP.q (Ev.at (E := 42) (.t rfl) (.t rfl) Try.underlying24 ty42 (fun _ => ⟨by omega, hga⟩) rfl rfl) rfl ?_
      first | refine DP.q (Ev.fae (.t rfl) fa42_1 rfl) rfl ?_ | refine DP.q (Ev.fab (.t rfl) fa42_1) rfl ?_ | refine DP.q (Ev.faa (.t rfl) fa42_1) rfl ?_
      first | refine DP.q (Ev.lde1 (.t rfl) ag40) rfl ?_ | refine DP.q (Ev.ldb1 0 (.t rfl) rfl ag40 rfl) rfl ?_ | refine DP.q (Ev.ldb1 1 (.t rfl) rfl ag40 rfl) rfl ?_ | refine DP.q (Ev.ldb1 2 (.t rfl) rfl ag40 rfl) rfl ?_ | refine DP.q (Ev.ldb1 3 (.t rfl) rfl ag40 rfl) rfl ?_
      refine DP.q (Ev.move (.t rfl)) rfl ?_
      refine DP.q (Ev.at (E := 45) (.t rfl) (.t rfl) Try.underlying40 ty45 (fun _ => ⟨by omega, hgk⟩) rfl rfl) rfl ?_
      first | refine DP.q (Ev.lden (.t rfl) ag45 ty45 rfl rfl) rfl ?_ | refine DP.q (Ev.ldbn 0 (.t rfl) rfl ag45 ty45 rfl) rfl ?_ | refine DP.q (Ev.ldbn 1 (.t rfl) rfl ag45 ty45 rfl) rfl ?_ | refine DP.q (Ev.ldbn 2 (.t rfl) rfl ag45 ty45 rfl) rfl ?_ | refine DP.q (Ev.ldbn 3 (.t rfl) rfl ag45 ty45 rfl) rfl ?_
      refine DP.q (Ev.move (.t rfl)) rfl ?_
      refine DP.q (Ev.move (.t rfl)) rfl ?_
      refine DP.q (Ev.at (E := 42) (.t rfl) (.t rfl) Try.underlying24 ty42 (fun _ => ⟨by omega, hga⟩) rfl rfl) rfl ?_
      first | refine DP.q (Ev.fae (.t rfl) fa42_1 rfl) rfl ?_ | refine DP.q (Ev.fab (.t rfl) fa42_1) rfl ?_ | refine DP.q (Ev.faa (.t rfl) fa42_1) rfl ?_
      first | refine DP.q (Ev.lde1 (.t rfl) ag40) rfl ?_ | refine DP.q (Ev.ldb1 0 (.t rfl) rfl ag40 rfl) rfl ?_ | refine DP.q (Ev.ldb1 1 (.t rfl) rfl ag40 rfl) rfl ?_ | refine DP.q (Ev.ldb1 2 (.t rfl) rfl ag40 rfl) rfl ?_ | refine DP.q (Ev.ldb1 3 (.t rfl) rfl ag40 rfl) rfl ?_
      refine DP.q (Ev.move (.t rfl)) rfl ?_
      refine DP.q (Ev.at (E := 45) (.t rfl) (.t rfl) Try.underlying40 ty45 (fun _ => ⟨by omega, hgk⟩) rfl rfl) rfl ?_
      first | refine DP.q (Ev.lden (.t rfl) ag45 ty45 rfl rfl) rfl ?_ | refine DP.q (Ev.ldbn 0 (.t rfl) rfl ag45 ty45 rfl) rfl ?_ | refine DP.q (Ev.ldbn 1 (.t rfl) rfl ag45 ty45 rfl) rfl ?_ | refine DP.q (Ev.ldbn 2 (.t rfl) rfl ag45 ty45 rfl) rfl ?_ | refine DP.q (Ev.ldbn 3 (.t rfl) rfl ag45 ty45 rfl) rfl ?_
      refine DP.q (Ev.ne2 s2_45 (.t rfl) (.t rfl)) rfl ?_
      refine DP.nil ?_
      refine W.then ?_
      refine W.is (t := 97) (g := true) (av' := .lit (.bool false)) rfl (congrArg (fun b => AV.lit (.bool b)) (by simp)) ?_
      refine W.condF (.t rfl) ?_
      refine W.skip ?_
      refine W.blk_normal ?_
      refine W.then ?_
      refine W.region ?_
      refine W.q (Ev.move (.t rfl)) rfl ?_
      first | refine W.q (Ev.add (.t rfl) .k (fun _ => by omega)) rfl ?_ | refine W.q (Ev.addw (.t rfl) .k) rfl ?_
      refine W.q (Ev.assign (.t rfl)) rfl ?_
      refine W.nil ?_
      refine W.then ?_
      refine W.reach (D := []) (k + 1) ⟨rfl, rfl, rfl, rfl, trivial⟩ (.refl _) ⟨by show k + 1 ≤ _; omega, by show _ - (k + 1) < _; omega⟩
    · skip
      refine W.seq ?_
      refine W.seq ?_
      refine W.region ?_
      refine W.q (Ev.move (.t rfl)) rfl ?_
      refine W.q (Ev.move (.t rfl)) rfl ?_
      refine W.q (Ev.move (.t rfl)) rfl ?_
      refine W.q (Ev.at (E := 42) (.t rfl) (.t rfl) Try.underlying24 ty42 (fun _ => ⟨by omega, hga⟩) rfl rfl) rfl ?_
      first | refine W.q (Ev.fae (.t rfl) fa42_1 rfl) rfl ?_ | refine W.q (Ev.fab (.t rfl) fa42_1) rfl ?_ | refine W.q (Ev.faa (.t rfl) fa42_1) rfl ?_
      first | refine W.q (Ev.lde1 (.t rfl) ag40) rfl ?_ | refine W.q (Ev.ldb1 0 (.t rfl) rfl ag40 rfl) rfl ?_ | refine W.q (Ev.ldb1 1 (.t rfl) rfl ag40 rfl) rfl ?_ | refine W.q (Ev.ldb1 2 (.t rfl) rfl ag40 rfl) rfl ?_ | refine W.q (Ev.ldb1 3 (.t rfl) rfl ag40 rfl) rfl ?_
      first | refine W.q (Ev.lensl (.t rfl) Try.underlying40) rfl ?_ | refine W.q (Ev.lenar (i := 0) (.t rfl) rfl Try.underlying40) rfl ?_ | refine W.q (Ev.lenar (i := 1) (.t rfl) rfl Try.underlying40) rfl ?_ | refine W.q (Ev.lenar (i := 2) (.t rfl) rfl Try.underlying40) rfl ?_ | refine W.q (Ev.lenar (i := 3) (.t rfl) rfl Try.underlying40) rfl ?_
      refine W.q (Ev.lti (.t rfl) (.t rfl)) rfl ?_
      refine W.nil ?_
      refine W.then ?_
      refine W.is (t := 78) (g := true) (av' := .lit (.bool false)) rfl (congrArg (fun b => AV.lit (.bool b)) (by simp; omega)) ?_
      refine W.condF (.t rfl) ?_
      refine W.exit ?_
      refine W.then_exit ?_
      refine W.then_exit ?_
      refine W.blk_hit ?_
      refine W.blk_normal ?_
      refine W.then ?_
      refine W.region ?_
      refine W.q (Ev.move (.t rfl)) rfl ?_
      first | refine W.q (Ev.add (.t rfl) .k (fun _ => by omega)) rfl ?_ | refine W.q (Ev.addw (.t rfl) .k) rfl ?_
      refine W.q (Ev.assign (.t rfl)) rfl ?_
      refine W.nil ?_
      refine W.then ?_
      refine W.reach (D := []) (i + 1) ⟨rfl, rfl, rfl, trivial⟩ (.refl _) ⟨by show i + 1 ≤ _; omega, by show _ - (i + 1) < _; omega⟩
  · skip
    refine W.seq ?_
    refine W.seq ?_
    refine W.region ?_
    refine W.q (Ev.move (.t rfl)) rfl ?_
    refine W.q (Ev.move (.t rfl)) rfl ?_
    first | refine W.q (Ev.lensl (.t rfl) Try.underlying24) rfl ?_ | refine W.q (Ev.lenar (i := 0) (.t rfl) rfl Try.underlying24) rfl ?_ | refine W.q (Ev.lenar (i := 1) (.t rfl) rfl Try.underlying24) rfl ?_ | refine W.q (Ev.lenar (i := 2) (.t rfl) rfl Try.underlying24) rfl ?_ | refine W.q (Ev.lenar (i := 3) (.t rfl) rfl Try.underlying24) rfl ?_
    refine W.q (Ev.lti (.t rfl) (.t rfl)) rfl ?_
    refine W.nil ?_
    refine W.then ?_
    refine W.is (t := 15) (g := true) (av' := .lit (.bool false)) rfl (congrArg (fun b => AV.lit (.bool b)) (by simp; omega)) ?_
    refine W.condF (.t rfl) ?_
    refine W.exit ?_
    refine W.then_exit ?_
    refine W.then_exit ?_
    refine W.blk_hit ?_
    refine W.then ?_
    refine W.seq ?_
    refine W.region ?_
    refine W.q (Ev.assign .k) rfl ?_
    refine W.nil ?_
    refine W.then ?_
    refine W.ret ?_
    refine W.retn (M' := []) (rs := [.tmp 4]) (avs := [_]) Try.results10 ⟨rfl, trivial⟩ rfl (.refl _) ?_
    exact ⟨rfl, rfl⟩

theorem c_same (l : List Nd) (hl : Nd.szs l ≤ 16777216) : FnP Try.prog 10 [.sl 4 (l.map Nd.av), .sl 4 (l.map Nd.av)] (.bool true) := by
  suffices H : ∀ n, n ≤ 16777216 → ∀ l, Nd.szs l = n → FnP Try.prog 10 [.sl 4 (l.map Nd.av), .sl 4 (l.map Nd.av)] (.bool true) from H _ hl l rfl
  intro n
  induction n using Nat.strongRecOn with
  | _ n ih => exact fun hn l hl => c_same_step n hn (fun l' h' => ih _ h' (by omega) l' rfl) l hl

end WSame

end Go.Proofs.Ytpjngpegkoohgaa
