/-
  Attributes that may be.
-/
import Derived.Test.YteepllfbnoaiaaaEmit
import Derived.Test.YteepllfbnoaiaaaBase
import Derived.Test.YteepllfbnoaiaaaPick
import Derived.Test.YteepllfbnoaiaaaWName
import Derived.Test.YteepllfbnoaiaaaWAttr
set_option linter.unusedVariables false
set_option linter.unusedSimpArgs false
set_option maxRecDepth 100000
namespace Go.Proofs.Yteepllfbnoaiaaa
open Go.Vl

namespace WEAttrs
theorem ty9 : Ty Try.prog 9 1 16 (.string ⟨#[]⟩) := Ty.of (by kernel_rfl)
theorem ty78 : Ty Try.prog 78 2 32 (.agg #[.string ⟨#[]⟩, .string ⟨#[]⟩]) := Ty.of (by kernel_rfl)
theorem ag9 : IsAgg Try.prog 9 false := ⟨_, Try.underlying9, rfl⟩
theorem ag78 : IsAgg Try.prog 78 true := ⟨_, Try.underlying78, rfl⟩
theorem fa78_0 : FieldAt Try.prog 78 0 0 1 false := ⟨_, _, Try.underlying78, rfl, rfl, ty9.size, ag9, by decide⟩
theorem c_Attrs1 (a : Dc) (h : a.1.length ≤ 1000) : FnP Try.prog 83 [dav a] (.bool (!(nameOk a.1))) :=  by
  refine FnC.mk Try.func83 (by kernel_rfl) rfl Try.ntmps83 rfl (fun w0 F => ?_)
  refine W.seq ?_
  refine W.region ?_
  refine W.box (.t rfl) rfl rfl ?_
  intro b1
  refine W.q (Ev.assign .k) rfl ?_
  refine W.nil ?_
  refine W.then ?_
  refine W.seq ?_
  refine W.region ?_
  first | refine W.q (Ev.fae (.t rfl) fa78_0 rfl) rfl ?_ | refine W.q (Ev.fab (.t rfl) fa78_0) rfl ?_ | refine W.q (Ev.faa (.t rfl) fa78_0) rfl ?_
  first | refine W.q (Ev.lde1 (.t rfl) ag9) rfl ?_ | refine W.q (Ev.ldb1 0 (.t rfl) rfl ag9 rfl) rfl ?_ | refine W.q (Ev.ldb1 1 (.t rfl) rfl ag9 rfl) rfl ?_ | refine W.q (Ev.ldb1 2 (.t rfl) rfl ag9 rfl) rfl ?_ | refine W.q (Ev.ldb1 3 (.t rfl) rfl ag9 rfl) rfl ?_
  refine W.callp (WName.c_Name a.1 (by omega)) ⟨(.t rfl), trivial⟩ rfl ?_
  refine W.q (Ev.not (.t rfl)) rfl ?_
  refine W.q (Ev.assign (.t rfl)) rfl ?_
  refine W.nil ?_
  refine W.then ?_
  refine W.ret ?_
  refine W.retn (M' := []) (D := _) (rs := [.tmp 2]) (avs := [_]) Try.results83 ⟨rfl, trivial⟩ rfl (.refl _) ?_
  exact ⟨rfl, rfl⟩

theorem c_Attrs2 (e a : Dc) (b : Nat) : FnC Try.prog 84 [dav e, .lit (.pointer (some ⟨b, 0, none⟩))] [.box b 78 [.str a.1, .str a.2]] (fun x M => x = .bool (a.1 == e.1) ∧ M = [.box b 78 [.str a.1, .str a.2]]) :=  by
  refine FnC.mk Try.func84 (by kernel_rfl) rfl Try.ntmps84 rfl (fun w0 F => ?_)
  refine W.seq ?_
  refine W.region ?_
  refine W.box (.t rfl) rfl rfl ?_
  intro b2
  refine W.q (Ev.assign .k) rfl ?_
  refine W.nil ?_
  refine W.then ?_
  refine W.seq ?_
  refine W.region ?_
  first | refine W.q (Ev.fae (.t rfl) fa78_0 rfl) rfl ?_ | refine W.q (Ev.fab (.t rfl) fa78_0) rfl ?_ | refine W.q (Ev.faa (.t rfl) fa78_0) rfl ?_
  first | refine W.q (Ev.lde1 (.t rfl) ag9) rfl ?_ | refine W.q (Ev.ldb1 0 (.t rfl) rfl ag9 rfl) rfl ?_ | refine W.q (Ev.ldb1 1 (.t rfl) rfl ag9 rfl) rfl ?_ | refine W.q (Ev.ldb1 2 (.t rfl) rfl ag9 rfl) rfl ?_ | refine W.q (Ev.ldb1 3 (.t rfl) rfl ag9 rfl) rfl ?_
  first | refine W.q (Ev.fae (.t rfl) fa78_0 rfl) rfl ?_ | refine W.q (Ev.fab (.t rfl) fa78_0) rfl ?_ | refine W.q (Ev.faa (.t rfl) fa78_0) rfl ?_
  first | refine W.q (Ev.lde1 (.t rfl) ag9) rfl ?_ | refine W.q (Ev.ldb1 0 (.t rfl) rfl ag9 rfl) rfl ?_ | refine W.q (Ev.ldb1 1 (.t rfl) rfl ag9 rfl) rfl ?_ | refine W.q (Ev.ldb1 2 (.t rfl) rfl ag9 rfl) rfl ?_ | refine W.q (Ev.ldb1 3 (.t rfl) rfl ag9 rfl) rfl ?_
  refine W.q (Ev.eqs (.t rfl) (.t rfl)) rfl ?_
  refine W.q (Ev.assign (.t rfl)) rfl ?_
  refine W.nil ?_
  refine W.then ?_
  refine W.ret ?_
  refine W.retn (M' := [.box b 78 _]) (D := [_]) (rs := [.tmp 3]) (avs := [_]) Try.results84 ⟨rfl, trivial⟩ rfl (List.Perm.swap _ _ []) ?_
  exact ⟨rfl, rfl⟩

theorem c_Attrs (l : List Dc) (h : okAt l) : FnP Try.prog 60 [.sl 2 (l.map dav)] (.int 0) :=  by
  refine FnC.mk Try.func60 (by kernel_rfl) rfl Try.ntmps60 rfl (fun w0 F => ?_)
  have hll : (l.map dav).length = l.length := List.length_map ..
  have hlen := h.len
  have hany : (l.any fun a => !(nameOk a.1)) = false := any_take_false _ l (fun a ha => by rw [(h.all a ha).1]; rfl)
  refine W.seq ?_
  refine W.region ?_
  refine W.q (Ev.assign .k) rfl ?_
  refine W.nil ?_
  refine W.then ?_
  refine W.seq ?_
  refine W.seq ?_
  refine W.region ?_
  refine W.q (Ev.move (.t rfl)) rfl ?_
  refine W.call (WAttr.c_ContainsFunc l 83 [] [] (fun a => !(nameOk a.1)) (fun a ha => c_Attrs1 a (h.all a ha).2) (by omega)) ⟨(.t rfl), .f, trivial⟩ (.refl _) rfl ?_
  rintro _ _ ⟨rfl, rfl⟩
  refine W.nil ?_
  refine W.then ?_
  refine W.is (t := 6) (g := true) (av' := .lit (.bool false)) rfl (congrArg (fun b => AV.lit (.bool b)) (by exact hany)) ?_
  refine W.condF (.t rfl) ?_
  refine W.skip ?_
  refine W.then ?_
  refine W.seq ?_
  refine W.seq ?_
  refine W.region ?_
  refine W.q (Ev.move (.t rfl)) rfl ?_
  first | refine W.q (Ev.lensl (.t rfl) Try.underlying33) rfl ?_ | refine W.q (Ev.lenar (i := 0) (.t rfl) rfl Try.underlying33) rfl ?_ | refine W.q (Ev.lenar (i := 1) (.t rfl) rfl Try.underlying33) rfl ?_ | refine W.q (Ev.lenar (i := 2) (.t rfl) rfl Try.underlying33) rfl ?_ | refine W.q (Ev.lenar (i := 3) (.t rfl) rfl Try.underlying33) rfl ?_
  refine W.q (Ev.gti (.t rfl) .k) rfl ?_
  refine W.nil ?_
  refine W.then ?_
  refine W.is (t := 9) (g := true) (av' := .lit (.bool false)) rfl (congrArg (fun b => AV.lit (.bool b)) (by exact decide_eq_false (by omega))) ?_
  refine W.condF (.t rfl) ?_
  refine W.skip ?_
  refine W.then ?_
  refine W.seq ?_
  refine W.seq ?_
  refine W.region ?_
  refine W.q (Ev.move (.t rfl)) rfl ?_
  first | refine W.q (Ev.lensl (.t rfl) Try.underlying33) rfl ?_ | refine W.q (Ev.lenar (i := 0) (.t rfl) rfl Try.underlying33) rfl ?_ | refine W.q (Ev.lenar (i := 1) (.t rfl) rfl Try.underlying33) rfl ?_ | refine W.q (Ev.lenar (i := 2) (.t rfl) rfl Try.underlying33) rfl ?_ | refine W.q (Ev.lenar (i := 3) (.t rfl) rfl Try.underlying33) rfl ?_
  refine W.q (Ev.move .k) rfl ?_
  refine W.nil ?_
  refine W.then ?_
  refine W.block ?_
  refine W.loop (D := []) (ι := Nat) (fun i => [(12, true, .int (i : Int)), (11, true, .int ((l.map dav).length : Int)), (10, true, .sl 2 (l.map dav)), (0, true, .sl 2 (l.map dav))]) (fun _ => []) (fun i => i ≤ l.length) (fun i => l.length - i) 0 ⟨rfl, rfl, rfl, rfl, trivial⟩ (.refl _) (Nat.zero_le _) ?_
  intro i hi
  dsimp only at hi ⊢
  rcases (show i < l.length ∨ i = l.length from by omega) with hlt | hend
  · have hga := getD_mapG dav ([], []) l i hlt
    have h1 := h.one i hlt
    generalize l.getD i ([], []) = a at hga h1
    refine W.seq ?_
    refine W.region ?_
    refine W.q (Ev.lti (.t rfl) (.t rfl)) rfl ?_
    refine W.nil ?_
    refine W.then ?_
    refine W.seq ?_
    refine W.is (t := 13) (g := true) (av' := .lit (.bool true)) rfl (congrArg (fun b => AV.lit (.bool b)) (by exact decide_eq_true (by omega))) ?_
    refine W.condT (.t rfl) ?_
    refine W.skip ?_
    refine W.then ?_
    refine W.seq ?_
    refine W.block ?_
    refine W.seq ?_
    refine W.region ?_
    refine W.q (Ev.move (.t rfl)) rfl ?_
    refine W.q (Ev.at (E := 78) (.t rfl) (.t rfl) Try.underlying33 ty78 (fun _ => ⟨by omega, hga⟩) rfl rfl) rfl ?_
    first | refine W.q (Ev.lden (.t rfl) ag78 ty78 rfl rfl) rfl ?_ | refine W.q (Ev.ldbn 0 (.t rfl) rfl ag78 ty78 rfl) rfl ?_ | refine W.q (Ev.ldbn 1 (.t rfl) rfl ag78 ty78 rfl) rfl ?_ | refine W.q (Ev.ldbn 2 (.t rfl) rfl ag78 ty78 rfl) rfl ?_ | refine W.q (Ev.ldbn 3 (.t rfl) rfl ag78 ty78 rfl) rfl ?_
    refine W.alloc ty78 rfl rfl ?_
    intro b4
    refine W.q (Ev.assign (.t rfl)) rfl ?_
    first | refine W.stb 0 (.t rfl) (.t rfl) rfl ty78 rfl rfl rfl ?_ | refine W.stb 1 (.t rfl) (.t rfl) rfl ty78 rfl rfl rfl ?_ | refine W.stb 2 (.t rfl) (.t rfl) rfl ty78 rfl rfl rfl ?_ | refine W.stb 3 (.t rfl) (.t rfl) rfl ty78 rfl rfl rfl ?_
    refine W.nil ?_
    refine W.then ?_
    refine W.seq ?_
    refine W.region ?_
    refine W.q (Ev.move (.t rfl)) rfl ?_
    refine W.q (Ev.move (.t rfl)) rfl ?_
    refine W.q (Ev.takesl (n := i) (.t rfl) Try.underlying33 ty78 (.t rfl) rfl (fun _ => by omega)) rfl ?_
    refine W.q (Ev.mkfn (caps := [.tmp 4]) (vs := [_]) ⟨(.t rfl), trivial⟩) rfl ?_
    refine W.call (WAttr.c_ContainsFunc (l.take i) 84 [.pointer (some ⟨b4, 0, none⟩)] [.box b4 78 [.str a.1, .str a.2]] (fun b => a.1 == b.1) (fun d _ => c_Attrs2 d a b4) (by rw [List.length_take]; omega)) ⟨(.t rfl), (.t rfl), trivial⟩ (.refl _) rfl ?_
    rintro _ _ ⟨rfl, rfl⟩
    refine W.nil ?_
    refine W.then ?_
    refine W.is (t := 21) (g := true) (av' := .lit (.bool false)) rfl (congrArg (fun b => AV.lit (.bool b)) (by exact h1)) ?_
    refine W.condF (.t rfl) ?_
    refine W.skip ?_
    refine W.blk_normal ?_
    refine W.then ?_
    refine W.region ?_
    first | refine W.q (Ev.add (.t rfl) .k (fun _ => by omega)) rfl ?_ | refine W.q (Ev.addw (.t rfl) .k) rfl ?_
    refine W.q (Ev.move (.t rfl)) rfl ?_
    refine W.nil ?_
    refine W.then ?_
    refine W.reach (D := _) (i + 1) ⟨rfl, rfl, rfl, rfl, trivial⟩ (.refl _) ⟨by show i + 1 ≤ _; omega, by show _ - (i + 1) < _; omega⟩
  · skip
    refine W.seq ?_
    refine W.region ?_
    refine W.q (Ev.lti (.t rfl) (.t rfl)) rfl ?_
    refine W.nil ?_
    refine W.then ?_
    refine W.seq ?_
    refine W.is (t := 13) (g := true) (av' := .lit (.bool false)) rfl (congrArg (fun b => AV.lit (.bool b)) (by exact decide_eq_false (by omega))) ?_
    refine W.condF (.t rfl) ?_
    refine W.exit ?_
    refine W.then_exit ?_
    refine W.then_exit ?_
    refine W.blk_hit ?_
    refine W.then ?_
    refine W.seq ?_
    refine W.region ?_
    refine W.q (Ev.assign .k) rfl ?_
    refine W.nil ?_
    refine W.then ?_
    refine W.ret ?_
    refine W.retn (M' := []) (rs := [.tmp 2]) (avs := [_]) Try.results60 ⟨rfl, trivial⟩ rfl (.refl _) ?_
    exact ⟨rfl, rfl⟩

end WEAttrs

end Go.Proofs.Yteepllfbnoaiaaa
