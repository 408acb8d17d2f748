/-
  Only some names of a style.
-/
import Derived.Test.YtofmjmicgddljaaStyle
import Derived.Test.YtofmjmicgddljaaBase
import Derived.Test.YtofmjmicgddljaaWLib
set_option linter.unusedVariables false
set_option linter.unusedSimpArgs false
set_option maxRecDepth 100000
namespace Go.Proofs.Ytofmjmicgddljaa
open Go.Vl

namespace WOnly
theorem ty9 : Ty Try.prog 9 1 16 (.string ⟨#[]⟩) := Ty.of (by kernel_rfl)
theorem ty35 : Ty Try.prog 35 2 32 (.agg #[.string ⟨#[]⟩, .string ⟨#[]⟩]) := Ty.of (by kernel_rfl)
theorem ag9 : IsAgg Try.prog 9 false := ⟨_, Try.underlying9, rfl⟩
theorem ag35 : IsAgg Try.prog 35 true := ⟨_, Try.underlying35, rfl⟩
theorem fa35_0 : FieldAt Try.prog 35 0 0 1 false := ⟨_, _, Try.underlying35, rfl, rfl, ty9.size, ag9, by decide⟩
theorem ni29 : NotInt Try.prog 29 := .inl ⟨_, Try.underlying29⟩
theorem c_Only1 (d e : Dc) (b : Nat) : FnC Try.prog 34 [dav e, .lit (.pointer (some ⟨b, 0, none⟩))] [.box b 35 [.str d.1, .str d.2]] (fun r M => r = .bool (e.1 == d.1) ∧ M = [.box b 35 [.str d.1, .str d.2]]) :=  by
  refine FnC.mk Try.func34 (by kernel_rfl) rfl Try.ntmps34 rfl (fun w0 F => ?_)
  refine W.seq ?_
  refine W.region ?_
  refine W.box (.t rfl) rfl rfl ?_
  intro b2
  refine W.q (Ev.assign .k) rfl ?_
  refine W.nil ?_
  refine W.then ?_
  refine W.seq ?_
  refine W.region ?_
  first | refine W.q (Ev.fae (.t rfl) fa35_0 rfl) rfl ?_ | refine W.q (Ev.fab (.t rfl) fa35_0) rfl ?_ | refine W.q (Ev.faa (.t rfl) fa35_0) rfl ?_
  first | refine W.q (Ev.lde1 (.t rfl) ag9) rfl ?_ | refine W.q (Ev.ldb1 0 (.t rfl) rfl ag9 rfl) rfl ?_ | refine W.q (Ev.ldb1 1 (.t rfl) rfl ag9 rfl) rfl ?_ | refine W.q (Ev.ldb1 2 (.t rfl) rfl ag9 rfl) rfl ?_ | refine W.q (Ev.ldb1 3 (.t rfl) rfl ag9 rfl) rfl ?_
  first | refine W.q (Ev.fae (.t rfl) fa35_0 rfl) rfl ?_ | refine W.q (Ev.fab (.t rfl) fa35_0) rfl ?_ | refine W.q (Ev.faa (.t rfl) fa35_0) rfl ?_
  first | refine W.q (Ev.lde1 (.t rfl) ag9) rfl ?_ | refine W.q (Ev.ldb1 0 (.t rfl) rfl ag9 rfl) rfl ?_ | refine W.q (Ev.ldb1 1 (.t rfl) rfl ag9 rfl) rfl ?_ | refine W.q (Ev.ldb1 2 (.t rfl) rfl ag9 rfl) rfl ?_ | refine W.q (Ev.ldb1 3 (.t rfl) rfl ag9 rfl) rfl ?_
  refine W.q (Ev.eqs (.t rfl) (.t rfl)) rfl ?_
  refine W.q (Ev.assign (.t rfl)) rfl ?_
  refine W.nil ?_
  refine W.then ?_
  refine W.ret ?_
  refine W.retn (M' := [.box b 35 _]) (D := [_]) (rs := [.tmp 3]) (avs := [_]) Try.results34 ⟨rfl, trivial⟩ rfl (List.Perm.swap _ _ []) ?_
  exact ⟨rfl, rfl⟩

theorem c_IndexFunc (l : List Dc) (g : Nat) (caps : List Value) (M0 : List ME) (p : Dc → Bool) (hg : ∀ d ∈ l, FnC Try.prog g ([dav d] ++ caps.map .lit) M0 (fun r M => r = .bool (p d) ∧ M = M0)) (hn : l.length ≤ 1099511627776) : FnC Try.prog 42 [.sl 2 (l.map dav), .lit (.func (.func g) #[] caps.toArray)] M0 (fun r M => M = M0 ∧ ∃ k : Int, r = .int k ∧ decide (0 ≤ k) = l.any p) :=  by
  refine FnC.mk Try.func42 (by kernel_rfl) rfl Try.ntmps42 rfl (fun w0 F => ?_)
  have hnl : (l.map dav).length = l.length := List.length_map ..
  refine W.seq ?_
  refine W.region ?_
  refine W.q (Ev.assign .k) rfl ?_
  refine W.nil ?_
  refine W.then ?_
  refine W.seq ?_
  refine W.seq ?_
  refine W.region ?_
  refine W.q (Ev.move (.t rfl)) rfl ?_
  first | refine W.q (Ev.lensl (.t rfl) Try.underlying29) rfl ?_ | refine W.q (Ev.lenar (i := 0) (.t rfl) rfl Try.underlying29) rfl ?_ | refine W.q (Ev.lenar (i := 1) (.t rfl) rfl Try.underlying29) rfl ?_ | refine W.q (Ev.lenar (i := 2) (.t rfl) rfl Try.underlying29) rfl ?_ | refine W.q (Ev.lenar (i := 3) (.t rfl) rfl Try.underlying29) rfl ?_
  refine W.q (Ev.move .k) rfl ?_
  refine W.nil ?_
  refine W.then ?_
  refine W.block ?_
  refine W.loop (D := []) (ι := Nat) (fun i => [(8, true, .int (i : Int)), (7, true, .int ((l.map dav).length : Int)), (0, true, .sl 2 (l.map dav)), (1, true, .lit (.func (.func g) #[] caps.toArray))]) (fun _ => M0) (fun i => i ≤ l.length ∧ ∀ d ∈ l.take i, p d = false) (fun i => l.length - i) 0 ⟨rfl, rfl, rfl, rfl, trivial⟩ (List.Perm.of_eq (List.append_nil _).symm) ⟨Nat.zero_le _, by simp⟩ ?_
  rintro i ⟨hi1, hi2⟩
  dsimp only at hi1 hi2 ⊢
  rcases (show i < l.length ∨ i = l.length from by omega) with hlt | hend
  · have hga := getD_mapG dav ([], []) l i hlt
    refine W.seq ?_
    refine W.region ?_
    refine W.q (Ev.lti (.t rfl) (.t rfl)) rfl ?_
    refine W.nil ?_
    refine W.then ?_
    refine W.seq ?_
    refine W.is (t := 9) (g := true) (av' := .lit (.bool true)) rfl (congrArg (fun b => AV.lit (.bool b)) (by simp; omega)) ?_
    refine W.condT (.t rfl) ?_
    refine W.skip ?_
    refine W.then ?_
    refine W.seq ?_
    refine W.block ?_
    refine W.seq ?_
    refine W.region ?_
    refine W.q (Ev.move (.t rfl)) rfl ?_
    refine W.q (Ev.assign (.t rfl)) rfl ?_
    refine W.nil ?_
    refine W.then ?_
    refine W.seq ?_
    refine W.region ?_
    refine W.q (Ev.move (.t rfl)) rfl ?_
    refine W.q (Ev.move (.t rfl)) rfl ?_
    refine W.q (Ev.move (.t rfl)) rfl ?_
    refine W.q (Ev.at (E := 35) (.t rfl) (.t rfl) Try.underlying29 ty35 (fun _ => ⟨by omega, hga⟩) rfl rfl) rfl ?_
    first | refine W.q (Ev.lden (.t rfl) ag35 ty35 rfl rfl) rfl ?_ | refine W.q (Ev.ldbn 0 (.t rfl) rfl ag35 ty35 rfl) rfl ?_ | refine W.q (Ev.ldbn 1 (.t rfl) rfl ag35 ty35 rfl) rfl ?_ | refine W.q (Ev.ldbn 2 (.t rfl) rfl ag35 ty35 rfl) rfl ?_ | refine W.q (Ev.ldbn 3 (.t rfl) rfl ag35 ty35 rfl) rfl ?_
    refine W.callv (caps := caps) (avs := [_]) (hg (l.getD i ([], [])) (getD_memG ([], []) l i hlt)) (.t rfl) ⟨(.t rfl), trivial⟩ rfl ((List.Perm.of_eq (List.append_nil _).symm)) rfl ?_
    rintro _ M' ⟨rfl, hM⟩
    rw [hM, List.append_nil]
    refine W.nil ?_
    refine W.then ?_
    refine W.cond (.t rfl) (fun hc_t16 => ?_) (fun hc_t16 => ?_)
    · have hq : l.any p = true := by rw [List.any_eq_true]; exact ⟨_, getD_memG ([], []) l i hlt, hc_t16⟩
      refine W.seq ?_
      refine W.region ?_
      refine W.q (Ev.move (.t rfl)) rfl ?_
      refine W.q (Ev.assign (.t rfl)) rfl ?_
      refine W.nil ?_
      refine W.then ?_
      refine W.ret ?_
      refine W.blk_ret ?_
      refine W.then_ret ?_
      refine W.then_ret ?_
      refine W.blk_ret ?_
      refine W.then_ret ?_
      refine W.retn (M' := M0) (D := []) (rs := [.tmp 4]) (avs := [_]) Try.results42 ⟨rfl, trivial⟩ rfl (List.Perm.of_eq (List.append_nil _).symm) ?_
      refine ⟨rfl, _, rfl, ?_⟩
      rw [hq]
      first | rfl | (simp; done) | (simp; omega)
    · have hq : p (l.getD i ([], [])) = false := hc_t16
      refine W.skip ?_
      refine W.blk_normal ?_
      refine W.then ?_
      refine W.region ?_
      first | refine W.q (Ev.add (.t rfl) .k (fun _ => by omega)) rfl ?_ | refine W.q (Ev.addw (.t rfl) .k) rfl ?_
      refine W.q (Ev.move (.t rfl)) rfl ?_
      refine W.nil ?_
      refine W.then ?_
      refine W.reach (D := []) (i + 1) ⟨rfl, rfl, rfl, rfl, trivial⟩ (List.Perm.of_eq (List.append_nil _).symm) ⟨⟨by omega, ?_⟩, by omega⟩
      rw [take_getDG ([], []) l i hlt]
      intro d hd
      cases List.mem_append.1 hd with
      | inl h => exact hi2 d h
      | inr h => rw [List.mem_singleton.1 h]; exact hq
  · rw [List.take_of_length_le (by omega)] at hi2
    have hq := any_take_false p l hi2
    refine W.seq ?_
    refine W.region ?_
    refine W.q (Ev.lti (.t rfl) (.t rfl)) rfl ?_
    refine W.nil ?_
    refine W.then ?_
    refine W.seq ?_
    refine W.is (t := 9) (g := true) (av' := .lit (.bool false)) rfl (congrArg (fun b => AV.lit (.bool b)) (by simp; omega)) ?_
    refine W.condF (.t rfl) ?_
    refine W.exit ?_
    refine W.then_exit ?_
    refine W.then_exit ?_
    refine W.blk_hit ?_
    refine W.then ?_
    refine W.seq ?_
    refine W.region ?_
    refine W.q (Ev.assign .k) rfl ?_
    refine W.nil ?_
    refine W.then ?_
    refine W.ret ?_
    refine W.retn (M' := M0) (D := []) (rs := [.tmp 4]) (avs := [_]) Try.results42 ⟨rfl, trivial⟩ rfl (List.Perm.of_eq (List.append_nil _).symm) ?_
    refine ⟨rfl, _, rfl, ?_⟩
    rw [hq]
    first | rfl | (simp; done) | (simp; omega)

theorem c_ContainsFunc (l : List Dc) (g : Nat) (caps : List Value) (M0 : List ME) (p : Dc → Bool) (hg : ∀ d ∈ l, FnC Try.prog g ([dav d] ++ caps.map .lit) M0 (fun r M => r = .bool (p d) ∧ M = M0)) (hn : l.length ≤ 1099511627776) : FnC Try.prog 33 [.sl 2 (l.map dav), .lit (.func (.func g) #[] caps.toArray)] M0 (fun r M => r = .bool (l.any p) ∧ M = M0) :=  by
  refine FnC.mk Try.func33 (by kernel_rfl) rfl Try.ntmps33 rfl (fun w0 F => ?_)
  refine W.seq ?_
  refine W.region ?_
  refine W.q (Ev.assign .k) rfl ?_
  refine W.nil ?_
  refine W.then ?_
  refine W.seq ?_
  refine W.region ?_
  refine W.q (Ev.move (.t rfl)) rfl ?_
  refine W.q (Ev.move (.t rfl)) rfl ?_
  refine W.call (c_IndexFunc l g caps M0 p hg hn) ⟨(.t rfl), (.t rfl), trivial⟩ ((List.Perm.of_eq (List.append_nil _).symm)) rfl ?_
  rintro _ M' ⟨hM, k, rfl, hk⟩
  rw [hM, List.append_nil]
  refine W.q (Ev.gei (.t rfl) .k) rfl ?_
  refine W.q (Ev.assign (.t rfl)) rfl ?_
  refine W.nil ?_
  refine W.then ?_
  refine W.ret ?_
  refine W.retn (M' := M0) (D := []) (rs := [.tmp 4]) (avs := [_]) Try.results33 ⟨rfl, trivial⟩ rfl (List.Perm.of_eq (List.append_nil _).symm) ?_
  exact ⟨congrArg AV.bool hk, rfl⟩

theorem c_Only (l : List Dc) (ns : List (List UInt8)) (hl : l.length ≤ 1048576) (hn : ns.length ≤ 40) : FnP Try.prog 16 [.sl 2 (l.map dav), .sl 1 (ns.map AV.str)] (.tup [.sl 2 ((only ns l).map dav), .int 0]) :=  by
  refine FnC.mk Try.func16 (by kernel_rfl) rfl Try.ntmps16 rfl (fun w0 F => ?_)
  have hll : (l.map dav).length = l.length := List.length_map ..
  have hnl : (ns.map AV.str).length = ns.length := List.length_map ..
  refine W.seq ?_
  refine W.region ?_
  refine W.q (Ev.assign .k) rfl ?_
  refine W.q (Ev.assign .k) rfl ?_
  refine W.nil ?_
  refine W.then ?_
  refine W.seq ?_
  refine W.seq ?_
  refine W.region ?_
  refine W.q (Ev.move (.t rfl)) rfl ?_
  first | refine W.q (Ev.lensl (.t rfl) Try.underlying25) rfl ?_ | refine W.q (Ev.lenar (i := 0) (.t rfl) rfl Try.underlying25) rfl ?_ | refine W.q (Ev.lenar (i := 1) (.t rfl) rfl Try.underlying25) rfl ?_ | refine W.q (Ev.lenar (i := 2) (.t rfl) rfl Try.underlying25) rfl ?_ | refine W.q (Ev.lenar (i := 3) (.t rfl) rfl Try.underlying25) rfl ?_
  refine W.q (Ev.gti (.t rfl) .k) rfl ?_
  refine W.nil ?_
  refine W.then ?_
  refine W.is (t := 12) (g := true) (av' := .lit (.bool false)) rfl (congrArg (fun b => AV.lit (.bool b)) (by simp; omega)) ?_
  refine W.condF (.t rfl) ?_
  refine W.skip ?_
  refine W.then ?_
  refine W.seq ?_
  refine W.region ?_
  refine W.q (Ev.assign .k) rfl ?_
  refine W.nil ?_
  refine W.then ?_
  refine W.seq ?_
  refine W.seq ?_
  refine W.region ?_
  refine W.q (Ev.move (.t rfl)) rfl ?_
  first | refine W.q (Ev.lensl (.t rfl) Try.underlying29) rfl ?_ | refine W.q (Ev.lenar (i := 0) (.t rfl) rfl Try.underlying29) rfl ?_ | refine W.q (Ev.lenar (i := 1) (.t rfl) rfl Try.underlying29) rfl ?_ | refine W.q (Ev.lenar (i := 2) (.t rfl) rfl Try.underlying29) rfl ?_ | refine W.q (Ev.lenar (i := 3) (.t rfl) rfl Try.underlying29) rfl ?_
  refine W.q (Ev.move .k) rfl ?_
  refine W.nil ?_
  refine W.then ?_
  refine W.block ?_
  refine W.own_nil 35 2 ?_
  refine W.loop (D := []) (ι := Nat × List Dc × Value) (fun z => [(15, true, .int (z.1 : Int)), (14, true, .int ((l.map dav).length : Int)), (13, true, .sl 2 (l.map dav)), (0, true, .sl 2 (l.map dav)), (1, true, .sl 1 (ns.map AV.str)), (6, true, .lit z.2.2)]) (fun z => [.arr z.2.2 35 2 (z.2.1.map dav)]) (fun z => z.1 ≤ l.length ∧ z.2.1 ++ only ns (l.drop z.1) = only ns l ∧ z.2.1.length ≤ z.1) (fun z => l.length - z.1) (0, [], .slice none 0 0) ⟨rfl, rfl, rfl, rfl, rfl, rfl, trivial⟩ (.refl _) ⟨Nat.zero_le _, by simp, by simp⟩ ?_
  rintro ⟨i, out, v⟩ ⟨hi1, hi2, hi3⟩
  dsimp only at hi1 hi2 hi3 ⊢
  rcases (show i < l.length ∨ i = l.length from by omega) with hlt | hend
  · have hga := getD_mapG dav ([], []) l i hlt
    refine W.seq ?_
    refine W.region ?_
    refine W.q (Ev.lti (.t rfl) (.t rfl)) rfl ?_
    refine W.nil ?_
    refine W.then ?_
    refine W.seq ?_
    refine W.is (t := 16) (g := true) (av' := .lit (.bool true)) rfl (congrArg (fun b => AV.lit (.bool b)) (by simp; omega)) ?_
    refine W.condT (.t rfl) ?_
    refine W.skip ?_
    refine W.then ?_
    refine W.seq ?_
    refine W.block ?_
    refine W.seq ?_
    refine W.region ?_
    refine W.q (Ev.move (.t rfl)) rfl ?_
    refine W.q (Ev.at (E := 35) (.t rfl) (.t rfl) Try.underlying29 ty35 (fun _ => ⟨by omega, hga⟩) rfl rfl) rfl ?_
    first | refine W.q (Ev.lden (.t rfl) ag35 ty35 rfl rfl) rfl ?_ | refine W.q (Ev.ldbn 0 (.t rfl) rfl ag35 ty35 rfl) rfl ?_ | refine W.q (Ev.ldbn 1 (.t rfl) rfl ag35 ty35 rfl) rfl ?_ | refine W.q (Ev.ldbn 2 (.t rfl) rfl ag35 ty35 rfl) rfl ?_ | refine W.q (Ev.ldbn 3 (.t rfl) rfl ag35 ty35 rfl) rfl ?_
    refine W.alloc ty35 rfl rfl ?_
    intro b8
    refine W.q (Ev.assign (.t rfl)) rfl ?_
    first | refine W.stb 0 (.t rfl) (.t rfl) rfl ty35 rfl rfl rfl ?_ | refine W.stb 1 (.t rfl) (.t rfl) rfl ty35 rfl rfl rfl ?_ | refine W.stb 2 (.t rfl) (.t rfl) rfl ty35 rfl rfl rfl ?_ | refine W.stb 3 (.t rfl) (.t rfl) rfl ty35 rfl rfl rfl ?_
    refine W.nil ?_
    refine W.then ?_
    refine W.seq ?_
    refine W.region ?_
    refine W.q (Ev.move (.t rfl)) rfl ?_
    refine W.q (Ev.move (.t rfl)) rfl ?_
    first | refine W.q (Ev.add (.t rfl) .k (fun _ => by omega)) rfl ?_ | refine W.q (Ev.addw (.t rfl) .k) rfl ?_
    refine W.q (Ev.subsl (lo := some (.tmp 22)) (hi := none) (.t rfl) Try.underlying29 ty35 (.t rfl) rfl (fun _ => by first | omega | (simp; omega))) rfl ?_
    refine W.q (Ev.mkfn (caps := [.tmp 8]) (vs := [_]) ⟨(.t rfl), trivial⟩) rfl ?_
    refine W.is (t := 23) (g := true) (av' := .sl 2 ((l.drop (i + 1)).map dav)) rfl (congrArg (AV.sl 2) (by rw [List.take_of_length_le (by omega), show ((i : Int) + 1).toNat = i + 1 from by omega, List.map_drop])) ?_
    refine W.call (c_ContainsFunc (l.drop (i + 1)) 34 [.pointer (some ⟨b8, 0, none⟩)] [.box b8 35 [.str (l.getD i ([], [])).1, .str (l.getD i ([], [])).2]] (fun e => e.1 == (l.getD i ([], [])).1) (fun d _ => c_Only1 (l.getD i ([], [])) d b8) (by rw [List.length_drop]; omega)) ⟨(.t rfl), (.t rfl), trivial⟩ (.refl _) rfl ?_
    rintro _ _ ⟨rfl, rfl⟩
    refine W.q (Ev.assign (.t rfl)) rfl ?_
    refine W.nil ?_
    refine W.then ?_
    refine W.seq ?_
    refine W.region ?_
    refine W.q (Ev.move (.t rfl)) rfl ?_
    first | refine W.q (Ev.fae (.t rfl) fa35_0 rfl) rfl ?_ | refine W.q (Ev.fab (.t rfl) fa35_0) rfl ?_ | refine W.q (Ev.faa (.t rfl) fa35_0) rfl ?_
    first | refine W.q (Ev.lde1 (.t rfl) ag9) rfl ?_ | refine W.q (Ev.ldb1 0 (.t rfl) rfl ag9 rfl) rfl ?_ | refine W.q (Ev.ldb1 1 (.t rfl) rfl ag9 rfl) rfl ?_ | refine W.q (Ev.ldb1 2 (.t rfl) rfl ag9 rfl) rfl ?_ | refine W.q (Ev.ldb1 3 (.t rfl) rfl ag9 rfl) rfl ?_
    refine W.callp (WLib.c_Contains ns (l.getD i ([], [])).1 (by omega)) ⟨(.t rfl), (.t rfl), trivial⟩ rfl ?_
    refine W.q (Ev.move (.t rfl)) rfl ?_
    refine W.qgT rfl rfl (Ev.move (.t rfl)) rfl ?_
    refine W.qgT rfl rfl (Ev.not (.c rfl)) rfl ?_
    refine W.q (Ev.and (.t rfl) ⟨_, _, rfl, rfl, by simp⟩) rfl ?_
    refine W.nil ?_
    refine W.then ?_
    refine W.cond (.t rfl) (fun hc_t33 => ?_) (fun hc_t33 => ?_)
    · have hst := only_step ns l i hlt
      rw [if_pos hc_t33] at hst
      refine W.region ?_
      refine W.q (Ev.move (.t rfl)) rfl ?_
      first | refine W.q (Ev.lden (.t rfl) ag35 ty35 rfl rfl) rfl ?_ | refine W.q (Ev.ldbn 0 (.t rfl) rfl ag35 ty35 rfl) rfl ?_ | refine W.q (Ev.ldbn 1 (.t rfl) rfl ag35 ty35 rfl) rfl ?_ | refine W.q (Ev.ldbn 2 (.t rfl) rfl ag35 ty35 rfl) rfl ?_ | refine W.q (Ev.ldbn 3 (.t rfl) rfl ag35 ty35 rfl) rfl ?_
      refine W.bs (es := [_]) Try.underlying29 ty35 ⟨rfl, (.t rfl), rfl, rfl, trivial⟩ rfl (by decide) rfl rfl ?_
      first | refine W.app 0 (.t rfl) rfl (.sl (.t rfl) (by simp [AV.okc, shV])) Try.underlying29 ni29 ty35 rfl rfl (by rw [List.length_map]; simp; omega) rfl ?_ | refine W.app 1 (.t rfl) rfl (.sl (.t rfl) (by simp [AV.okc, shV])) Try.underlying29 ni29 ty35 rfl rfl (by rw [List.length_map]; simp; omega) rfl ?_ | refine W.app 2 (.t rfl) rfl (.sl (.t rfl) (by simp [AV.okc, shV])) Try.underlying29 ni29 ty35 rfl rfl (by rw [List.length_map]; simp; omega) rfl ?_ | refine W.app 3 (.t rfl) rfl (.sl (.t rfl) (by simp [AV.okc, shV])) Try.underlying29 ni29 ty35 rfl rfl (by rw [List.length_map]; simp; omega) rfl ?_ | refine W.app 0 (.t rfl) rfl (.arr 0 (.t rfl) rfl (by simp [AV.okc, shV])) Try.underlying29 ni29 ty35 rfl rfl (by rw [List.length_map]; simp; omega) rfl ?_ | refine W.app 0 (.t rfl) rfl (.arr 1 (.t rfl) rfl (by simp [AV.okc, shV])) Try.underlying29 ni29 ty35 rfl rfl (by rw [List.length_map]; simp; omega) rfl ?_ | refine W.app 0 (.t rfl) rfl (.arr 2 (.t rfl) rfl (by simp [AV.okc, shV])) Try.underlying29 ni29 ty35 rfl rfl (by rw [List.length_map]; simp; omega) rfl ?_ | refine W.app 0 (.t rfl) rfl (.arr 3 (.t rfl) rfl (by simp [AV.okc, shV])) Try.underlying29 ni29 ty35 rfl rfl (by rw [List.length_map]; simp; omega) rfl ?_ | refine W.app 1 (.t rfl) rfl (.arr 0 (.t rfl) rfl (by simp [AV.okc, shV])) Try.underlying29 ni29 ty35 rfl rfl (by rw [List.length_map]; simp; omega) rfl ?_ | refine W.app 1 (.t rfl) rfl (.arr 1 (.t rfl) rfl (by simp [AV.okc, shV])) Try.underlying29 ni29 ty35 rfl rfl (by rw [List.length_map]; simp; omega) rfl ?_ | refine W.app 1 (.t rfl) rfl (.arr 2 (.t rfl) rfl (by simp [AV.okc, shV])) Try.underlying29 ni29 ty35 rfl rfl (by rw [List.length_map]; simp; omega) rfl ?_ | refine W.app 1 (.t rfl) rfl (.arr 3 (.t rfl) rfl (by simp [AV.okc, shV])) Try.underlying29 ni29 ty35 rfl rfl (by rw [List.length_map]; simp; omega) rfl ?_ | refine W.app 2 (.t rfl) rfl (.arr 0 (.t rfl) rfl (by simp [AV.okc, shV])) Try.underlying29 ni29 ty35 rfl rfl (by rw [List.length_map]; simp; omega) rfl ?_ | refine W.app 2 (.t rfl) rfl (.arr 1 (.t rfl) rfl (by simp [AV.okc, shV])) Try.underlying29 ni29 ty35 rfl rfl (by rw [List.length_map]; simp; omega) rfl ?_ | refine W.app 2 (.t rfl) rfl (.arr 2 (.t rfl) rfl (by simp [AV.okc, shV])) Try.underlying29 ni29 ty35 rfl rfl (by rw [List.length_map]; simp; omega) rfl ?_ | refine W.app 2 (.t rfl) rfl (.arr 3 (.t rfl) rfl (by simp [AV.okc, shV])) Try.underlying29 ni29 ty35 rfl rfl (by rw [List.length_map]; simp; omega) rfl ?_ | refine W.app 3 (.t rfl) rfl (.arr 0 (.t rfl) rfl (by simp [AV.okc, shV])) Try.underlying29 ni29 ty35 rfl rfl (by rw [List.length_map]; simp; omega) rfl ?_ | refine W.app 3 (.t rfl) rfl (.arr 1 (.t rfl) rfl (by simp [AV.okc, shV])) Try.underlying29 ni29 ty35 rfl rfl (by rw [List.length_map]; simp; omega) rfl ?_ | refine W.app 3 (.t rfl) rfl (.arr 2 (.t rfl) rfl (by simp [AV.okc, shV])) Try.underlying29 ni29 ty35 rfl rfl (by rw [List.length_map]; simp; omega) rfl ?_ | refine W.app 3 (.t rfl) rfl (.arr 3 (.t rfl) rfl (by simp [AV.okc, shV])) Try.underlying29 ni29 ty35 rfl rfl (by rw [List.length_map]; simp; omega) rfl ?_
      intro v37
      refine W.q (Ev.assign (.t rfl)) rfl ?_
      refine W.nil ?_
      refine W.blk_normal ?_
      refine W.then ?_
      refine W.region ?_
      first | refine W.q (Ev.add (.t rfl) .k (fun _ => by omega)) rfl ?_ | refine W.q (Ev.addw (.t rfl) .k) rfl ?_
      refine W.q (Ev.move (.t rfl)) rfl ?_
      refine W.nil ?_
      refine W.then ?_
      first
      | (refine W.reach (D := [_]) (i + 1, out, v) ⟨rfl, rfl, rfl, rfl, rfl, rfl, trivial⟩ (List.Perm.swap _ _ []) ⟨⟨?_, ?_, ?_⟩, ?_⟩
         · show i + 1 ≤ _; omega
         · show out ++ _ = _; rw [← hi2, hst]; rfl
         · show out.length ≤ i + 1; omega
         · show l.length - (i + 1) < _; omega)
      | (refine W.reach (D := [_]) (i + 1, out ++ [l.getD i ([], [])], v37) ⟨rfl, rfl, rfl, rfl, rfl, rfl, trivial⟩ (by rw [List.map_append]; exact List.Perm.swap _ _ []) ⟨⟨?_, ?_, ?_⟩, ?_⟩
         · show i + 1 ≤ _; omega
         · show (out ++ _) ++ _ = _; rw [← hi2, hst, List.append_assoc]
         · show (out ++ _).length ≤ i + 1; rw [List.length_append, List.length_singleton]; omega
         · show l.length - (i + 1) < _; omega)
    · have hst := only_step ns l i hlt
      rw [if_neg (by rw [hc_t33]; simp)] at hst
      refine W.skip ?_
      refine W.blk_normal ?_
      refine W.then ?_
      refine W.region ?_
      first | refine W.q (Ev.add (.t rfl) .k (fun _ => by omega)) rfl ?_ | refine W.q (Ev.addw (.t rfl) .k) rfl ?_
      refine W.q (Ev.move (.t rfl)) rfl ?_
      refine W.nil ?_
      refine W.then ?_
      first
      | (refine W.reach (D := [_]) (i + 1, out, v) ⟨rfl, rfl, rfl, rfl, rfl, rfl, trivial⟩ (List.Perm.swap _ _ []) ⟨⟨?_, ?_, ?_⟩, ?_⟩
         · show i + 1 ≤ _; omega
         · show out ++ _ = _; rw [← hi2, hst]; rfl
         · show out.length ≤ i + 1; omega
         · show l.length - (i + 1) < _; omega)
      | (refine W.reach (D := [_]) (i + 1, out ++ [l.getD i ([], [])], v37) ⟨rfl, rfl, rfl, rfl, rfl, rfl, trivial⟩ (by rw [List.map_append]; exact List.Perm.swap _ _ []) ⟨⟨?_, ?_, ?_⟩, ?_⟩
         · show i + 1 ≤ _; omega
         · show (out ++ _) ++ _ = _; rw [← hi2, hst, List.append_assoc]
         · show (out ++ _).length ≤ i + 1; rw [List.length_append, List.length_singleton]; omega
         · show l.length - (i + 1) < _; omega)
  · rw [List.drop_of_length_le (by omega), only, List.append_nil] at hi2
    refine W.seq ?_
    refine W.region ?_
    refine W.q (Ev.lti (.t rfl) (.t rfl)) rfl ?_
    refine W.nil ?_
    refine W.then ?_
    refine W.seq ?_
    refine W.is (t := 16) (g := true) (av' := .lit (.bool false)) rfl (congrArg (fun b => AV.lit (.bool b)) (by simp; omega)) ?_
    refine W.condF (.t rfl) ?_
    refine W.exit ?_
    refine W.then_exit ?_
    refine W.then_exit ?_
    refine W.blk_hit ?_
    refine W.then ?_
    refine W.seq ?_
    refine W.region ?_
    refine W.q (Ev.move (.t rfl)) rfl ?_
    refine W.q (Ev.assign (.t rfl)) rfl ?_
    refine W.q (Ev.assign .k) rfl ?_
    refine W.nil ?_
    refine W.then ?_
    refine W.ret ?_
    refine W.freeze (M1 := []) (M2 := []) (D := _) (v := v) (L' := [(4, true, .sl 2 (out.map dav)), (5, true, .int 0)]) (.refl _) ⟨⟨_, rfl, .one .hit⟩, ⟨_, rfl, .one (.refl _)⟩, trivial⟩ trivial ?_
    refine W.retn (M' := []) (rs := [.tmp 4, .tmp 5]) (avs := [_, _]) Try.results16 ⟨rfl, rfl, trivial⟩ rfl (.refl _) ?_
    exact ⟨by rw [← hi2]; rfl, rfl⟩

end WOnly

end Go.Proofs.Ytofmjmicgddljaa
