/-
  The law StyleJoin, walked.
-/
import Derived.Test.YtlglnmafddnmmaaDoorG7
set_option linter.unusedVariables false
set_option linter.unusedSimpArgs false
set_option maxRecDepth 100000
namespace Go.Proofs.YtlglnmafddnmmaaDoor
open Go.Vl

namespace LStyleJoin
theorem ty60 : Ty Tryd.prog 60 2 32 (.agg #[.string ⟨#[]⟩, .string ⟨#[]⟩]) := Ty.of (by kernel_rfl)
theorem ni54 : NotInt Tryd.prog 54 := .inl ⟨_, Tryd.underlying54⟩
theorem c_StyleJoin (l : List Int) (s : List UInt8) (hl : l.length ≤ 1048576) (hs : s.length ≤ 1048576) (M0 : List ME) (hC : ∀ s p : List UInt8, s.length ≤ 1048576 → FnC Tryd.prog 33 [.str s, .str p] M0 (fun r M => r = .tup [.str (Lib.cut s p).1, .str (Lib.cut s p).2.1, .bool (Lib.cut s p).2.2] ∧ M = M0)) : FnC Tryd.prog 8 [.sl 1 (l.map AV.int), .str s] M0 (fun r M => r = .bool true ∧ M = M0) :=  by
  refine FnC.mk Tryd.func8 (by kernel_rfl) rfl Tryd.ntmps8 rfl (fun w0 F => ?_)
  obtain ⟨u, hu⟩ : ∃ u, s.take (min s.length 100) = u := ⟨_, rfl⟩
  have hul : u.length ≤ 100 := by rw [← hu, List.length_take]; omega
  have hpl := Sty.parse_len u
  refine W.seq ?_
  refine W.region ?_
  refine W.q (Ev.assign .k) rfl ?_
  refine W.nil ?_
  refine W.then ?_
  refine W.seq ?_
  refine W.region ?_
  refine W.q (Ev.move (.t rfl)) rfl ?_
  refine W.call (WDecls.c_Decls l 8 (by omega) (by decide)) ⟨(.t rfl), .k, trivial⟩ (.refl _) rfl ?_
  rintro _ _ ⟨rfl, ds, rfl, hds, hdd⟩
  have hjl := Sty.join_len ds hdd
  refine W.q (Ev.assign (.t rfl)) rfl ?_
  refine W.nil ?_
  refine W.then ?_
  refine W.seq ?_
  refine W.region ?_
  refine W.q (Ev.move (.t rfl)) rfl ?_
  (refine W.appn .k (.sl (.t rfl) (Sty.okc_davs ds)) Tryd.underlying54 ni54 ty60 rfl rfl (by rw [List.length_map]; omega) rfl ?_)
  intro v17
  refine W.freezeA (M1 := _) (M2 := _) (D := []) (v := v17) (L' := [(17, true, .sl 2 (ds.map dav))]) (by rw [List.append_nil] <;> exact .refl _) ⟨⟨_, rfl, .one (.hit)⟩, trivial⟩ (FrzMs.refl _) ?_
  refine W.call (WTextS.c_Text ds (by omega) (fun d hd => (hdd d hd).nm) (fun d hd => by have := (hdd d hd).len; omega) (by omega) M0 hC) ⟨(.t rfl), trivial⟩ ((List.Perm.of_eq (List.append_nil M0).symm)) rfl ?_
  rintro r M' ⟨hor, hM'⟩
  rw [hM', List.append_nil]
  obtain rfl : r = .tup [.str (Ex.joinW [59, 32] (ds.map Sty.dtx)), .int 0] := by
    rcases hor with ⟨⟨d, hd, hb⟩, _⟩ | ⟨_, h⟩
    · exact absurd (hdd d hd).self hb
    · exact h
  refine W.q (Ev.move (.t rfl)) rfl ?_
  refine W.q (Ev.extract (.t rfl) rfl) rfl ?_
  refine W.q (Ev.extract (.t rfl) rfl) rfl ?_
  refine W.q (Ev.assign (.t rfl)) rfl ?_
  refine W.q (Ev.assign (.t rfl)) rfl ?_
  refine W.nil ?_
  refine W.then ?_
  refine W.seq ?_
  refine W.region ?_
  refine W.q (Ev.move (.t rfl)) rfl ?_
  refine W.q (Ev.move (.t rfl)) rfl ?_
  refine W.q (Ev.lens (.t rfl) Tryd.underlying9) rfl ?_
  refine W.q (Ev.min (.t rfl) .k) rfl ?_
  refine W.is (t := 24) (g := true) (av' := .int ((min s.length 100 : Nat) : Int)) rfl (congrArg AV.int (by split <;> omega)) ?_
  refine W.q (Ev.subs (lo := none) (hi := some (.tmp 24)) (.t rfl) Tryd.underlying9 rfl (.t rfl) (fun _ => ⟨by decide, by omega, by omega⟩)) rfl ?_
  refine W.is (t := 25) (g := true) (av' := .str u) rfl (congrArg AV.str (by rw [← hu]; simp)) ?_
  refine W.q (Ev.assign (.t rfl)) rfl ?_
  refine W.nil ?_
  refine W.then ?_
  refine W.seq ?_
  refine W.region ?_
  refine W.q (Ev.move (.t rfl)) rfl ?_
  refine W.q (Ev.cat (.t rfl) .k (fun _ => by simp only [List.length_cons, List.length_nil]; omega)) rfl ?_
  refine W.q (Ev.move (.t rfl)) rfl ?_
  refine W.q (Ev.cat (.t rfl) (.t rfl) (fun _ => by rw [List.length_append]; simp only [List.length_cons, List.length_nil]; omega)) rfl ?_
  refine W.call (WStyled.c_styled ((Ex.joinW [59, 32] (ds.map Sty.dtx)) ++ [59] ++ u) (by rw [List.length_append, List.length_append]; simp only [List.length_cons, List.length_nil]; omega) M0 hC) ⟨(.t rfl), trivial⟩ ((List.Perm.of_eq (List.append_nil M0).symm)) rfl ?_
  rintro _ M' ⟨rfl, hM'⟩
  rw [hM', List.append_nil, Sty.parse_join ds hdd u]
  refine W.q (Ev.move (.t rfl)) rfl ?_
  refine W.q (Ev.extract (.t rfl) rfl) rfl ?_
  refine W.q (Ev.extract (.t rfl) rfl) rfl ?_
  refine W.q (Ev.assign (.t rfl)) rfl ?_
  refine W.q (Ev.assign (.t rfl)) rfl ?_
  refine W.nil ?_
  refine W.then ?_
  refine W.seq ?_
  refine W.region ?_
  refine W.q (Ev.move (.t rfl)) rfl ?_
  refine W.call (WStyled.c_styled u (by omega) M0 hC) ⟨(.t rfl), trivial⟩ ((List.Perm.of_eq (List.append_nil M0).symm)) rfl ?_
  rintro _ M' ⟨rfl, hM'⟩
  rw [hM', List.append_nil]
  refine W.q (Ev.move (.t rfl)) rfl ?_
  refine W.q (Ev.extract (.t rfl) rfl) rfl ?_
  refine W.q (Ev.extract (.t rfl) rfl) rfl ?_
  refine W.q (Ev.assign (.t rfl)) rfl ?_
  refine W.q (Ev.assign (.t rfl)) rfl ?_
  refine W.nil ?_
  refine W.then ?_
  refine W.seq ?_
  refine W.region ?_
  refine W.q (Ev.move (.t rfl)) rfl ?_
  refine W.q (Ev.eqi (.t rfl) .k) rfl ?_
  refine W.is (t := 40) (g := true) (av' := .bool true) rfl (congrArg AV.bool (rfl)) ?_
  refine W.q (Ev.move (.t rfl)) rfl ?_
  refine W.gyes rfl rfl ?_
  refine W.q (Ev.move (.t rfl)) rfl ?_
  refine W.q (Ev.and (.t rfl) ⟨_, _, rfl, rfl, by ((simp; done))⟩) rfl ?_
  refine W.is (t := 43) (g := true) (av' := .bool true) rfl (congrArg AV.bool (rfl)) ?_
  refine W.q (Ev.move (.t rfl)) rfl ?_
  refine W.gyes rfl rfl ?_
  refine W.q (Ev.move (.t rfl)) rfl ?_
  refine W.q (Ev.and (.t rfl) ⟨_, _, rfl, rfl, by ((simp; done))⟩) rfl ?_
  refine W.is (t := 46) (g := true) (av' := .bool true) rfl (congrArg AV.bool (rfl)) ?_
  refine W.q (Ev.move (.t rfl)) rfl ?_
  refine W.gyes rfl rfl ?_
  refine W.q (Ev.move (.t rfl)) rfl ?_
  refine W.gyes rfl rfl ?_
  refine W.q (Ev.move (.t rfl)) rfl ?_
  refine W.gyes rfl rfl ?_
  (refine W.appn .k (.sl (.t rfl) (Sty.okc_davs ds)) Tryd.underlying54 ni54 ty60 rfl rfl (by rw [List.length_map]; omega) rfl ?_)
  intro v50
  refine W.gyes rfl rfl ?_
  refine W.q (Ev.move (.t rfl)) rfl ?_
  refine W.gyes rfl rfl ?_
  (refine W.app 0 (.t rfl) rfl (.sl (.t rfl) (Sty.okc_davs (Sty.parse u))) Tryd.underlying54 ni54 ty60 rfl rfl (by rw [List.length_map, List.length_map]; omega) rfl ?_)
  intro v52
  refine W.freezeA (M1 := _) (M2 := _) (D := []) (v := v52) (L' := [(52, true, .sl 2 ((ds ++ Sty.parse u).map dav))]) (by rw [List.append_nil] <;> exact .refl _) ⟨⟨_, rfl, .one (by rw [List.map_append]; exact .hit)⟩, trivial⟩ (FrzMs.refl _) ?_
  refine W.gyes rfl rfl ?_
  refine W.callp (WEqD.c_sameD (ds ++ Sty.parse u) (ds ++ Sty.parse u) (by rw [List.length_append]; omega)) ⟨(.t rfl), (.t rfl), trivial⟩ rfl ?_
  refine W.q (Ev.and (.t rfl) ⟨_, _, rfl, rfl, by ((simp; done))⟩) rfl ?_
  refine W.q (Ev.assign (.t rfl)) rfl ?_
  refine W.nil ?_
  refine W.then ?_
  refine W.ret ?_
  refine W.retn (M' := M0) (D := []) (rs := [.tmp 4]) (avs := [_]) Tryd.results8 ⟨rfl, trivial⟩ rfl (List.Perm.of_eq (List.append_nil M0).symm) ?_
  exact ⟨congrArg AV.bool (by simp), rfl⟩

end LStyleJoin

end Go.Proofs.YtlglnmafddnmmaaDoor
