/-
  The law StyleClean, walked.
-/
import Derived.Test.YtlglnmafddnmmaaDoorG7
set_option linter.unusedVariables false
set_option linter.unusedSimpArgs false
set_option maxRecDepth 100000
namespace Go.Proofs.YtlglnmafddnmmaaDoor
open Go.Vl

namespace LStyleClean
theorem ty9 : Ty Tryd.prog 9 1 16 (.string ⟨#[]⟩) := Ty.of (by kernel_rfl)
theorem ty60 : Ty Tryd.prog 60 2 32 (.agg #[.string ⟨#[]⟩, .string ⟨#[]⟩]) := Ty.of (by kernel_rfl)
theorem ag9 : IsAgg Tryd.prog 9 false := ⟨_, Tryd.underlying9, rfl⟩
theorem fa60_0 : FieldAt Tryd.prog 60 0 0 1 false := ⟨_, _, Tryd.underlying60, rfl, rfl, ty9.size, ag9, by decide⟩
theorem fa60_1 : FieldAt Tryd.prog 60 1 1 1 false := ⟨_, _, Tryd.underlying60, rfl, rfl, ty9.size, ag9, by decide⟩
theorem c_StyleClean (s : List UInt8) (hs : s.length ≤ 1048576) (M0 : List ME) (hC : ∀ s p : List UInt8, s.length ≤ 1048576 → FnC Tryd.prog 33 [.str s, .str p] M0 (fun r M => r = .tup [.str (Lib.cut s p).1, .str (Lib.cut s p).2.1, .bool (Lib.cut s p).2.2] ∧ M = M0)) : FnC Tryd.prog 9 [.str s] M0 (fun r M => r = .bool true ∧ M = M0) :=  by
  refine FnC.mk Tryd.func9 (by kernel_rfl) rfl Tryd.ntmps9 rfl (fun w0 F => ?_)
  obtain ⟨u, hu⟩ : ∃ u, s.take (min s.length 200) = u := ⟨_, rfl⟩
  have hul : u.length ≤ 200 := by rw [← hu, List.length_take]; omega
  have hpg := Sty.parse_good u
  have hpl := Sty.parse_len u
  obtain ⟨l, hl⟩ : ∃ l, Sty.parse u = l := ⟨_, rfl⟩
  rw [hl] at hpg hpl
  have hml : (l.map dav).length = l.length := List.length_map ..
  refine W.seq ?_
  refine W.region ?_
  refine W.q (Ev.assign .k) rfl ?_
  refine W.nil ?_
  refine W.then ?_
  refine W.seq ?_
  refine W.region ?_
  refine W.q (Ev.move (.t rfl)) rfl ?_
  refine W.q (Ev.move (.t rfl)) rfl ?_
  refine W.q (Ev.lens (.t rfl) Tryd.underlying9) rfl ?_
  refine W.q (Ev.min (.t rfl) .k) rfl ?_
  refine W.is (t := 15) (g := true) (av' := .int ((min s.length 200 : Nat) : Int)) rfl (congrArg AV.int (by split <;> omega)) ?_
  refine W.q (Ev.subs (lo := none) (hi := some (.tmp 15)) (.t rfl) Tryd.underlying9 rfl (.t rfl) (fun _ => ⟨by decide, by omega, by omega⟩)) rfl ?_
  refine W.is (t := 16) (g := true) (av' := .str u) rfl (congrArg AV.str (by rw [← hu]; simp)) ?_
  refine W.call (WStyled.c_styled u (by omega) M0 hC) ⟨(.t rfl), trivial⟩ ((List.Perm.of_eq (List.append_nil M0).symm)) rfl ?_
  rintro _ M' ⟨rfl, hM'⟩
  rw [hM', List.append_nil, hl]
  refine W.q (Ev.move (.t rfl)) rfl ?_
  refine W.q (Ev.extract (.t rfl) rfl) rfl ?_
  refine W.q (Ev.extract (.t rfl) rfl) rfl ?_
  refine W.q (Ev.assign (.t rfl)) rfl ?_
  refine W.q (Ev.assign (.t rfl)) rfl ?_
  refine W.nil ?_
  refine W.then ?_
  refine W.seq ?_
  refine W.seq ?_
  refine W.region ?_
  refine W.q (Ev.move (.t rfl)) rfl ?_
  refine W.q (Ev.not (.t rfl)) rfl ?_
  refine W.nil ?_
  refine W.then ?_
  refine W.is (t := 21) (g := true) (av' := .lit (.bool false)) rfl (congrArg (fun b => AV.lit (.bool b)) (by rfl)) ?_
  refine W.condF (.t rfl) ?_
  refine W.skip ?_
  refine W.then ?_
  refine W.seq ?_
  refine W.seq ?_
  refine W.region ?_
  refine W.q (Ev.assign .k) rfl ?_
  refine W.nil ?_
  refine W.then ?_
  refine W.block ?_
  refine W.loop (D := []) (ι := Nat) (fun i => [(5, true, .int (i : Int)), (3, true, .sl 2 (l.map dav))]) (fun i => M0) (fun i => i ≤ l.length) (fun i => l.length - i) 0 ⟨rfl, rfl, trivial⟩ (List.Perm.of_eq (List.append_nil M0).symm) (Nat.zero_le _) ?_
  intro i hi
  dsimp only at hi ⊢
  rcases (show i < l.length ∨ i = l.length from by omega) with hlt | hend
  · have hga := getD_mapG dav ([], []) l i hlt
    have hg := hpg _ (getD_memG ([], []) l i hlt)
    obtain ⟨d, hd⟩ : ∃ d, l.getD i ([], []) = d := ⟨_, rfl⟩
    rw [hd] at hga hg
    have hnl := Sty.name_len hg.name
    have hnm := Sty.name_ne hg.name
    have hvl := hg.len
    have hv0 := List.length_pos_iff.2 hg.val
    have hh := Sty.head_ne hg
    have hla := Sty.last_ne hg
    have hdl : (Sty.dtx d).length = d.1.length + 2 + d.2.length := by show ((d.1 ++ [58, 32]) ++ d.2).length = _; rw [List.length_append, List.length_append]; rfl
    refine W.seq ?_
    refine W.seq ?_
    refine W.region ?_
    refine W.q (Ev.move (.t rfl)) rfl ?_
    refine W.q (Ev.move (.t rfl)) rfl ?_
    (refine W.q (Ev.lensl (.t rfl) Tryd.underlying54) rfl ?_)
    refine W.q (Ev.lti (.t rfl) (.t rfl)) rfl ?_
    refine W.nil ?_
    refine W.then ?_
    refine W.is (t := 25) (g := true) (av' := .lit (.bool true)) rfl (congrArg (fun b => AV.lit (.bool b)) (by exact decide_eq_true (by omega))) ?_
    refine W.condT (.t rfl) ?_
    refine W.skip ?_
    refine W.then ?_
    refine W.seq ?_
    refine W.block ?_
    refine W.seq ?_
    refine W.region ?_
    refine W.q (Ev.move (.t rfl)) rfl ?_
    refine W.q (Ev.move (.t rfl)) rfl ?_
    refine W.q (Ev.at (E := 60) (e := dav d) (.t rfl) (.t rfl) Tryd.underlying54 ty60 (fun _ => ⟨by omega, hga⟩) rfl rfl) rfl ?_
    (refine W.q (Ev.fae (.t rfl) fa60_1 rfl) rfl ?_)
    (refine W.q (Ev.lde1 (.t rfl) ag9) rfl ?_)
    refine W.q (Ev.assign (.t rfl)) rfl ?_
    refine W.nil ?_
    refine W.then ?_
    refine W.seq ?_
    refine W.seq ?_
    refine W.region ?_
    refine W.q (Ev.move (.t rfl)) rfl ?_
    refine W.q (Ev.move (.t rfl)) rfl ?_
    refine W.q (Ev.at (E := 60) (e := dav d) (.t rfl) (.t rfl) Tryd.underlying54 ty60 (fun _ => ⟨by omega, hga⟩) rfl rfl) rfl ?_
    (refine W.q (Ev.fae (.t rfl) fa60_0 rfl) rfl ?_)
    (refine W.q (Ev.lde1 (.t rfl) ag9) rfl ?_)
    refine W.q (Ev.eqs (.t rfl) .k) rfl ?_
    refine W.is (t := 38) (g := true) (av' := .bool false) rfl (congrArg AV.bool (beq_eq_false_iff_ne.2 hnm)) ?_
    refine W.q (Ev.move (.t rfl)) rfl ?_
    refine W.gyes rfl rfl ?_
    refine W.q (Ev.move (.t rfl)) rfl ?_
    refine W.gyes rfl rfl ?_
    refine W.q (Ev.move (.t rfl)) rfl ?_
    refine W.gyes rfl rfl ?_
    refine W.q (Ev.at (E := 60) (e := dav d) (.t rfl) (.t rfl) Tryd.underlying54 ty60 (fun _ => ⟨by omega, hga⟩) rfl rfl) rfl ?_
    refine W.gyes rfl rfl ?_
    (refine W.q (Ev.fae (.t rfl) fa60_0 rfl) rfl ?_)
    refine W.gyes rfl rfl ?_
    (refine W.q (Ev.lde1 (.t rfl) ag9) rfl ?_)
    refine W.gyes rfl rfl ?_
    refine W.q (Ev.lens (.t rfl) Tryd.underlying9) rfl ?_
    refine W.gyes rfl rfl ?_
    refine W.q (Ev.gti (.t rfl) .k) rfl ?_
    refine W.is (t := 46) (g := true) (av' := .bool false) rfl (congrArg AV.bool (decide_eq_false (by omega))) ?_
    refine W.q (Ev.or (.t rfl) ⟨_, _, rfl, rfl, by ((simp; done))⟩) rfl ?_
    refine W.is (t := 47) (g := true) (av' := .bool false) rfl (congrArg AV.bool (rfl)) ?_
    refine W.q (Ev.move (.t rfl)) rfl ?_
    refine W.gyes rfl rfl ?_
    refine W.q (Ev.move (.t rfl)) rfl ?_
    refine W.gyes rfl rfl ?_
    refine W.q (Ev.eqs (.t rfl) .k) rfl ?_
    refine W.is (t := 50) (g := true) (av' := .bool false) rfl (congrArg AV.bool (beq_eq_false_iff_ne.2 hg.val)) ?_
    refine W.q (Ev.or (.t rfl) ⟨_, _, rfl, rfl, by ((simp; done))⟩) rfl ?_
    refine W.is (t := 51) (g := true) (av' := .bool false) rfl (congrArg AV.bool (rfl)) ?_
    refine W.q (Ev.move (.t rfl)) rfl ?_
    refine W.gyes rfl rfl ?_
    refine W.q (Ev.move (.t rfl)) rfl ?_
    refine W.gyes rfl rfl ?_
    refine W.q (Ev.ats' (.t rfl) .k Tryd.underlying9 (fun hg => by omega)) rfl ?_
    refine W.gyes rfl rfl ?_
    refine W.q (Ev.eqi (.t rfl) .k) rfl ?_
    refine W.is (t := 55) (g := true) (av' := .bool false) rfl (congrArg AV.bool (Sty.u8_no (by simpa using hh))) ?_
    refine W.q (Ev.or (.t rfl) ⟨_, _, rfl, rfl, by ((simp; done))⟩) rfl ?_
    refine W.is (t := 56) (g := true) (av' := .bool false) rfl (congrArg AV.bool (rfl)) ?_
    refine W.q (Ev.move (.t rfl)) rfl ?_
    refine W.gyes rfl rfl ?_
    refine W.q (Ev.move (.t rfl)) rfl ?_
    refine W.gyes rfl rfl ?_
    refine W.q (Ev.move (.t rfl)) rfl ?_
    refine W.gyes rfl rfl ?_
    refine W.q (Ev.lens (.t rfl) Tryd.underlying9) rfl ?_
    refine W.gyes rfl rfl ?_
    (refine W.q (Ev.sub (.t rfl) .k (fun _ => by omega)) rfl ?_)
    refine W.gyes rfl rfl ?_
    refine W.q (Ev.ats' (.t rfl) (.t rfl) Tryd.underlying9 (fun hg => by omega)) rfl ?_
    refine W.gyes rfl rfl ?_
    refine W.q (Ev.eqi (.t rfl) .k) rfl ?_
    refine W.is (t := 63) (g := true) (av' := .bool false) rfl (congrArg AV.bool (Sty.u8_no (by simpa using hla))) ?_
    refine W.q (Ev.or (.t rfl) ⟨_, _, rfl, rfl, by ((simp; done))⟩) rfl ?_
    refine W.is (t := 64) (g := true) (av' := .bool false) rfl (congrArg AV.bool (rfl)) ?_
    refine W.nil ?_
    refine W.then ?_
    refine W.is (t := 64) (g := true) (av' := .lit (.bool false)) rfl (congrArg (fun b => AV.lit (.bool b)) (by rfl)) ?_
    refine W.condF (.t rfl) ?_
    refine W.skip ?_
    refine W.then ?_
    refine W.seq ?_
    refine W.region ?_
    refine W.q (Ev.move (.t rfl)) rfl ?_
    refine W.q (Ev.move (.t rfl)) rfl ?_
    refine W.q (Ev.move (.t rfl)) rfl ?_
    (refine W.q (Ev.add (.t rfl) .k (fun _ => by omega)) rfl ?_)
    refine W.q (Ev.subsl (lo := some (.tmp 67)) (hi := some (.tmp 69)) (.t rfl) Tryd.underlying54 ty60 (.t rfl) (.t rfl) (fun _ => by (omega))) rfl ?_
    refine W.is (t := 70) (g := true) (av' := .sl 2 ([d].map dav)) rfl (congrArg (AV.sl 2) (Sty.one_sl l i hlt hd)) ?_
    refine W.call (WTextS.c_Text [d] (by simp) (fun x hx => by rw [List.mem_singleton.1 hx]; exact hg.name) (fun x hx => by rw [List.mem_singleton.1 hx]; omega) (by show (Sty.dtx d).length ≤ 600; omega) M0 hC) ⟨(.t rfl), trivial⟩ ((List.Perm.of_eq (List.append_nil M0).symm)) rfl ?_
    rintro r M' ⟨hor, hM'⟩
    rw [hM', List.append_nil]
    obtain ⟨x, cd, rfl, hxc⟩ : ∃ (x : List UInt8) (cd : Int), r = AV.tup [.str x, .int cd] ∧ (cd = 0 ∧ x = Sty.dtx d ∧ Sty.parse (Sty.dtx d) = [d] ∨ cd = 4) := by
      rcases hor with ⟨_, rfl⟩ | ⟨h, rfl⟩
      · exact ⟨[], 4, rfl, .inr rfl⟩
      · exact ⟨_, 0, rfl, .inl ⟨rfl, rfl, h d List.mem_cons_self⟩⟩
    refine W.q (Ev.move (.t rfl)) rfl ?_
    refine W.q (Ev.extract (.t rfl) rfl) rfl ?_
    refine W.q (Ev.extract (.t rfl) rfl) rfl ?_
    refine W.q (Ev.assign (.t rfl)) rfl ?_
    refine W.q (Ev.assign (.t rfl)) rfl ?_
    refine W.nil ?_
    refine W.then ?_
    refine W.seq ?_
    refine W.seq ?_
    refine W.region ?_
    refine W.q (Ev.move (.t rfl)) rfl ?_
    refine W.q (Ev.nei (.t rfl) .k) rfl ?_
    refine W.nil ?_
    refine W.then ?_
    refine W.cond (.t rfl) (fun hc_t75 => ?_) (fun hc_t75 => ?_)
    · have hc4 : cd = 4 := by rcases hxc with ⟨h, _⟩ | h; rw [h] at hc_t75; simp at hc_t75; exact h
      refine W.seq ?_
      refine W.seq ?_
      refine W.region ?_
      refine W.q (Ev.move (.t rfl)) rfl ?_
      refine W.q (Ev.nei (.t rfl) .k) rfl ?_
      refine W.nil ?_
      refine W.then ?_
      refine W.is (t := 77) (g := true) (av' := .lit (.bool false)) rfl (congrArg (fun b => AV.lit (.bool b)) (by rw [hc4]; rfl)) ?_
      refine W.condF (.t rfl) ?_
      refine W.skip ?_
      refine W.then ?_
      refine W.exit ?_
      refine W.then_exit ?_
      refine W.blk_hit ?_
      refine W.then ?_
      refine W.region ?_
      refine W.q (Ev.move (.t rfl)) rfl ?_
      (refine W.q (Ev.add (.t rfl) .k (fun _ => by omega)) rfl ?_)
      refine W.q (Ev.assign (.t rfl)) rfl ?_
      refine W.nil ?_
      refine W.then ?_
      refine W.reach (D := []) (i + 1) ⟨rfl, rfl, trivial⟩ (List.Perm.of_eq (List.append_nil M0).symm) ⟨hlt, by show l.length - (i + 1) < l.length - i; omega⟩
    · have hc0 : x = Sty.dtx d ∧ Sty.parse (Sty.dtx d) = [d] := by rcases hxc with ⟨_, h⟩ | h; exact h; rw [h] at hc_t75; simp at hc_t75
      obtain ⟨hx, hpx⟩ := hc0
      refine W.skip ?_
      refine W.then ?_
      refine W.seq ?_
      refine W.region ?_
      refine W.q (Ev.move (.t rfl)) rfl ?_
      refine W.call (WStyled.c_styled x (by rw [hx]; omega) M0 hC) ⟨(.t rfl), trivial⟩ ((List.Perm.of_eq (List.append_nil M0).symm)) rfl ?_
      rintro _ M' ⟨rfl, hM'⟩
      rw [hM', List.append_nil, hx, hpx]
      refine W.q (Ev.move (.t rfl)) rfl ?_
      refine W.q (Ev.extract (.t rfl) rfl) rfl ?_
      refine W.q (Ev.extract (.t rfl) rfl) rfl ?_
      refine W.q (Ev.assign (.t rfl)) rfl ?_
      refine W.q (Ev.assign (.t rfl)) rfl ?_
      refine W.nil ?_
      refine W.then ?_
      refine W.seq ?_
      refine W.region ?_
      refine W.q (Ev.move (.t rfl)) rfl ?_
      refine W.q (Ev.not (.t rfl)) rfl ?_
      refine W.q (Ev.move (.t rfl)) rfl ?_
      refine W.gyes rfl rfl ?_
      refine W.q (Ev.move (.t rfl)) rfl ?_
      refine W.gyes rfl rfl ?_
      refine W.q (Ev.move (.t rfl)) rfl ?_
      refine W.gyes rfl rfl ?_
      refine W.q (Ev.move (.t rfl)) rfl ?_
      refine W.gyes rfl rfl ?_
      refine W.q (Ev.move (.t rfl)) rfl ?_
      refine W.gyes rfl rfl ?_
      (refine W.q (Ev.add (.t rfl) .k (fun _ => by omega)) rfl ?_)
      refine W.gyes rfl rfl ?_
      refine W.q (Ev.subsl (lo := some (.tmp 88)) (hi := some (.tmp 90)) (.t rfl) Tryd.underlying54 ty60 (.t rfl) (.t rfl) (fun _ => by (omega))) rfl ?_
      refine W.is (t := 91) (g := true) (av' := .sl 2 ([d].map dav)) rfl (congrArg (AV.sl 2) (Sty.one_sl l i hlt hd)) ?_
      refine W.gyes rfl rfl ?_
      refine W.callp (WEqD.c_sameD [d] [d] (by simp)) ⟨(.t rfl), (.t rfl), trivial⟩ rfl ?_
      refine W.gyes rfl rfl ?_
      refine W.q (Ev.not (.t rfl)) rfl ?_
      refine W.q (Ev.or (.t rfl) ⟨_, _, rfl, rfl, by ((simp; done))⟩) rfl ?_
      refine W.nil ?_
      refine W.then ?_
      refine W.is (t := 94) (g := true) (av' := .lit (.bool false)) rfl (congrArg (fun b => AV.lit (.bool b)) (by simp)) ?_
      refine W.condF (.t rfl) ?_
      refine W.skip ?_
      refine W.blk_normal ?_
      refine W.then ?_
      refine W.region ?_
      refine W.q (Ev.move (.t rfl)) rfl ?_
      (refine W.q (Ev.add (.t rfl) .k (fun _ => by omega)) rfl ?_)
      refine W.q (Ev.assign (.t rfl)) rfl ?_
      refine W.nil ?_
      refine W.then ?_
      refine W.reach (D := []) (i + 1) ⟨rfl, rfl, trivial⟩ (List.Perm.of_eq (List.append_nil M0).symm) ⟨hlt, by show l.length - (i + 1) < l.length - i; omega⟩
  · skip
    refine W.seq ?_
    refine W.seq ?_
    refine W.region ?_
    refine W.q (Ev.move (.t rfl)) rfl ?_
    refine W.q (Ev.move (.t rfl)) rfl ?_
    (refine W.q (Ev.lensl (.t rfl) Tryd.underlying54) rfl ?_)
    refine W.q (Ev.lti (.t rfl) (.t rfl)) rfl ?_
    refine W.nil ?_
    refine W.then ?_
    refine W.is (t := 25) (g := true) (av' := .lit (.bool false)) rfl (congrArg (fun b => AV.lit (.bool b)) (by exact decide_eq_false (by omega))) ?_
    refine W.condF (.t rfl) ?_
    refine W.exit ?_
    refine W.then_exit ?_
    refine W.then_exit ?_
    refine W.blk_hit ?_
    refine W.then ?_
    refine W.seq ?_
    refine W.region ?_
    refine W.q (Ev.assign .k) rfl ?_
    refine W.nil ?_
    refine W.then ?_
    refine W.ret ?_
    refine W.retn (M' := M0) (D := []) (rs := [.tmp 2]) (avs := [_]) Tryd.results9 ⟨rfl, trivial⟩ rfl (List.Perm.of_eq (List.append_nil M0).symm) ?_
    exact ⟨rfl, rfl⟩

end LStyleClean

end Go.Proofs.YtlglnmafddnmmaaDoor
