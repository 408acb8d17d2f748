/-
  The law RulesTwice, walked.
-/
import Derived.Test.YteepllfbnoaiaaaWRulesOf
import Derived.Test.YteepllfbnoaiaaaWApply
import Derived.Test.YteepllfbnoaiaaaWSame
import Derived.Test.YteepllfbnoaiaaaWNodes
import Derived.Test.YteepllfbnoaiaaaPick
set_option linter.unusedVariables false
set_option linter.unusedSimpArgs false
set_option maxRecDepth 100000
namespace Go.Proofs.Yteepllfbnoaiaaa
open Go.Vl

namespace LRulesTwice
theorem ty3 : Ty Try.prog 3 1 8 (.int .i64 0) := Ty.of (by kernel_rfl)
theorem ty9 : Ty Try.prog 9 1 16 (.string ⟨#[]⟩) := Ty.of (by kernel_rfl)
theorem ty51 : Ty Try.prog 51 3 40 (.agg #[.string ⟨#[]⟩, .int .i64 0, .string ⟨#[]⟩]) := Ty.of (by kernel_rfl)
theorem ag3 : IsAgg Try.prog 3 false := ⟨_, Try.underlying3, rfl⟩
theorem ag9 : IsAgg Try.prog 9 false := ⟨_, Try.underlying9, rfl⟩
theorem fa51_0 : FieldAt Try.prog 51 0 0 1 false := ⟨_, _, Try.underlying51, rfl, rfl, ty9.size, ag9, by decide⟩
theorem fa51_1 : FieldAt Try.prog 51 1 1 1 false := ⟨_, _, Try.underlying51, rfl, rfl, ty3.size, ag3, by decide⟩
theorem fa51_2 : FieldAt Try.prog 51 2 2 1 false := ⟨_, _, Try.underlying51, rfl, rfl, ty9.size, ag9, by decide⟩
theorem c_RulesTwice (l0 l : List Int) (hl0 : l0.length ≤ 1048576) (hl : l.length ≤ 1048576) : FnP Try.prog 9 [.sl 1 (l0.map AV.int), .sl 1 (l.map AV.int)] (.bool true) :=  by
  refine FnC.mk Try.func9 (by kernel_rfl) rfl Try.ntmps9 rfl (fun w0 F => ?_)
  refine W.seq ?_
  refine W.region ?_
  refine W.q (Ev.assign .k) rfl ?_
  refine W.nil ?_
  refine W.then ?_
  refine W.seq ?_
  refine W.region ?_
  refine W.q (Ev.move (.t rfl)) rfl ?_
  refine W.call (WRulesOf.c_RulesOf l0 (by omega)) ⟨(.t rfl), trivial⟩ (.refl _) rfl ?_
  rintro _ _ ⟨v14, rs, rfl, rfl, hdr⟩
  have hrm : (rs.map rav).length = rs.length := List.length_map ..
  have hr6 := Rl.drawn_len hdr
  refine W.q (Ev.assign (.t rfl)) rfl ?_
  refine W.nil ?_
  refine W.then ?_
  refine W.seq ?_
  refine W.seq ?_
  refine W.region ?_
  refine W.q (Ev.assign .k) rfl ?_
  refine W.nil ?_
  refine W.then ?_
  refine W.block ?_
  refine W.loop (D := []) (ι := Nat) (fun i => [(6, true, .int (i : Int)), (5, true, .lit v14), (1, true, .sl 1 (l.map AV.int))]) (fun i => [.arr v14 51 3 ((upto Rl.tn rs i).map rav)]) (fun i => i ≤ rs.length) (fun i => rs.length - i) 0 ⟨rfl, rfl, rfl, trivial⟩ (by rw [upto_zero] <;> exact .refl _) (Nat.zero_le _) ?_
  intro i hi
  dsimp only at hi ⊢
  have hul : ((upto Rl.tn rs i).map rav).length = rs.length := by rw [List.length_map, upto_len _ _ _ hi]
  rcases (show i < rs.length ∨ i = rs.length from by omega) with hlt | hend
  · have hga := upto_at Rl.tn Rl.dfl rav rs i hlt
    have hst := upto_set Rl.tn Rl.dfl rav rs i hlt
    generalize rs.getD i Rl.dfl = r at hga hst
    refine W.seq ?_
    refine W.seq ?_
    refine W.region ?_
    refine W.q (Ev.move (.t rfl)) rfl ?_
    refine W.q (Ev.move (.t rfl)) rfl ?_
    first | refine W.q (Ev.lensl (.t rfl) Try.underlying46) rfl ?_ | refine W.q (Ev.lenar (i := 0) (.t rfl) rfl Try.underlying46) rfl ?_ | refine W.q (Ev.lenar (i := 1) (.t rfl) rfl Try.underlying46) rfl ?_ | refine W.q (Ev.lenar (i := 2) (.t rfl) rfl Try.underlying46) rfl ?_ | refine W.q (Ev.lenar (i := 3) (.t rfl) rfl Try.underlying46) rfl ?_
    refine W.q (Ev.lti (.t rfl) (.t rfl)) rfl ?_
    refine W.nil ?_
    refine W.then ?_
    refine W.is (t := 18) (g := true) (av' := .lit (.bool true)) rfl (congrArg (fun b => AV.lit (.bool b)) (by exact decide_eq_true (by omega))) ?_
    refine W.condT (.t rfl) ?_
    refine W.skip ?_
    refine W.then ?_
    refine W.seq ?_
    refine W.block ?_
    refine W.seq ?_
    refine W.region ?_
    refine W.q (Ev.move (.t rfl)) rfl ?_
    refine W.q (Ev.move (.t rfl)) rfl ?_
    refine W.q (Ev.ata 0 (.t rfl) rfl (.t rfl) Try.underlying46 ty51 (fun _ => by omega)) rfl ?_
    first | refine W.q (Ev.fae (.t rfl) fa51_1 rfl) rfl ?_ | refine W.q (Ev.fab (.t rfl) fa51_1) rfl ?_ | refine W.q (Ev.faa (.t rfl) fa51_1) rfl ?_
    refine W.q (Ev.lda1 0 i 1 (e := rav r) (.t rfl) rfl hga (by omega) rfl rfl rfl ag3) rfl ?_
    refine W.q (Ev.eqi (.t rfl) .k) rfl ?_
    refine W.nil ?_
    refine W.then ?_
    refine W.cond (.t rfl) (fun hc_t26 => ?_) (fun hc_t26 => ?_)
    · have ha1 : r.act = 1 := beq_iff_eq.1 hc_t26
      refine W.region ?_
      refine W.q (Ev.move (.t rfl)) rfl ?_
      refine W.q (Ev.move (.t rfl)) rfl ?_
      refine W.q (Ev.move (.t rfl)) rfl ?_
      refine W.q (Ev.move (.t rfl)) rfl ?_
      refine W.q (Ev.ata 0 (.t rfl) rfl (.t rfl) Try.underlying46 ty51 (fun _ => by omega)) rfl ?_
      first | refine W.q (Ev.fae (.t rfl) fa51_0 rfl) rfl ?_ | refine W.q (Ev.fab (.t rfl) fa51_0) rfl ?_ | refine W.q (Ev.faa (.t rfl) fa51_0) rfl ?_
      refine W.q (Ev.lda1 0 i 0 (e := rav r) (.t rfl) rfl hga (by omega) rfl rfl rfl ag9) rfl ?_
      refine W.q (Ev.ata 0 (.t rfl) rfl (.t rfl) Try.underlying46 ty51 (fun _ => by omega)) rfl ?_
      first | refine W.q (Ev.fae (.t rfl) fa51_2 rfl) rfl ?_ | refine W.q (Ev.fab (.t rfl) fa51_2) rfl ?_ | refine W.q (Ev.faa (.t rfl) fa51_2) rfl ?_
      refine W.sta 0 i 2 (e := rav r) (e' := rav (Rl.tn r)) (.t rfl) (.t rfl) rfl hga (by omega) ty9 rfl rfl rfl rfl rfl rfl (by rw [show Rl.tn r = ⟨r.name, r.act, r.name⟩ from by rw [Rl.tn, if_pos ha1]]; rfl) ?_
      refine W.nil ?_
      refine W.blk_normal ?_
      refine W.then ?_
      refine W.region ?_
      refine W.q (Ev.move (.t rfl)) rfl ?_
      first | refine W.q (Ev.add (.t rfl) .k (fun _ => by omega)) rfl ?_ | refine W.q (Ev.addw (.t rfl) .k) rfl ?_
      refine W.q (Ev.assign (.t rfl)) rfl ?_
      refine W.nil ?_
      refine W.then ?_
      refine W.reach (D := []) (i + 1) ⟨rfl, rfl, rfl, trivial⟩ (by first | (rw [← hst2]; done) | (rw [← hst]; done) | (rw [← hst]; exact .refl _) | (rw [← hst2]; exact .refl _)) ⟨by show i + 1 ≤ _; omega, by show _ - (i + 1) < _; omega⟩
    · have ha1 : r.act ≠ 1 := beq_eq_false_iff_ne.1 hc_t26
      have hst2 := hst
      rw [show Rl.tn r = r from by cases r; rw [Rl.tn, if_neg ha1]] at hst2
      rw [set_same hga] at hst2
      refine W.skip ?_
      refine W.blk_normal ?_
      refine W.then ?_
      refine W.region ?_
      refine W.q (Ev.move (.t rfl)) rfl ?_
      first | refine W.q (Ev.add (.t rfl) .k (fun _ => by omega)) rfl ?_ | refine W.q (Ev.addw (.t rfl) .k) rfl ?_
      refine W.q (Ev.assign (.t rfl)) rfl ?_
      refine W.nil ?_
      refine W.then ?_
      refine W.reach (D := []) (i + 1) ⟨rfl, rfl, rfl, trivial⟩ (by first | (rw [← hst2]; done) | (rw [← hst]; done) | (rw [← hst]; exact .refl _) | (rw [← hst2]; exact .refl _)) ⟨by show i + 1 ≤ _; omega, by show _ - (i + 1) < _; omega⟩
  · subst hend
    rw [upto_end] at hul ⊢
    refine W.freezeA (M1 := []) (M2 := []) (D := []) (v := v14) (L' := [(5, true, .sl 3 ((rs.map Rl.tn).map rav))]) (.refl _) ⟨⟨_, rfl, .one .hit⟩, trivial⟩ (FrzMs.refl _) ?_
    have hdt := Rl.drawn_tn hdr
    have hrs := Rl.drawn_oks hdt
    refine W.seq ?_
    refine W.seq ?_
    refine W.region ?_
    refine W.q (Ev.move (.t rfl)) rfl ?_
    refine W.q (Ev.move (.t rfl)) rfl ?_
    first | refine W.q (Ev.lensl (.t rfl) Try.underlying46) rfl ?_ | refine W.q (Ev.lenar (i := 0) (.t rfl) rfl Try.underlying46) rfl ?_ | refine W.q (Ev.lenar (i := 1) (.t rfl) rfl Try.underlying46) rfl ?_ | refine W.q (Ev.lenar (i := 2) (.t rfl) rfl Try.underlying46) rfl ?_ | refine W.q (Ev.lenar (i := 3) (.t rfl) rfl Try.underlying46) rfl ?_
    refine W.q (Ev.lti (.t rfl) (.t rfl)) rfl ?_
    refine W.nil ?_
    refine W.then ?_
    refine W.is (t := 18) (g := true) (av' := .lit (.bool false)) rfl (congrArg (fun b => AV.lit (.bool b)) (by exact decide_eq_false (by omega))) ?_
    refine W.condF (.t rfl) ?_
    refine W.exit ?_
    refine W.then_exit ?_
    refine W.then_exit ?_
    refine W.blk_hit ?_
    refine W.then ?_
    refine W.seq ?_
    refine W.region ?_
    refine W.q (Ev.move (.t rfl)) rfl ?_
    refine W.call (WNodes.c_Nodes l hl 4 6 (by decide) (by decide) (by decide)) ⟨(.t rfl), .k, .k, trivial⟩ (.refl _) rfl ?_
    rintro _ _ ⟨v38, ns, rest, rfl, rfl, hn1, hn2, hn3, hn4⟩
    have hns := Nd.szs_len ns
    refine W.q (Ev.move (.t rfl)) rfl ?_
    refine W.q (Ev.extract (.t rfl) rfl) rfl ?_
    refine W.q (Ev.extract (.t rfl) rfl) rfl ?_
    refine W.q (Ev.assign (.t rfl)) rfl ?_
    refine W.q (Ev.assign (.t rfl)) rfl ?_
    refine W.nil ?_
    refine W.freezeA (M1 := []) (M2 := []) (D := []) (v := v38) (L' := [(7, true, .sl 4 (ns.map Nd.av))]) (.refl _) ⟨⟨_, rfl, .one .hit⟩, trivial⟩ (FrzMs.refl _) ?_
    obtain ⟨_, hpl, _, htz⟩ := Nd.drs_facts _ _ _ ns (Nat.le_refl _) hn4
    have hkm := Rl.kn_mem _ hrs.all
    obtain ⟨hX1, _⟩ := Rl.run_all _ _ hkm _ ns [] (Nat.le_refl _) rfl rfl
    have hX5 := Rl.run_szs (rs.map Rl.tn) _ ns [] (Nat.le_refl _)
    have hX6 := Rl.run_tszs (rs.map Rl.tn) _ ns [] (Nat.le_refl _)
    have z1 : Nd.szs ([] : List Nd) = 0 := rfl
    have z2 : Nd.tszs ([] : List Nd) = 0 := rfl
    have hk7 := Rl.run_kps (rs.map Rl.tn) (fun r hr ha => by obtain ⟨q, _, rfl⟩ := List.mem_map.1 hr; exact if_pos ha) _ ns [] (Nat.le_refl _) trivial
    have hcX := WApply.c_ruledBy _ hrs ns (by omega) (by omega)
    generalize (Rl.run (rs.map Rl.tn) [] ns) = X at *
    have hcY := WApply.c_ruledBy _ hrs X (by omega) (by omega)
    have hsame := Rl.run_same (rs.map Rl.tn) _ X [] (Nat.le_refl _) hX1 hk7
    rw [List.nil_append] at hsame
    rw [hsame] at hcY
    refine W.then ?_
    refine W.seq ?_
    refine W.region ?_
    refine W.q (Ev.move (.t rfl)) rfl ?_
    refine W.q (Ev.move (.t rfl)) rfl ?_
    refine W.callp (hcX) ⟨(.t rfl), (.t rfl), trivial⟩ rfl ?_
    refine W.q (Ev.move (.t rfl)) rfl ?_
    refine W.q (Ev.extract (.t rfl) rfl) rfl ?_
    refine W.q (Ev.extract (.t rfl) rfl) rfl ?_
    refine W.q (Ev.assign (.t rfl)) rfl ?_
    refine W.q (Ev.assign (.t rfl)) rfl ?_
    refine W.nil ?_
    refine W.then ?_
    refine W.seq ?_
    refine W.region ?_
    refine W.q (Ev.move (.t rfl)) rfl ?_
    refine W.q (Ev.move (.t rfl)) rfl ?_
    refine W.callp (hcY) ⟨(.t rfl), (.t rfl), trivial⟩ rfl ?_
    refine W.q (Ev.move (.t rfl)) rfl ?_
    refine W.q (Ev.extract (.t rfl) rfl) rfl ?_
    refine W.q (Ev.extract (.t rfl) rfl) rfl ?_
    refine W.q (Ev.assign (.t rfl)) rfl ?_
    refine W.q (Ev.assign (.t rfl)) rfl ?_
    refine W.nil ?_
    refine W.then ?_
    refine W.seq ?_
    refine W.region ?_
    refine W.q (Ev.move (.t rfl)) rfl ?_
    refine W.q (Ev.move (.t rfl)) rfl ?_
    refine W.gyes rfl rfl ?_
    refine W.q (Ev.move (.t rfl)) rfl ?_
    refine W.q (Ev.and (.t rfl) ⟨_, _, rfl, rfl, by first | (simp; done) | (intro hg_ hp_; simp [hp_]; done) | (simp <;> omega; done) | (simp_all; done) | grind⟩) rfl ?_
    refine W.q (Ev.move (.t rfl)) rfl ?_
    refine W.gyes rfl rfl ?_
    refine W.q (Ev.move (.t rfl)) rfl ?_
    refine W.gyes rfl rfl ?_
    refine W.q (Ev.move (.t rfl)) rfl ?_
    refine W.gyes rfl rfl ?_
    refine W.callp (WSame.c_same X (by omega)) ⟨(.t rfl), (.t rfl), trivial⟩ rfl ?_
    refine W.q (Ev.and (.t rfl) ⟨_, _, rfl, rfl, by first | (simp; done) | (intro hg_ hp_; simp [hp_]; done) | (simp <;> omega; done) | (simp_all; done) | grind⟩) rfl ?_
    refine W.q (Ev.assign (.t rfl)) rfl ?_
    refine W.nil ?_
    refine W.then ?_
    refine W.ret ?_
    refine W.retn (M' := []) (rs := [.tmp 4]) (avs := [_]) Try.results9 ⟨rfl, trivial⟩ rfl (.refl _) ?_
    exact ⟨rfl, rfl⟩

end LRulesTwice

end Go.Proofs.Yteepllfbnoaiaaa
