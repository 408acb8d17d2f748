/-
  The law SpaceOnce, walked.
-/
import Derived.Test.YtofmjmicgddljaaWSpace
set_option linter.unusedVariables false
set_option linter.unusedSimpArgs false
set_option maxRecDepth 100000
namespace Go.Proofs.Ytofmjmicgddljaa
open Go.Vl

namespace LSpaceOnce

theorem c_spaceSure : FnP Try.prog 20 [] (.bool true) :=  by
  refine FnC.mk Try.func20 (by kernel_rfl) rfl Try.ntmps20 rfl (fun w0 F => ?_)
  refine W.seq ?_
  refine W.region ?_
  refine W.q (Ev.assign .k) rfl ?_
  refine W.nil ?_
  refine W.then ?_
  refine W.seq ?_
  refine W.region ?_
  refine W.callp (WSpace.c_Text [32, 97, 32, 32, 98] true (by decide)) ⟨.k, .k, trivial⟩ rfl ?_
  refine W.q (Ev.eqs (.t rfl) .k) rfl ?_
  refine W.q (Ev.assign (.t rfl)) rfl ?_
  refine W.nil ?_
  refine W.then ?_
  refine W.ret ?_
  refine W.retn (M' := []) (rs := [.tmp 0]) (avs := [_]) Try.results20 ⟨rfl, trivial⟩ rfl (.refl _) ?_
  exact ⟨congrArg AV.bool (by rw [show sp true [32, 97, 32, 32, 98] = [97, 32, 98] from by decide]; rfl), rfl⟩

theorem c_flt (s : List UInt8) (hs : s.length ≤ 17592186044416) : FnP Try.prog 19 [.str s] (.str (flt s)) :=  by
  refine FnC.mk Try.func19 (by kernel_rfl) rfl Try.ntmps19 rfl (fun w0 F => ?_)
  refine W.seq ?_
  refine W.region ?_
  refine W.q (Ev.assign .k) rfl ?_
  refine W.nil ?_
  refine W.then ?_
  refine W.seq ?_
  refine W.region ?_
  refine W.q (Ev.assign .k) rfl ?_
  refine W.nil ?_
  refine W.then ?_
  refine W.seq ?_
  refine W.seq ?_
  refine W.region ?_
  refine W.q (Ev.assign .k) rfl ?_
  refine W.nil ?_
  refine W.then ?_
  refine W.block ?_
  refine W.loop (D := []) (ι := Nat × List UInt8) (fun z => [(4, true, .int (z.1 : Int)), (0, true, .str s), (3, true, .str z.2)]) (fun _ => []) (fun z => z.1 ≤ s.length ∧ z.2 ++ flt (s.drop z.1) = flt s ∧ z.2.length ≤ z.1) (fun z => s.length - z.1) (0, []) ⟨rfl, rfl, rfl, trivial⟩ (.refl _) ⟨Nat.zero_le _, by simp, by simp⟩ ?_
  rintro ⟨i, out⟩ ⟨hi1, hi2, hi3⟩
  dsimp only at hi1 hi2 hi3 ⊢
  rcases (show i < s.length ∨ i = s.length from by omega) with hlt | hend
  · have hd := drop_byte s i hlt
    rw [hd] at hi2
    have hx1 : [s.getD i 0].length = 1 := rfl
    refine W.seq ?_
    refine W.seq ?_
    refine W.region ?_
    refine W.q (Ev.move (.t rfl)) rfl ?_
    refine W.q (Ev.move (.t rfl)) rfl ?_
    refine W.q (Ev.lens (.t rfl) Try.underlying9) rfl ?_
    refine W.q (Ev.lti (.t rfl) (.t rfl)) rfl ?_
    refine W.nil ?_
    refine W.then ?_
    refine W.is (t := 8) (g := true) (av' := .lit (.bool true)) rfl (congrArg (fun b => AV.lit (.bool b)) (by simp; omega)) ?_
    refine W.condT (.t rfl) ?_
    refine W.skip ?_
    refine W.then ?_
    refine W.seq ?_
    refine W.block ?_
    refine W.seq ?_
    refine W.region ?_
    refine W.q (Ev.move (.t rfl)) rfl ?_
    refine W.q (Ev.move (.t rfl)) rfl ?_
    refine W.q (Ev.ats' (.t rfl) (.t rfl) Try.underlying9 (fun hg => by first | omega | (simp at hg; omega))) rfl ?_
    refine W.q (Ev.nei (.t rfl) .k) rfl ?_
    refine W.q (Ev.move (.t rfl)) rfl ?_
    refine W.qgT rfl rfl (Ev.move (.t rfl)) rfl ?_
    refine W.qgT rfl rfl (Ev.move (.t rfl)) rfl ?_
    refine W.qgT rfl rfl (Ev.ats' (.c rfl) (.c rfl) Try.underlying9 (fun hg => by first | omega | (simp at hg; omega))) rfl ?_
    refine W.qgT rfl rfl (Ev.nei (.c rfl) .k) rfl ?_
    refine W.q (Ev.and (.t rfl) ⟨_, _, rfl, rfl, by simp⟩) rfl ?_
    refine W.q (Ev.move (.t rfl)) rfl ?_
    refine W.qgT rfl rfl (Ev.move (.t rfl)) rfl ?_
    refine W.qgT rfl rfl (Ev.move (.t rfl)) rfl ?_
    refine W.qgT rfl rfl (Ev.ats' (.c rfl) (.c rfl) Try.underlying9 (fun hg => by first | omega | (simp at hg; omega))) rfl ?_
    refine W.qgT rfl rfl (Ev.nei (.c rfl) .k) rfl ?_
    refine W.q (Ev.and (.t rfl) ⟨_, _, rfl, rfl, by simp⟩) rfl ?_
    refine W.q (Ev.move (.t rfl)) rfl ?_
    refine W.qgT rfl rfl (Ev.move (.t rfl)) rfl ?_
    refine W.qgT rfl rfl (Ev.move (.t rfl)) rfl ?_
    refine W.qgT rfl rfl (Ev.ats' (.c rfl) (.c rfl) Try.underlying9 (fun hg => by first | omega | (simp at hg; omega))) rfl ?_
    refine W.qgT rfl rfl (Ev.nei (.c rfl) .k) rfl ?_
    refine W.q (Ev.and (.t rfl) ⟨_, _, rfl, rfl, by simp⟩) rfl ?_
    refine W.nil ?_
    refine W.then ?_
    refine W.cond (.t rfl) (fun hc_t32 => ?_) (fun hc_t32 => ?_)
    · have hsp : spx (s.getD i 0) = false := by cases hq : spx (s.getD i 0) with
        | false => rfl
        | true => exact absurd (by rw [← hc_t32]; exact flt_cond _) (show ¬ (true = !(spz ((s.getD i 0).toNat : Int))) from by rw [show spz ((s.getD i 0).toNat : Int) = true from hq]; simp)
      unfold flt at hi2
      rw [List.filter_cons_of_pos (by rw [hsp]; rfl)] at hi2
      change _ ++ _ :: flt _ = flt s at hi2
      refine W.region ?_
      refine W.q (Ev.move (.t rfl)) rfl ?_
      refine W.q (Ev.move (.t rfl)) rfl ?_
      refine W.q (Ev.move (.t rfl)) rfl ?_
      refine W.q (Ev.move (.t rfl)) rfl ?_
      first | refine W.q (Ev.add (.t rfl) .k (fun _ => by omega)) rfl ?_ | refine W.q (Ev.addw (.t rfl) .k) rfl ?_
      refine W.q (Ev.subs (lo := some (.tmp 35)) (hi := some (.tmp 37)) (.t rfl) Try.underlying9 (.t rfl) (.t rfl) (fun _ => by omega)) rfl ?_
      refine W.is (t := 38) (g := true) (av' := .str [s.getD i 0]) rfl (congrArg AV.str (by rw [show ((i : Int) + 1).toNat = i + 1 from by omega, Int.toNat_natCast, List.drop_take, drop_byte s i hlt, show i + 1 - i = 1 from by omega]; rfl)) ?_
      refine W.q (Ev.cat (.t rfl) (.t rfl) (fun _ => by first | omega | (simp only [List.length_append]; omega) | (simp [-List.length_flatMap]; omega) | (simp; omega))) rfl ?_
      refine W.q (Ev.assign (.t rfl)) rfl ?_
      refine W.nil ?_
      refine W.blk_normal ?_
      refine W.then ?_
      refine W.region ?_
      refine W.q (Ev.move (.t rfl)) rfl ?_
      first | refine W.q (Ev.add (.t rfl) .k (fun _ => by omega)) rfl ?_ | refine W.q (Ev.addw (.t rfl) .k) rfl ?_
      refine W.q (Ev.assign (.t rfl)) rfl ?_
      refine W.nil ?_
      refine W.then ?_
      first
      | (refine W.reach (D := []) (i + 1, out ++ [s.getD i 0]) ⟨rfl, rfl, rfl, trivial⟩ (.refl _) ⟨⟨?_, ?_, ?_⟩, ?_⟩
         · show i + 1 ≤ _; omega
         · show (out ++ [s.getD i 0]) ++ flt _ = _; rw [← hi2]; try simp
         · show List.length (out ++ [s.getD i 0]) ≤ i + 1; rw [List.length_append, List.length_singleton]; omega
         · show s.length - (i + 1) < s.length - i; omega)
      | (refine W.reach (D := []) (i + 1, out) ⟨rfl, rfl, rfl, trivial⟩ (.refl _) ⟨⟨?_, ?_, ?_⟩, ?_⟩
         · show i + 1 ≤ _; omega
         · show out ++ flt _ = _; rw [← hi2]; try simp
         · show List.length out ≤ i + 1; omega
         · show s.length - (i + 1) < s.length - i; omega)
    · have hsp : spx (s.getD i 0) = true := by cases hq : spx (s.getD i 0) with
        | true => rfl
        | false => exact absurd (by rw [← hc_t32]; exact flt_cond _) (show ¬ (false = !(spz ((s.getD i 0).toNat : Int))) from by rw [show spz ((s.getD i 0).toNat : Int) = false from hq]; simp)
      unfold flt at hi2
      rw [List.filter_cons_of_neg (by rw [hsp]; simp)] at hi2
      change _ ++ flt _ = flt s at hi2
      refine W.skip ?_
      refine W.blk_normal ?_
      refine W.then ?_
      refine W.region ?_
      refine W.q (Ev.move (.t rfl)) rfl ?_
      first | refine W.q (Ev.add (.t rfl) .k (fun _ => by omega)) rfl ?_ | refine W.q (Ev.addw (.t rfl) .k) rfl ?_
      refine W.q (Ev.assign (.t rfl)) rfl ?_
      refine W.nil ?_
      refine W.then ?_
      first
      | (refine W.reach (D := []) (i + 1, out ++ [s.getD i 0]) ⟨rfl, rfl, rfl, trivial⟩ (.refl _) ⟨⟨?_, ?_, ?_⟩, ?_⟩
         · show i + 1 ≤ _; omega
         · show (out ++ [s.getD i 0]) ++ flt _ = _; rw [← hi2]; try simp
         · show List.length (out ++ [s.getD i 0]) ≤ i + 1; rw [List.length_append, List.length_singleton]; omega
         · show s.length - (i + 1) < s.length - i; omega)
      | (refine W.reach (D := []) (i + 1, out) ⟨rfl, rfl, rfl, trivial⟩ (.refl _) ⟨⟨?_, ?_, ?_⟩, ?_⟩
         · show i + 1 ≤ _; omega
         · show out ++ flt _ = _; rw [← hi2]; try simp
         · show List.length out ≤ i + 1; omega
         · show s.length - (i + 1) < s.length - i; omega)
  · rw [List.drop_of_length_le (by omega), show flt [] = [] from rfl, List.append_nil] at hi2
    refine W.seq ?_
    refine W.seq ?_
    refine W.region ?_
    refine W.q (Ev.move (.t rfl)) rfl ?_
    refine W.q (Ev.move (.t rfl)) rfl ?_
    refine W.q (Ev.lens (.t rfl) Try.underlying9) rfl ?_
    refine W.q (Ev.lti (.t rfl) (.t rfl)) rfl ?_
    refine W.nil ?_
    refine W.then ?_
    refine W.is (t := 8) (g := true) (av' := .lit (.bool false)) rfl (congrArg (fun b => AV.lit (.bool b)) (by simp; omega)) ?_
    refine W.condF (.t rfl) ?_
    refine W.exit ?_
    refine W.then_exit ?_
    refine W.then_exit ?_
    refine W.blk_hit ?_
    refine W.then ?_
    refine W.seq ?_
    refine W.region ?_
    refine W.q (Ev.move (.t rfl)) rfl ?_
    refine W.q (Ev.assign (.t rfl)) rfl ?_
    refine W.nil ?_
    refine W.then ?_
    refine W.ret ?_
    refine W.retn (M' := []) (rs := [.tmp 2]) (avs := [_]) Try.results19 ⟨rfl, trivial⟩ rfl (.refl _) ?_
    exact ⟨congrArg AV.str hi2, rfl⟩

theorem c_big (s t : List UInt8) (ah : Bool) (hs : s.length ≤ 1048576) (ht : t.length ≤ 1048576) (hq : 200 < s.length + t.length) : FnP Try.prog 7 [.str s, .str t, .bool ah] (.bool true) :=  by
  refine FnC.mk Try.func7 (by kernel_rfl) rfl Try.ntmps7 rfl (fun w0 F => ?_)
  have hl1 := sp_len ah s
  have hl2 := sp_len (spAfter ah s) t
  refine W.seq ?_
  refine W.region ?_
  refine W.q (Ev.assign .k) rfl ?_
  refine W.nil ?_
  refine W.then ?_
  refine W.seq ?_
  refine W.region ?_
  refine W.q (Ev.move (.t rfl)) rfl ?_
  refine W.q (Ev.move (.t rfl)) rfl ?_
  refine W.callp (WSpace.c_Text s ah (by omega)) ⟨(.t rfl), (.t rfl), trivial⟩ rfl ?_
  refine W.q (Ev.assign (.t rfl)) rfl ?_
  refine W.nil ?_
  refine W.then ?_
  refine W.seq ?_
  refine W.region ?_
  refine W.q (Ev.move (.t rfl)) rfl ?_
  refine W.q (Ev.assign (.t rfl)) rfl ?_
  refine W.nil ?_
  refine W.then ?_
  refine W.seq ?_
  refine W.seq ?_
  refine W.region ?_
  refine W.q (Ev.move (.t rfl)) rfl ?_
  refine W.q (Ev.lens (.t rfl) Try.underlying9) rfl ?_
  refine W.q (Ev.gti (.t rfl) .k) rfl ?_
  refine W.nil ?_
  refine W.then ?_
  refine W.cond (.t rfl) (fun hc_t17 => ?_) (fun hc_t17 => ?_)
  · have hne : s ≠ [] := by intro e; rw [e] at hc_t17; simp at hc_t17
    have hpos : 0 < s.length := List.length_pos_iff.2 hne
    refine W.seq ?_
    refine W.region ?_
    refine W.q (Ev.move (.t rfl)) rfl ?_
    refine W.q (Ev.move (.t rfl)) rfl ?_
    refine W.q (Ev.lens (.t rfl) Try.underlying9) rfl ?_
    first | refine W.q (Ev.sub (.t rfl) .k (fun _ => by omega)) rfl ?_ | refine W.q (Ev.subw (.t rfl) .k) rfl ?_
    refine W.q (Ev.ats' (.t rfl) (.t rfl) Try.underlying9 (fun hg => by first | omega | (simp at hg; omega))) rfl ?_
    refine W.q (Ev.assign (.t rfl)) rfl ?_
    refine W.nil ?_
    refine W.then ?_
    refine W.region ?_
    refine W.q (Ev.move (.t rfl)) rfl ?_
    refine W.q (Ev.eqi (.t rfl) .k) rfl ?_
    refine W.q (Ev.move (.t rfl)) rfl ?_
    refine W.qgF rfl rfl (Ev.move (.t rfl)) rfl ?_
    refine W.qgF rfl rfl (Ev.eqi (.c rfl) .k) rfl ?_
    refine W.q (Ev.or (.t rfl) ⟨_, _, rfl, rfl, by simp⟩) rfl ?_
    refine W.q (Ev.move (.t rfl)) rfl ?_
    refine W.qgF rfl rfl (Ev.move (.t rfl)) rfl ?_
    refine W.qgF rfl rfl (Ev.eqi (.c rfl) .k) rfl ?_
    refine W.q (Ev.or (.t rfl) ⟨_, _, rfl, rfl, by simp⟩) rfl ?_
    refine W.q (Ev.move (.t rfl)) rfl ?_
    refine W.qgF rfl rfl (Ev.move (.t rfl)) rfl ?_
    refine W.qgF rfl rfl (Ev.eqi (.c rfl) .k) rfl ?_
    refine W.q (Ev.or (.t rfl) ⟨_, _, rfl, rfl, by simp⟩) rfl ?_
    refine W.q (Ev.assign (.t rfl)) rfl ?_
    refine W.nil ?_
    refine W.is (t := 8) (g := true) (av' := .bool (spAfter ah s)) rfl (congrArg AV.bool (by rw [spAfter_last ah s hne, show ((s.length : Int) - 1).toNat = s.length - 1 from by omega]; rfl)) ?_
    refine W.then ?_
    refine W.seq ?_
    refine W.region ?_
    refine W.q (Ev.assign .f) rfl ?_
    refine W.nil ?_
    refine W.then ?_
    refine W.seq ?_
    refine W.region ?_
    refine W.callp (c_spaceSure) trivial rfl ?_
    refine W.q (Ev.move (.t rfl)) rfl ?_
    refine W.gyes rfl rfl ?_
    refine W.q (Ev.move (.t rfl)) rfl ?_
    refine W.gyes rfl rfl ?_
    refine W.q (Ev.move (.t rfl)) rfl ?_
    refine W.gyes rfl rfl ?_
    refine W.callp (WSpace.c_Text (sp ah s) ah (by omega)) ⟨(.t rfl), (.t rfl), trivial⟩ rfl ?_
    refine W.gyes rfl rfl ?_
    refine W.q (Ev.move (.t rfl)) rfl ?_
    refine W.gyes rfl rfl ?_
    refine W.q (Ev.eqs (.t rfl) (.t rfl)) rfl ?_
    refine W.q (Ev.and (.t rfl) ⟨_, _, rfl, rfl, by simp⟩) rfl ?_
    refine W.q (Ev.move (.t rfl)) rfl ?_
    refine W.is (t := 45) (g := true) (av' := .lit (.bool true)) rfl (congrArg (fun b => AV.lit (.bool b)) ?_) ?_
    · rw [sp_idem]; simp
    refine W.gyes rfl rfl ?_
    refine W.q (Ev.move (.t rfl)) rfl ?_
    refine W.gyes rfl rfl ?_
    refine W.q (Ev.move (.t rfl)) rfl ?_
    refine W.gyes rfl rfl ?_
    refine W.q (Ev.cat (.t rfl) (.t rfl) (fun _ => by first | omega | (simp only [List.length_append]; omega) | (simp [-List.length_flatMap]; omega) | (simp; omega))) rfl ?_
    refine W.gyes rfl rfl ?_
    refine W.q (Ev.move (.t rfl)) rfl ?_
    refine W.gyes rfl rfl ?_
    refine W.callp (WSpace.c_Text (s ++ t) ah (by rw [List.length_append]; omega)) ⟨(.t rfl), (.t rfl), trivial⟩ rfl ?_
    refine W.gyes rfl rfl ?_
    refine W.q (Ev.move (.t rfl)) rfl ?_
    refine W.gyes rfl rfl ?_
    refine W.q (Ev.move (.t rfl)) rfl ?_
    refine W.gyes rfl rfl ?_
    refine W.q (Ev.move (.t rfl)) rfl ?_
    refine W.gyes rfl rfl ?_
    refine W.callp (WSpace.c_Text t (spAfter ah s) (by omega)) ⟨(.t rfl), (.t rfl), trivial⟩ rfl ?_
    refine W.gyes rfl rfl ?_
    refine W.q (Ev.cat (.t rfl) (.t rfl) (fun _ => by first | omega | (simp only [List.length_append]; omega) | (simp [-List.length_flatMap]; omega) | (simp; omega))) rfl ?_
    refine W.gyes rfl rfl ?_
    refine W.q (Ev.eqs (.t rfl) (.t rfl)) rfl ?_
    refine W.q (Ev.and (.t rfl) ⟨_, _, rfl, rfl, by simp⟩) rfl ?_
    refine W.q (Ev.move (.t rfl)) rfl ?_
    refine W.is (t := 58) (g := true) (av' := .lit (.bool true)) rfl (congrArg (fun b => AV.lit (.bool b)) ?_) ?_
    · rw [sp_parts]; simp
    refine W.gyes rfl rfl ?_
    refine W.q (Ev.move (.t rfl)) rfl ?_
    refine W.gyes rfl rfl ?_
    refine W.q (Ev.lens (.t rfl) Try.underlying9) rfl ?_
    refine W.gyes rfl rfl ?_
    refine W.q (Ev.move (.t rfl)) rfl ?_
    refine W.gyes rfl rfl ?_
    refine W.q (Ev.lens (.t rfl) Try.underlying9) rfl ?_
    refine W.gyes rfl rfl ?_
    first | refine W.q (Ev.add (.t rfl) (.t rfl) (fun _ => by omega)) rfl ?_ | refine W.q (Ev.addw (.t rfl) (.t rfl)) rfl ?_
    refine W.gyes rfl rfl ?_
    refine W.q (Ev.gti (.t rfl) .k) rfl ?_
    refine W.gyes rfl rfl ?_
    refine W.q (Ev.move (.t rfl)) rfl ?_
    refine W.is (t := 65) (g := true) (av' := .lit (.bool true)) rfl (congrArg (fun b => AV.lit (.bool b)) ?_) ?_
    · simp; omega
    refine W.gnob rfl rfl (by simp) rfl ?_
    refine W.gnob rfl rfl (by simp) rfl ?_
    refine W.gnob rfl rfl (by simp) rfl ?_
    refine W.gnob rfl rfl (by simp) rfl ?_
    refine W.gnob rfl rfl (by simp) rfl ?_
    refine W.gnob rfl rfl (by simp) rfl ?_
    refine W.gnob rfl rfl (by simp) rfl ?_
    refine W.gyes rfl rfl ?_
    refine W.q (Ev.or (.t rfl) ⟨_, _, rfl, rfl, by simp⟩) rfl ?_
    refine W.q (Ev.and (.t rfl) ⟨_, _, rfl, rfl, by simp⟩) rfl ?_
    refine W.q (Ev.assign (.t rfl)) rfl ?_
    refine W.nil ?_
    refine W.then ?_
    refine W.ret ?_
    refine W.retn (M' := []) (rs := [.tmp 6]) (avs := [_]) Try.results7 ⟨rfl, trivial⟩ rfl (.refl _) ?_
    exact ⟨congrArg AV.bool (by simp [flt_sp]), rfl⟩
  · have h0 := of_decide_eq_false hc_t17
    have hne : s = [] := List.eq_nil_of_length_eq_zero (by omega)
    refine W.is (t := 8) (g := true) (av' := .bool (spAfter ah s)) rfl (congrArg AV.bool (by rw [hne]; rfl)) ?_
    refine W.skip ?_
    refine W.then ?_
    refine W.seq ?_
    refine W.region ?_
    refine W.q (Ev.assign .f) rfl ?_
    refine W.nil ?_
    refine W.then ?_
    refine W.seq ?_
    refine W.region ?_
    refine W.callp (c_spaceSure) trivial rfl ?_
    refine W.q (Ev.move (.t rfl)) rfl ?_
    refine W.gyes rfl rfl ?_
    refine W.q (Ev.move (.t rfl)) rfl ?_
    refine W.gyes rfl rfl ?_
    refine W.q (Ev.move (.t rfl)) rfl ?_
    refine W.gyes rfl rfl ?_
    refine W.callp (WSpace.c_Text (sp ah s) ah (by omega)) ⟨(.t rfl), (.t rfl), trivial⟩ rfl ?_
    refine W.gyes rfl rfl ?_
    refine W.q (Ev.move (.t rfl)) rfl ?_
    refine W.gyes rfl rfl ?_
    refine W.q (Ev.eqs (.t rfl) (.t rfl)) rfl ?_
    refine W.q (Ev.and (.t rfl) ⟨_, _, rfl, rfl, by simp⟩) rfl ?_
    refine W.q (Ev.move (.t rfl)) rfl ?_
    refine W.is (t := 45) (g := true) (av' := .lit (.bool true)) rfl (congrArg (fun b => AV.lit (.bool b)) ?_) ?_
    · rw [sp_idem]; simp
    refine W.gyes rfl rfl ?_
    refine W.q (Ev.move (.t rfl)) rfl ?_
    refine W.gyes rfl rfl ?_
    refine W.q (Ev.move (.t rfl)) rfl ?_
    refine W.gyes rfl rfl ?_
    refine W.q (Ev.cat (.t rfl) (.t rfl) (fun _ => by first | omega | (simp only [List.length_append]; omega) | (simp [-List.length_flatMap]; omega) | (simp; omega))) rfl ?_
    refine W.gyes rfl rfl ?_
    refine W.q (Ev.move (.t rfl)) rfl ?_
    refine W.gyes rfl rfl ?_
    refine W.callp (WSpace.c_Text (s ++ t) ah (by rw [List.length_append]; omega)) ⟨(.t rfl), (.t rfl), trivial⟩ rfl ?_
    refine W.gyes rfl rfl ?_
    refine W.q (Ev.move (.t rfl)) rfl ?_
    refine W.gyes rfl rfl ?_
    refine W.q (Ev.move (.t rfl)) rfl ?_
    refine W.gyes rfl rfl ?_
    refine W.q (Ev.move (.t rfl)) rfl ?_
    refine W.gyes rfl rfl ?_
    refine W.callp (WSpace.c_Text t (spAfter ah s) (by omega)) ⟨(.t rfl), (.t rfl), trivial⟩ rfl ?_
    refine W.gyes rfl rfl ?_
    refine W.q (Ev.cat (.t rfl) (.t rfl) (fun _ => by first | omega | (simp only [List.length_append]; omega) | (simp [-List.length_flatMap]; omega) | (simp; omega))) rfl ?_
    refine W.gyes rfl rfl ?_
    refine W.q (Ev.eqs (.t rfl) (.t rfl)) rfl ?_
    refine W.q (Ev.and (.t rfl) ⟨_, _, rfl, rfl, by simp⟩) rfl ?_
    refine W.q (Ev.move (.t rfl)) rfl ?_
    refine W.is (t := 58) (g := true) (av' := .lit (.bool true)) rfl (congrArg (fun b => AV.lit (.bool b)) ?_) ?_
    · rw [sp_parts]; simp
    refine W.gyes rfl rfl ?_
    refine W.q (Ev.move (.t rfl)) rfl ?_
    refine W.gyes rfl rfl ?_
    refine W.q (Ev.lens (.t rfl) Try.underlying9) rfl ?_
    refine W.gyes rfl rfl ?_
    refine W.q (Ev.move (.t rfl)) rfl ?_
    refine W.gyes rfl rfl ?_
    refine W.q (Ev.lens (.t rfl) Try.underlying9) rfl ?_
    refine W.gyes rfl rfl ?_
    first | refine W.q (Ev.add (.t rfl) (.t rfl) (fun _ => by omega)) rfl ?_ | refine W.q (Ev.addw (.t rfl) (.t rfl)) rfl ?_
    refine W.gyes rfl rfl ?_
    refine W.q (Ev.gti (.t rfl) .k) rfl ?_
    refine W.gyes rfl rfl ?_
    refine W.q (Ev.move (.t rfl)) rfl ?_
    refine W.is (t := 65) (g := true) (av' := .lit (.bool true)) rfl (congrArg (fun b => AV.lit (.bool b)) ?_) ?_
    · simp; omega
    refine W.gnob rfl rfl (by simp) rfl ?_
    refine W.gnob rfl rfl (by simp) rfl ?_
    refine W.gnob rfl rfl (by simp) rfl ?_
    refine W.gnob rfl rfl (by simp) rfl ?_
    refine W.gnob rfl rfl (by simp) rfl ?_
    refine W.gnob rfl rfl (by simp) rfl ?_
    refine W.gnob rfl rfl (by simp) rfl ?_
    refine W.gyes rfl rfl ?_
    refine W.q (Ev.or (.t rfl) ⟨_, _, rfl, rfl, by simp⟩) rfl ?_
    refine W.q (Ev.and (.t rfl) ⟨_, _, rfl, rfl, by simp⟩) rfl ?_
    refine W.q (Ev.assign (.t rfl)) rfl ?_
    refine W.nil ?_
    refine W.then ?_
    refine W.ret ?_
    refine W.retn (M' := []) (rs := [.tmp 6]) (avs := [_]) Try.results7 ⟨rfl, trivial⟩ rfl (.refl _) ?_
    exact ⟨congrArg AV.bool (by simp [flt_sp]), rfl⟩

theorem c_small (s t : List UInt8) (ah : Bool) (hs : s.length ≤ 1048576) (ht : t.length ≤ 1048576) (hq : ¬ 200 < s.length + t.length) : FnP Try.prog 7 [.str s, .str t, .bool ah] (.bool true) :=  by
  refine FnC.mk Try.func7 (by kernel_rfl) rfl Try.ntmps7 rfl (fun w0 F => ?_)
  have hl1 := sp_len ah s
  have hl2 := sp_len (spAfter ah s) t
  refine W.seq ?_
  refine W.region ?_
  refine W.q (Ev.assign .k) rfl ?_
  refine W.nil ?_
  refine W.then ?_
  refine W.seq ?_
  refine W.region ?_
  refine W.q (Ev.move (.t rfl)) rfl ?_
  refine W.q (Ev.move (.t rfl)) rfl ?_
  refine W.callp (WSpace.c_Text s ah (by omega)) ⟨(.t rfl), (.t rfl), trivial⟩ rfl ?_
  refine W.q (Ev.assign (.t rfl)) rfl ?_
  refine W.nil ?_
  refine W.then ?_
  refine W.seq ?_
  refine W.region ?_
  refine W.q (Ev.move (.t rfl)) rfl ?_
  refine W.q (Ev.assign (.t rfl)) rfl ?_
  refine W.nil ?_
  refine W.then ?_
  refine W.seq ?_
  refine W.seq ?_
  refine W.region ?_
  refine W.q (Ev.move (.t rfl)) rfl ?_
  refine W.q (Ev.lens (.t rfl) Try.underlying9) rfl ?_
  refine W.q (Ev.gti (.t rfl) .k) rfl ?_
  refine W.nil ?_
  refine W.then ?_
  refine W.cond (.t rfl) (fun hc_t17 => ?_) (fun hc_t17 => ?_)
  · have hne : s ≠ [] := by intro e; rw [e] at hc_t17; simp at hc_t17
    have hpos : 0 < s.length := List.length_pos_iff.2 hne
    refine W.seq ?_
    refine W.region ?_
    refine W.q (Ev.move (.t rfl)) rfl ?_
    refine W.q (Ev.move (.t rfl)) rfl ?_
    refine W.q (Ev.lens (.t rfl) Try.underlying9) rfl ?_
    first | refine W.q (Ev.sub (.t rfl) .k (fun _ => by omega)) rfl ?_ | refine W.q (Ev.subw (.t rfl) .k) rfl ?_
    refine W.q (Ev.ats' (.t rfl) (.t rfl) Try.underlying9 (fun hg => by first | omega | (simp at hg; omega))) rfl ?_
    refine W.q (Ev.assign (.t rfl)) rfl ?_
    refine W.nil ?_
    refine W.then ?_
    refine W.region ?_
    refine W.q (Ev.move (.t rfl)) rfl ?_
    refine W.q (Ev.eqi (.t rfl) .k) rfl ?_
    refine W.q (Ev.move (.t rfl)) rfl ?_
    refine W.qgF rfl rfl (Ev.move (.t rfl)) rfl ?_
    refine W.qgF rfl rfl (Ev.eqi (.c rfl) .k) rfl ?_
    refine W.q (Ev.or (.t rfl) ⟨_, _, rfl, rfl, by simp⟩) rfl ?_
    refine W.q (Ev.move (.t rfl)) rfl ?_
    refine W.qgF rfl rfl (Ev.move (.t rfl)) rfl ?_
    refine W.qgF rfl rfl (Ev.eqi (.c rfl) .k) rfl ?_
    refine W.q (Ev.or (.t rfl) ⟨_, _, rfl, rfl, by simp⟩) rfl ?_
    refine W.q (Ev.move (.t rfl)) rfl ?_
    refine W.qgF rfl rfl (Ev.move (.t rfl)) rfl ?_
    refine W.qgF rfl rfl (Ev.eqi (.c rfl) .k) rfl ?_
    refine W.q (Ev.or (.t rfl) ⟨_, _, rfl, rfl, by simp⟩) rfl ?_
    refine W.q (Ev.assign (.t rfl)) rfl ?_
    refine W.nil ?_
    refine W.is (t := 8) (g := true) (av' := .bool (spAfter ah s)) rfl (congrArg AV.bool (by rw [spAfter_last ah s hne, show ((s.length : Int) - 1).toNat = s.length - 1 from by omega]; rfl)) ?_
    refine W.then ?_
    refine W.seq ?_
    refine W.region ?_
    refine W.q (Ev.assign .f) rfl ?_
    refine W.nil ?_
    refine W.then ?_
    refine W.seq ?_
    refine W.region ?_
    refine W.callp (c_spaceSure) trivial rfl ?_
    refine W.q (Ev.move (.t rfl)) rfl ?_
    refine W.gyes rfl rfl ?_
    refine W.q (Ev.move (.t rfl)) rfl ?_
    refine W.gyes rfl rfl ?_
    refine W.q (Ev.move (.t rfl)) rfl ?_
    refine W.gyes rfl rfl ?_
    refine W.callp (WSpace.c_Text (sp ah s) ah (by omega)) ⟨(.t rfl), (.t rfl), trivial⟩ rfl ?_
    refine W.gyes rfl rfl ?_
    refine W.q (Ev.move (.t rfl)) rfl ?_
    refine W.gyes rfl rfl ?_
    refine W.q (Ev.eqs (.t rfl) (.t rfl)) rfl ?_
    refine W.q (Ev.and (.t rfl) ⟨_, _, rfl, rfl, by simp⟩) rfl ?_
    refine W.q (Ev.move (.t rfl)) rfl ?_
    refine W.is (t := 45) (g := true) (av' := .lit (.bool true)) rfl (congrArg (fun b => AV.lit (.bool b)) ?_) ?_
    · rw [sp_idem]; simp
    refine W.gyes rfl rfl ?_
    refine W.q (Ev.move (.t rfl)) rfl ?_
    refine W.gyes rfl rfl ?_
    refine W.q (Ev.move (.t rfl)) rfl ?_
    refine W.gyes rfl rfl ?_
    refine W.q (Ev.cat (.t rfl) (.t rfl) (fun _ => by first | omega | (simp only [List.length_append]; omega) | (simp [-List.length_flatMap]; omega) | (simp; omega))) rfl ?_
    refine W.gyes rfl rfl ?_
    refine W.q (Ev.move (.t rfl)) rfl ?_
    refine W.gyes rfl rfl ?_
    refine W.callp (WSpace.c_Text (s ++ t) ah (by rw [List.length_append]; omega)) ⟨(.t rfl), (.t rfl), trivial⟩ rfl ?_
    refine W.gyes rfl rfl ?_
    refine W.q (Ev.move (.t rfl)) rfl ?_
    refine W.gyes rfl rfl ?_
    refine W.q (Ev.move (.t rfl)) rfl ?_
    refine W.gyes rfl rfl ?_
    refine W.q (Ev.move (.t rfl)) rfl ?_
    refine W.gyes rfl rfl ?_
    refine W.callp (WSpace.c_Text t (spAfter ah s) (by omega)) ⟨(.t rfl), (.t rfl), trivial⟩ rfl ?_
    refine W.gyes rfl rfl ?_
    refine W.q (Ev.cat (.t rfl) (.t rfl) (fun _ => by first | omega | (simp only [List.length_append]; omega) | (simp [-List.length_flatMap]; omega) | (simp; omega))) rfl ?_
    refine W.gyes rfl rfl ?_
    refine W.q (Ev.eqs (.t rfl) (.t rfl)) rfl ?_
    refine W.q (Ev.and (.t rfl) ⟨_, _, rfl, rfl, by simp⟩) rfl ?_
    refine W.q (Ev.move (.t rfl)) rfl ?_
    refine W.is (t := 58) (g := true) (av' := .lit (.bool true)) rfl (congrArg (fun b => AV.lit (.bool b)) ?_) ?_
    · rw [sp_parts]; simp
    refine W.gyes rfl rfl ?_
    refine W.q (Ev.move (.t rfl)) rfl ?_
    refine W.gyes rfl rfl ?_
    refine W.q (Ev.lens (.t rfl) Try.underlying9) rfl ?_
    refine W.gyes rfl rfl ?_
    refine W.q (Ev.move (.t rfl)) rfl ?_
    refine W.gyes rfl rfl ?_
    refine W.q (Ev.lens (.t rfl) Try.underlying9) rfl ?_
    refine W.gyes rfl rfl ?_
    first | refine W.q (Ev.add (.t rfl) (.t rfl) (fun _ => by omega)) rfl ?_ | refine W.q (Ev.addw (.t rfl) (.t rfl)) rfl ?_
    refine W.gyes rfl rfl ?_
    refine W.q (Ev.gti (.t rfl) .k) rfl ?_
    refine W.gyes rfl rfl ?_
    refine W.q (Ev.move (.t rfl)) rfl ?_
    refine W.is (t := 65) (g := true) (av' := .lit (.bool false)) rfl (congrArg (fun b => AV.lit (.bool b)) ?_) ?_
    · simp; omega
    refine W.gyes rfl rfl ?_
    refine W.q (Ev.move (.t rfl)) rfl ?_
    refine W.gyes rfl rfl ?_
    refine W.q (Ev.move (.t rfl)) rfl ?_
    refine W.gyes rfl rfl ?_
    refine W.callv (caps := []) (avs := [_]) (c_flt (sp ah s) (by omega)) (.t rfl) ⟨(.t rfl), trivial⟩ rfl (.refl _) rfl ?_
    rintro _ _ ⟨rfl, rfl⟩
    refine W.gyes rfl rfl ?_
    refine W.q (Ev.move (.t rfl)) rfl ?_
    refine W.gyes rfl rfl ?_
    refine W.q (Ev.move (.t rfl)) rfl ?_
    refine W.gyes rfl rfl ?_
    refine W.callv (caps := []) (avs := [_]) (c_flt s (by omega)) (.t rfl) ⟨(.t rfl), trivial⟩ rfl (.refl _) rfl ?_
    rintro _ _ ⟨rfl, rfl⟩
    refine W.gyes rfl rfl ?_
    refine W.q (Ev.eqs (.t rfl) (.t rfl)) rfl ?_
    refine W.gyes rfl rfl ?_
    refine W.q (Ev.or (.t rfl) ⟨_, _, rfl, rfl, by simp⟩) rfl ?_
    refine W.q (Ev.and (.t rfl) ⟨_, _, rfl, rfl, by simp⟩) rfl ?_
    refine W.q (Ev.assign (.t rfl)) rfl ?_
    refine W.nil ?_
    refine W.then ?_
    refine W.ret ?_
    refine W.retn (M' := []) (rs := [.tmp 6]) (avs := [_]) Try.results7 ⟨rfl, trivial⟩ rfl (.refl _) ?_
    exact ⟨congrArg AV.bool (by simp [flt_sp]), rfl⟩
  · have h0 := of_decide_eq_false hc_t17
    have hne : s = [] := List.eq_nil_of_length_eq_zero (by omega)
    refine W.is (t := 8) (g := true) (av' := .bool (spAfter ah s)) rfl (congrArg AV.bool (by rw [hne]; rfl)) ?_
    refine W.skip ?_
    refine W.then ?_
    refine W.seq ?_
    refine W.region ?_
    refine W.q (Ev.assign .f) rfl ?_
    refine W.nil ?_
    refine W.then ?_
    refine W.seq ?_
    refine W.region ?_
    refine W.callp (c_spaceSure) trivial rfl ?_
    refine W.q (Ev.move (.t rfl)) rfl ?_
    refine W.gyes rfl rfl ?_
    refine W.q (Ev.move (.t rfl)) rfl ?_
    refine W.gyes rfl rfl ?_
    refine W.q (Ev.move (.t rfl)) rfl ?_
    refine W.gyes rfl rfl ?_
    refine W.callp (WSpace.c_Text (sp ah s) ah (by omega)) ⟨(.t rfl), (.t rfl), trivial⟩ rfl ?_
    refine W.gyes rfl rfl ?_
    refine W.q (Ev.move (.t rfl)) rfl ?_
    refine W.gyes rfl rfl ?_
    refine W.q (Ev.eqs (.t rfl) (.t rfl)) rfl ?_
    refine W.q (Ev.and (.t rfl) ⟨_, _, rfl, rfl, by simp⟩) rfl ?_
    refine W.q (Ev.move (.t rfl)) rfl ?_
    refine W.is (t := 45) (g := true) (av' := .lit (.bool true)) rfl (congrArg (fun b => AV.lit (.bool b)) ?_) ?_
    · rw [sp_idem]; simp
    refine W.gyes rfl rfl ?_
    refine W.q (Ev.move (.t rfl)) rfl ?_
    refine W.gyes rfl rfl ?_
    refine W.q (Ev.move (.t rfl)) rfl ?_
    refine W.gyes rfl rfl ?_
    refine W.q (Ev.cat (.t rfl) (.t rfl) (fun _ => by first | omega | (simp only [List.length_append]; omega) | (simp [-List.length_flatMap]; omega) | (simp; omega))) rfl ?_
    refine W.gyes rfl rfl ?_
    refine W.q (Ev.move (.t rfl)) rfl ?_
    refine W.gyes rfl rfl ?_
    refine W.callp (WSpace.c_Text (s ++ t) ah (by rw [List.length_append]; omega)) ⟨(.t rfl), (.t rfl), trivial⟩ rfl ?_
    refine W.gyes rfl rfl ?_
    refine W.q (Ev.move (.t rfl)) rfl ?_
    refine W.gyes rfl rfl ?_
    refine W.q (Ev.move (.t rfl)) rfl ?_
    refine W.gyes rfl rfl ?_
    refine W.q (Ev.move (.t rfl)) rfl ?_
    refine W.gyes rfl rfl ?_
    refine W.callp (WSpace.c_Text t (spAfter ah s) (by omega)) ⟨(.t rfl), (.t rfl), trivial⟩ rfl ?_
    refine W.gyes rfl rfl ?_
    refine W.q (Ev.cat (.t rfl) (.t rfl) (fun _ => by first | omega | (simp only [List.length_append]; omega) | (simp [-List.length_flatMap]; omega) | (simp; omega))) rfl ?_
    refine W.gyes rfl rfl ?_
    refine W.q (Ev.eqs (.t rfl) (.t rfl)) rfl ?_
    refine W.q (Ev.and (.t rfl) ⟨_, _, rfl, rfl, by simp⟩) rfl ?_
    refine W.q (Ev.move (.t rfl)) rfl ?_
    refine W.is (t := 58) (g := true) (av' := .lit (.bool true)) rfl (congrArg (fun b => AV.lit (.bool b)) ?_) ?_
    · rw [sp_parts]; simp
    refine W.gyes rfl rfl ?_
    refine W.q (Ev.move (.t rfl)) rfl ?_
    refine W.gyes rfl rfl ?_
    refine W.q (Ev.lens (.t rfl) Try.underlying9) rfl ?_
    refine W.gyes rfl rfl ?_
    refine W.q (Ev.move (.t rfl)) rfl ?_
    refine W.gyes rfl rfl ?_
    refine W.q (Ev.lens (.t rfl) Try.underlying9) rfl ?_
    refine W.gyes rfl rfl ?_
    first | refine W.q (Ev.add (.t rfl) (.t rfl) (fun _ => by omega)) rfl ?_ | refine W.q (Ev.addw (.t rfl) (.t rfl)) rfl ?_
    refine W.gyes rfl rfl ?_
    refine W.q (Ev.gti (.t rfl) .k) rfl ?_
    refine W.gyes rfl rfl ?_
    refine W.q (Ev.move (.t rfl)) rfl ?_
    refine W.is (t := 65) (g := true) (av' := .lit (.bool false)) rfl (congrArg (fun b => AV.lit (.bool b)) ?_) ?_
    · simp; omega
    refine W.gyes rfl rfl ?_
    refine W.q (Ev.move (.t rfl)) rfl ?_
    refine W.gyes rfl rfl ?_
    refine W.q (Ev.move (.t rfl)) rfl ?_
    refine W.gyes rfl rfl ?_
    refine W.callv (caps := []) (avs := [_]) (c_flt (sp ah s) (by omega)) (.t rfl) ⟨(.t rfl), trivial⟩ rfl (.refl _) rfl ?_
    rintro _ _ ⟨rfl, rfl⟩
    refine W.gyes rfl rfl ?_
    refine W.q (Ev.move (.t rfl)) rfl ?_
    refine W.gyes rfl rfl ?_
    refine W.q (Ev.move (.t rfl)) rfl ?_
    refine W.gyes rfl rfl ?_
    refine W.callv (caps := []) (avs := [_]) (c_flt s (by omega)) (.t rfl) ⟨(.t rfl), trivial⟩ rfl (.refl _) rfl ?_
    rintro _ _ ⟨rfl, rfl⟩
    refine W.gyes rfl rfl ?_
    refine W.q (Ev.eqs (.t rfl) (.t rfl)) rfl ?_
    refine W.gyes rfl rfl ?_
    refine W.q (Ev.or (.t rfl) ⟨_, _, rfl, rfl, by simp⟩) rfl ?_
    refine W.q (Ev.and (.t rfl) ⟨_, _, rfl, rfl, by simp⟩) rfl ?_
    refine W.q (Ev.assign (.t rfl)) rfl ?_
    refine W.nil ?_
    refine W.then ?_
    refine W.ret ?_
    refine W.retn (M' := []) (rs := [.tmp 6]) (avs := [_]) Try.results7 ⟨rfl, trivial⟩ rfl (.refl _) ?_
    exact ⟨congrArg AV.bool (by simp [flt_sp]), rfl⟩

theorem c_SpaceOnce (s t : List UInt8) (ah : Bool) (hs : s.length ≤ 1048576) (ht : t.length ≤ 1048576) : FnP Try.prog 7 [.str s, .str t, .bool ah] (.bool true) := by
  by_cases hq : 200 < s.length + t.length
  · exact c_big s t ah hs ht hq
  · exact c_small s t ah hs ht hq

end LSpaceOnce

end Go.Proofs.Ytofmjmicgddljaa
