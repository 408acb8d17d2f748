/-
  Package space.
-/
import Derived.Test.YtofmjmicgddljaaSpace
import Derived.Test.YtofmjmicgddljaaBase
import Derived.Test.YtofmjmicgddljaaWBld
set_option linter.unusedVariables false
set_option linter.unusedSimpArgs false
set_option maxRecDepth 100000
namespace Go.Proofs.Ytofmjmicgddljaa
open Go.Vl

namespace WSpace
theorem ty68 : Ty Try.prog 68 2 32 (.agg #[.pointer none, .slice none 0 0]) := Ty.of (by kernel_rfl)
theorem c_space (z : Int) : FnP Try.prog 36 [.lit (.int .u8 z)] (.bool (spz z)) :=  by
  refine FnC.mk Try.func36 (by kernel_rfl) rfl Try.ntmps36 rfl (fun w0 F => ?_)
  refine W.seq ?_
  refine W.region ?_
  refine W.q (Ev.assign .k) rfl ?_
  refine W.nil ?_
  refine W.then ?_
  refine W.seq ?_
  refine W.region ?_
  refine W.q (Ev.move (.t rfl)) rfl ?_
  refine W.q (Ev.eqi (.t rfl) .k) rfl ?_
  refine W.q (Ev.move (.t rfl)) rfl ?_
  refine W.qgF rfl rfl (Ev.move (.t rfl)) rfl ?_
  refine W.qgF rfl rfl (Ev.eqi (.c rfl) .k) rfl ?_
  refine W.q (Ev.or (.t rfl) ⟨_, _, rfl, rfl, by simp⟩) rfl ?_
  refine W.q (Ev.move (.t rfl)) rfl ?_
  refine W.qgF rfl rfl (Ev.move (.t rfl)) rfl ?_
  refine W.qgF rfl rfl (Ev.eqi (.c rfl) .k) rfl ?_
  refine W.q (Ev.or (.t rfl) ⟨_, _, rfl, rfl, by simp⟩) rfl ?_
  refine W.q (Ev.move (.t rfl)) rfl ?_
  refine W.qgF rfl rfl (Ev.move (.t rfl)) rfl ?_
  refine W.qgF rfl rfl (Ev.eqi (.c rfl) .k) rfl ?_
  refine W.q (Ev.or (.t rfl) ⟨_, _, rfl, rfl, by simp⟩) rfl ?_
  refine W.q (Ev.assign (.t rfl)) rfl ?_
  refine W.nil ?_
  refine W.then ?_
  refine W.ret ?_
  refine W.retn (M' := []) (rs := [.tmp 2]) (avs := [_]) Try.results36 ⟨rfl, trivial⟩ rfl (.refl _) ?_
  exact ⟨rfl, rfl⟩

theorem c_Text (s : List UInt8) (ah0 : Bool) (hs : s.length ≤ 17592186044416) : FnP Try.prog 18 [.str s, .bool ah0] (.str (sp ah0 s)) :=  by
  refine FnC.mk Try.func18 (by kernel_rfl) rfl Try.ntmps18 rfl (fun w0 F => ?_)
  refine W.seq ?_
  refine W.region ?_
  refine W.q (Ev.assign .k) rfl ?_
  refine W.nil ?_
  refine W.then ?_
  refine W.seq ?_
  refine W.region ?_
  refine W.alloc ty68 rfl rfl ?_
  intro b5
  refine W.nil ?_
  refine W.then ?_
  refine W.seq ?_
  refine W.seq ?_
  refine W.region ?_
  refine W.q (Ev.move (.t rfl)) rfl ?_
  refine W.q (Ev.lens (.t rfl) Try.underlying9) rfl ?_
  refine W.q (Ev.move .k) rfl ?_
  refine W.nil ?_
  refine W.then ?_
  refine W.block ?_
  refine W.own_nil 5 1 ?_
  refine W.loop (D := []) (ι := Nat × Bool × List UInt8 × Value × Option Addr) (fun z => [(9, true, .int (z.1 : Int)), (8, true, .int (s.length : Int)), (0, true, .str s), (1, true, .bool z.2.1), (5, true, .lit (.pointer (some ⟨b5, 0, none⟩)))]) (fun z => [.box b5 68 [.lit (.pointer z.2.2.2.2), .lit z.2.2.2.1], .arr z.2.2.2.1 5 1 (z.2.2.1.map AV.u8)]) (fun z => z.1 ≤ s.length ∧ z.2.2.1 ++ sp z.2.1 (s.drop z.1) = sp ah0 s ∧ z.2.2.1.length ≤ z.1 ∧ (z.2.2.2.1 = .slice none 0 0 ∨ z.2.2.1 ≠ []) ∧ (z.2.2.2.2 = none ∨ z.2.2.2.2 = some ⟨b5, 0, none⟩)) (fun z => s.length - z.1) (0, ah0, [], .slice none 0 0, none) ⟨rfl, rfl, rfl, rfl, rfl, trivial⟩ (List.Perm.swap _ _ []) ⟨Nat.zero_le _, by simp, by simp, .inl rfl, .inl rfl⟩ ?_
  rintro ⟨i, ah, out, v, p⟩ ⟨hi1, hi2, hi3, hi4, hi5⟩
  dsimp only at hi1 hi2 hi3 hi4 hi5 ⊢
  rcases (show i < s.length ∨ i = s.length from by omega) with hlt | hend
  · have hd := drop_byte s i hlt
    rw [hd] at hi2
    refine W.seq ?_
    refine W.region ?_
    refine W.q (Ev.lti (.t rfl) (.t rfl)) rfl ?_
    refine W.nil ?_
    refine W.then ?_
    refine W.seq ?_
    refine W.is (t := 10) (g := true) (av' := .lit (.bool true)) rfl (congrArg (fun b => AV.lit (.bool b)) (by simp; omega)) ?_
    refine W.condT (.t rfl) ?_
    refine W.skip ?_
    refine W.then ?_
    refine W.seq ?_
    refine W.block ?_
    refine W.seq ?_
    refine W.region ?_
    refine W.q (Ev.move (.t rfl)) rfl ?_
    refine W.q (Ev.assign (.t rfl)) rfl ?_
    refine W.nil ?_
    refine W.then ?_
    refine W.seq ?_
    refine W.seq ?_
    refine W.region ?_
    refine W.q (Ev.move (.t rfl)) rfl ?_
    refine W.q (Ev.move (.t rfl)) rfl ?_
    refine W.q (Ev.ats' (.t rfl) (.t rfl) Try.underlying9 (fun hg => by first | omega | (simp at hg; omega))) rfl ?_
    refine W.callp (c_space _) ⟨(.t rfl), trivial⟩ rfl ?_
    refine W.q (Ev.not (.t rfl)) rfl ?_
    refine W.nil ?_
    refine W.then ?_
    refine W.cond (.t rfl) (fun hc_t16 => ?_) (fun hc_t16 => ?_)
    · have hsp : spx (s.getD i 0) = false := by simpa [spx] using hc_t16
      simp only [sp, hsp, cond_false] at hi2
      refine W.seq ?_
      refine W.region ?_
      refine W.q (Ev.move (.t rfl)) rfl ?_
      refine W.q (Ev.move (.t rfl)) rfl ?_
      refine W.q (Ev.ats' (.t rfl) (.t rfl) Try.underlying9 (fun hg => by first | omega | (simp at hg; omega))) rfl ?_
      refine W.call (WBld.c_WriteByte b5 p v out hi5 (by omega) (s.getD i 0)) ⟨(.t rfl), (.t rfl), trivial⟩ (.refl _) rfl ?_
      rintro _ _ ⟨rfl, v20, rfl⟩
      refine W.nil ?_
      refine W.then ?_
      refine W.seq ?_
      refine W.region ?_
      refine W.q (Ev.assign .k) rfl ?_
      refine W.nil ?_
      refine W.then ?_
      refine W.exit ?_
      refine W.then_exit ?_
      refine W.blk_hit ?_
      refine W.then ?_
      refine W.region ?_
      first | refine W.q (Ev.add (.t rfl) .k (fun _ => by omega)) rfl ?_ | refine W.q (Ev.addw (.t rfl) .k) rfl ?_
      refine W.q (Ev.move (.t rfl)) rfl ?_
      refine W.nil ?_
      refine W.then ?_
      first
      | (refine W.reach (D := []) (i + 1, false, out ++ [s.getD i 0], v20, some ⟨b5, 0, none⟩) ⟨rfl, rfl, rfl, rfl, rfl, trivial⟩ (.refl _) ⟨⟨?_, ?_, ?_, ?_, ?_⟩, ?_⟩
         · show i + 1 ≤ _; omega
         · show (out ++ [s.getD i 0]) ++ sp _ _ = _; rw [← hi2]; try simp
         · show List.length (out ++ [s.getD i 0]) ≤ i + 1; rw [List.length_append, List.length_singleton]; omega
         · exact .inr (by simp)
         · exact .inr rfl
         · show s.length - (i + 1) < s.length - i; omega)
      | (refine W.reach (D := []) (i + 1, true, out ++ [32], v23, some ⟨b5, 0, none⟩) ⟨rfl, rfl, rfl, rfl, rfl, trivial⟩ (.refl _) ⟨⟨?_, ?_, ?_, ?_, ?_⟩, ?_⟩
         · show i + 1 ≤ _; omega
         · show (out ++ [32]) ++ sp _ _ = _; rw [← hi2]; try simp
         · show List.length (out ++ [32]) ≤ i + 1; rw [List.length_append, List.length_singleton]; omega
         · exact .inr (by simp)
         · exact .inr rfl
         · show s.length - (i + 1) < s.length - i; omega)
      | (refine W.reach (D := []) (i + 1, true, out, v, p) ⟨rfl, rfl, rfl, rfl, rfl, trivial⟩ (.refl _) ⟨⟨?_, ?_, ?_, ?_, ?_⟩, ?_⟩
         · show i + 1 ≤ _; omega
         · show out ++ sp _ _ = _; rw [← hi2]; try simp
         · show List.length out ≤ i + 1; omega
         · exact hi4
         · exact hi5
         · show s.length - (i + 1) < s.length - i; omega)
    · have hsp : spx (s.getD i 0) = true := by simpa [spx] using hc_t16
      simp only [sp, hsp, cond_true] at hi2
      refine W.skip ?_
      refine W.then ?_
      refine W.seq ?_
      refine W.seq ?_
      refine W.region ?_
      refine W.q (Ev.move (.t rfl)) rfl ?_
      refine W.q (Ev.not (.t rfl)) rfl ?_
      refine W.nil ?_
      refine W.then ?_
      refine W.cond (.t rfl) (fun hc_t22 => ?_) (fun hc_t22 => ?_)
      · have hah : ah = false := by simpa using hc_t22
        subst hah
        simp only [cond_false] at hi2
        refine W.region ?_
        refine W.call (WBld.c_WriteByte b5 p v out hi5 (by omega) 32) ⟨(.t rfl), .k, trivial⟩ (.refl _) rfl ?_
        rintro _ _ ⟨rfl, v23, rfl⟩
        refine W.nil ?_
        refine W.then ?_
        refine W.region ?_
        refine W.q (Ev.assign .k) rfl ?_
        refine W.nil ?_
        refine W.blk_normal ?_
        refine W.then ?_
        refine W.region ?_
        first | refine W.q (Ev.add (.t rfl) .k (fun _ => by omega)) rfl ?_ | refine W.q (Ev.addw (.t rfl) .k) rfl ?_
        refine W.q (Ev.move (.t rfl)) rfl ?_
        refine W.nil ?_
        refine W.then ?_
        first
        | (refine W.reach (D := []) (i + 1, false, out ++ [s.getD i 0], v20, some ⟨b5, 0, none⟩) ⟨rfl, rfl, rfl, rfl, rfl, trivial⟩ (.refl _) ⟨⟨?_, ?_, ?_, ?_, ?_⟩, ?_⟩
           · show i + 1 ≤ _; omega
           · show (out ++ [s.getD i 0]) ++ sp _ _ = _; rw [← hi2]; try simp
           · show List.length (out ++ [s.getD i 0]) ≤ i + 1; rw [List.length_append, List.length_singleton]; omega
           · exact .inr (by simp)
           · exact .inr rfl
           · show s.length - (i + 1) < s.length - i; omega)
        | (refine W.reach (D := []) (i + 1, true, out ++ [32], v23, some ⟨b5, 0, none⟩) ⟨rfl, rfl, rfl, rfl, rfl, trivial⟩ (.refl _) ⟨⟨?_, ?_, ?_, ?_, ?_⟩, ?_⟩
           · show i + 1 ≤ _; omega
           · show (out ++ [32]) ++ sp _ _ = _; rw [← hi2]; try simp
           · show List.length (out ++ [32]) ≤ i + 1; rw [List.length_append, List.length_singleton]; omega
           · exact .inr (by simp)
           · exact .inr rfl
           · show s.length - (i + 1) < s.length - i; omega)
        | (refine W.reach (D := []) (i + 1, true, out, v, p) ⟨rfl, rfl, rfl, rfl, rfl, trivial⟩ (.refl _) ⟨⟨?_, ?_, ?_, ?_, ?_⟩, ?_⟩
           · show i + 1 ≤ _; omega
           · show out ++ sp _ _ = _; rw [← hi2]; try simp
           · show List.length out ≤ i + 1; omega
           · exact hi4
           · exact hi5
           · show s.length - (i + 1) < s.length - i; omega)
      · have hah : ah = true := by simpa using hc_t22
        subst hah
        simp only [cond_true] at hi2
        refine W.skip ?_
        refine W.then ?_
        refine W.region ?_
        refine W.q (Ev.assign .k) rfl ?_
        refine W.nil ?_
        refine W.blk_normal ?_
        refine W.then ?_
        refine W.region ?_
        first | refine W.q (Ev.add (.t rfl) .k (fun _ => by omega)) rfl ?_ | refine W.q (Ev.addw (.t rfl) .k) rfl ?_
        refine W.q (Ev.move (.t rfl)) rfl ?_
        refine W.nil ?_
        refine W.then ?_
        first
        | (refine W.reach (D := []) (i + 1, false, out ++ [s.getD i 0], v20, some ⟨b5, 0, none⟩) ⟨rfl, rfl, rfl, rfl, rfl, trivial⟩ (.refl _) ⟨⟨?_, ?_, ?_, ?_, ?_⟩, ?_⟩
           · show i + 1 ≤ _; omega
           · show (out ++ [s.getD i 0]) ++ sp _ _ = _; rw [← hi2]; try simp
           · show List.length (out ++ [s.getD i 0]) ≤ i + 1; rw [List.length_append, List.length_singleton]; omega
           · exact .inr (by simp)
           · exact .inr rfl
           · show s.length - (i + 1) < s.length - i; omega)
        | (refine W.reach (D := []) (i + 1, true, out ++ [32], v23, some ⟨b5, 0, none⟩) ⟨rfl, rfl, rfl, rfl, rfl, trivial⟩ (.refl _) ⟨⟨?_, ?_, ?_, ?_, ?_⟩, ?_⟩
           · show i + 1 ≤ _; omega
           · show (out ++ [32]) ++ sp _ _ = _; rw [← hi2]; try simp
           · show List.length (out ++ [32]) ≤ i + 1; rw [List.length_append, List.length_singleton]; omega
           · exact .inr (by simp)
           · exact .inr rfl
           · show s.length - (i + 1) < s.length - i; omega)
        | (refine W.reach (D := []) (i + 1, true, out, v, p) ⟨rfl, rfl, rfl, rfl, rfl, trivial⟩ (.refl _) ⟨⟨?_, ?_, ?_, ?_, ?_⟩, ?_⟩
           · show i + 1 ≤ _; omega
           · show out ++ sp _ _ = _; rw [← hi2]; try simp
           · show List.length out ≤ i + 1; omega
           · exact hi4
           · exact hi5
           · show s.length - (i + 1) < s.length - i; omega)
  · rw [List.drop_of_length_le (by omega), sp, List.append_nil] at hi2
    refine W.seq ?_
    refine W.region ?_
    refine W.q (Ev.lti (.t rfl) (.t rfl)) rfl ?_
    refine W.nil ?_
    refine W.then ?_
    refine W.seq ?_
    refine W.is (t := 10) (g := true) (av' := .lit (.bool false)) rfl (congrArg (fun b => AV.lit (.bool b)) (by simp; omega)) ?_
    refine W.condF (.t rfl) ?_
    refine W.exit ?_
    refine W.then_exit ?_
    refine W.then_exit ?_
    refine W.blk_hit ?_
    refine W.then ?_
    refine W.seq ?_
    refine W.region ?_
    refine W.call (WBld.c_String b5 p v out hi5 (by omega) hi4) ⟨(.t rfl), trivial⟩ (.refl _) rfl ?_
    rintro _ _ ⟨rfl, rfl⟩
    refine W.q (Ev.assign (.t rfl)) rfl ?_
    refine W.nil ?_
    refine W.then ?_
    refine W.ret ?_
    refine W.retn (M' := []) (rs := [.tmp 4]) (avs := [_]) Try.results18 ⟨rfl, trivial⟩ rfl (.refl _) ?_
    exact ⟨congrArg AV.str hi2, rfl⟩

end WSpace

end Go.Proofs.Ytofmjmicgddljaa
