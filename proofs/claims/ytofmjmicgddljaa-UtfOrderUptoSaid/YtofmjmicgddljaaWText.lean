/-
  Text of letters.
-/
import Derived.Test.YtofmjmicgddljaaMore
import Derived.Test.YtofmjmicgddljaaWUtf
set_option linter.unusedVariables false
set_option linter.unusedSimpArgs false
set_option maxRecDepth 100000
namespace Go.Proofs.Ytofmjmicgddljaa
open Go.Vl

namespace WText
theorem ty3 : Ty Try.prog 3 1 8 (.int .i64 0) := Ty.of (by kernel_rfl)
theorem ag3 : IsAgg Try.prog 3 false := ⟨_, Try.underlying3, rfl⟩
theorem c_Text (l : List Int) (hl : l.length ≤ 1099511627776) : FnP Try.prog 22 [.sl 1 (l.map AV.int)] (.tup [.str (textS l), .int (textE l)]) :=  by
  refine FnC.mk Try.func22 (by kernel_rfl) rfl Try.ntmps22 rfl (fun w0 F => ?_)
  have hll : (l.map AV.int).length = l.length := List.length_map ..
  refine W.seq ?_
  refine W.region ?_
  refine W.q (Ev.assign .k) rfl ?_
  refine W.q (Ev.assign .k) rfl ?_
  refine W.nil ?_
  refine W.then ?_
  refine W.seq ?_
  refine W.region ?_
  refine W.q (Ev.assign .k) rfl ?_
  refine W.nil ?_
  refine W.then ?_
  refine W.seq ?_
  refine W.seq ?_
  refine W.region ?_
  refine W.q (Ev.move (.t rfl)) rfl ?_
  first | refine W.q (Ev.lensl (.t rfl) Try.underlying22) rfl ?_ | refine W.q (Ev.lenar (i := 0) (.t rfl) rfl Try.underlying22) rfl ?_ | refine W.q (Ev.lenar (i := 1) (.t rfl) rfl Try.underlying22) rfl ?_ | refine W.q (Ev.lenar (i := 2) (.t rfl) rfl Try.underlying22) rfl ?_ | refine W.q (Ev.lenar (i := 3) (.t rfl) rfl Try.underlying22) rfl ?_
  refine W.q (Ev.move .k) rfl ?_
  refine W.nil ?_
  refine W.then ?_
  refine W.block ?_
  refine W.own_nil 5 1 ?_
  refine W.loop (D := []) (ι := Nat × List UInt8 × Value) (fun z => [(9, true, .int (z.1 : Int)), (8, true, .int ((l.map AV.int).length : Int)), (7, true, .sl 1 (l.map AV.int)), (4, true, .lit z.2.2)]) (fun z => [.arr z.2.2 5 1 (z.2.1.map AV.u8)]) (fun z => z.1 ≤ l.length ∧ z.2.1 = (l.take z.1).flatMap enc ∧ (∀ c ∈ l.take z.1, Utf8.valid c = true) ∧ z.2.1.length ≤ 4 * z.1) (fun z => l.length - z.1) (0, [], .slice none 0 0) ⟨rfl, rfl, rfl, rfl, trivial⟩ (.refl _) ⟨Nat.zero_le _, by simp, by simp, by simp⟩ ?_
  rintro ⟨i, out, v⟩ ⟨hi1, hi2, hi3, hi4⟩
  dsimp only at hi1 hi2 hi3 hi4 ⊢
  have hga : i < l.length → (l.map AV.int)[i]? = some (AV.int (l.getD i 0)) := getD_map l i
  have hgm : i < l.length → l.getD i 0 ∈ l := getD_mem l i
  have hgt : i < l.length → l.take (i + 1) = l.take i ++ [l.getD i 0] := take_getD l i
  generalize hz : l.getD i 0 = z at hga hgm hgt
  rcases (show (i < l.length ∧ (0 ≤ z ∧ z ≤ 1114111)) ∨ (i < l.length ∧ ¬ (0 ≤ z ∧ z ≤ 1114111)) ∨ i = l.length from by omega) with ⟨hlt, hin⟩ | ⟨hlt, hout⟩ | hend
  · replace hga := hga hlt
    have hw : IntKind.i32.wrap z = z := by rw [IntKind.wrap_i32]; omega
    have hen := (enc_len z).2
    refine W.seq ?_
    refine W.region ?_
    refine W.q (Ev.lti (.t rfl) (.t rfl)) rfl ?_
    refine W.nil ?_
    refine W.then ?_
    refine W.seq ?_
    refine W.is (t := 10) (g := true) (av' := .lit (.bool true)) rfl (congrArg (fun b => AV.lit (.bool b)) (by simp; omega)) ?_
    refine W.condT (.t rfl) ?_
    refine W.skip ?_
    refine W.then ?_
    refine W.seq ?_
    refine W.block ?_
    refine W.seq ?_
    refine W.region ?_
    first | refine W.q (Ev.at (E := 3) (.t rfl) (.t rfl) Try.underlying22 ty3 (fun _ => ⟨by omega, by assumption⟩) rfl rfl) rfl ?_ | refine W.q (Ev.ata 0 (.t rfl) rfl (.t rfl) Try.underlying22 ty3 (fun _ => by omega)) rfl ?_ | refine W.q (Ev.ata 1 (.t rfl) rfl (.t rfl) Try.underlying22 ty3 (fun _ => by omega)) rfl ?_ | refine W.q (Ev.ata 2 (.t rfl) rfl (.t rfl) Try.underlying22 ty3 (fun _ => by omega)) rfl ?_ | refine W.q (Ev.ata 3 (.t rfl) rfl (.t rfl) Try.underlying22 ty3 (fun _ => by omega)) rfl ?_
    first | refine W.q (Ev.lde1 (.t rfl) ag3) rfl ?_ | refine W.q (Ev.ldb1 0 (.t rfl) rfl ag3 rfl) rfl ?_ | refine W.q (Ev.ldb1 1 (.t rfl) rfl ag3 rfl) rfl ?_ | refine W.q (Ev.ldb1 2 (.t rfl) rfl ag3 rfl) rfl ?_ | refine W.q (Ev.ldb1 3 (.t rfl) rfl ag3 rfl) rfl ?_
    refine W.q (Ev.assign (.t rfl)) rfl ?_
    refine W.nil ?_
    refine W.then ?_
    refine W.seq ?_
    refine W.seq ?_
    refine W.region ?_
    refine W.q (Ev.move (.t rfl)) rfl ?_
    refine W.q (Ev.lti (.t rfl) .k) rfl ?_
    refine W.q (Ev.move (.t rfl)) rfl ?_
    refine W.qgF rfl rfl (Ev.move (.t rfl)) rfl ?_
    refine W.qgF rfl rfl (Ev.gti (.c rfl) .k) rfl ?_
    refine W.q (Ev.or (.t rfl) ⟨_, _, rfl, rfl, by simp⟩) rfl ?_
    refine W.q (Ev.move (.t rfl)) rfl ?_
    refine W.is (t := 19) (g := true) (av' := .lit (.bool false)) rfl (congrArg (fun b => AV.lit (.bool b)) ?_) ?_
    · simp; omega
    refine W.gyes rfl rfl ?_
    refine W.q (Ev.move (.t rfl)) rfl ?_
    refine W.gyes rfl rfl ?_
    refine W.q (Ev.conv (.t rfl) ⟨_, Try.underlying3⟩ Try.underlying21) rfl ?_
    refine W.gyes rfl rfl ?_
    refine W.callp (WUtf.c_ValidRune (IntKind.i32.wrap z)) ⟨(.t rfl), trivial⟩ rfl ?_
    refine W.gyes rfl rfl ?_
    refine W.q (Ev.not (.t rfl)) rfl ?_
    refine W.q (Ev.or (.t rfl) ⟨_, _, rfl, rfl, by simp⟩) rfl ?_
    refine W.nil ?_
    refine W.then ?_
    refine W.cond (.t rfl) (fun hc_t24 => ?_) (fun hc_t24 => ?_)
    · have hbad : Utf8.valid z = false := by rw [hw] at hc_t24; simpa using hc_t24
      obtain ⟨hS, hE⟩ := text_bad l z (hgm hlt) hbad
      refine W.seq ?_
      refine W.region ?_
      refine W.q (Ev.assign .k) rfl ?_
      refine W.q (Ev.assign .k) rfl ?_
      refine W.nil ?_
      refine W.then ?_
      refine W.ret ?_
      refine W.then_ret ?_
      refine W.blk_ret ?_
      refine W.then_ret ?_
      refine W.then_ret ?_
      refine W.blk_ret ?_
      refine W.then_ret ?_
      refine W.retn (M' := []) (rs := [.tmp 2, .tmp 3]) (avs := [_, _]) Try.results22 ⟨rfl, rfl, trivial⟩ rfl (.refl _) ?_
      exact ⟨by rw [hS, hE]; rfl, rfl⟩
    · have hok : Utf8.valid z = true := by rw [hw] at hc_t24; simpa using hc_t24
      refine W.skip ?_
      refine W.then ?_
      refine W.region ?_
      refine W.q (Ev.move (.t rfl)) rfl ?_
      refine W.q (Ev.move (.t rfl)) rfl ?_
      refine W.q (Ev.conv (.t rfl) ⟨_, Try.underlying3⟩ Try.underlying21) rfl ?_
      refine W.call (WUtf.c_AppendRune v out (IntKind.i32.wrap z) (by omega) (by rw [hw]; omega)) ⟨(.t rfl), (.t rfl), trivial⟩ (.refl _) rfl ?_
      rintro _ _ ⟨v28, rfl, rfl⟩
      refine W.q (Ev.assign (.t rfl)) rfl ?_
      refine W.nil ?_
      refine W.blk_normal ?_
      refine W.then ?_
      refine W.region ?_
      first | refine W.q (Ev.add (.t rfl) .k (fun _ => by omega)) rfl ?_ | refine W.q (Ev.addw (.t rfl) .k) rfl ?_
      refine W.q (Ev.move (.t rfl)) rfl ?_
      refine W.nil ?_
      refine W.then ?_
      refine W.reach (D := []) (i + 1, out ++ enc z, v28) ⟨rfl, rfl, rfl, rfl, trivial⟩ (by rw [hw]) ⟨⟨by omega, ?_, ?_, ?_⟩, by omega⟩
      · show out ++ enc z = _; rw [hgt hlt, hi2]; simp
      · show ∀ c ∈ l.take (i + 1), _; rw [hgt hlt]; intro c hc; cases List.mem_append.1 hc with | inl h => exact hi3 c h | inr h => rw [List.mem_singleton.1 h]; exact hok
      · show (out ++ enc z).length ≤ 4 * (i + 1); rw [List.length_append]; omega
  · replace hga := hga hlt
    have hbad := valid_out z hout
    obtain ⟨hS, hE⟩ := text_bad l z (hgm hlt) hbad
    refine W.seq ?_
    refine W.region ?_
    refine W.q (Ev.lti (.t rfl) (.t rfl)) rfl ?_
    refine W.nil ?_
    refine W.then ?_
    refine W.seq ?_
    refine W.is (t := 10) (g := true) (av' := .lit (.bool true)) rfl (congrArg (fun b => AV.lit (.bool b)) (by simp; omega)) ?_
    refine W.condT (.t rfl) ?_
    refine W.skip ?_
    refine W.then ?_
    refine W.seq ?_
    refine W.block ?_
    refine W.seq ?_
    refine W.region ?_
    first | refine W.q (Ev.at (E := 3) (.t rfl) (.t rfl) Try.underlying22 ty3 (fun _ => ⟨by omega, by assumption⟩) rfl rfl) rfl ?_ | refine W.q (Ev.ata 0 (.t rfl) rfl (.t rfl) Try.underlying22 ty3 (fun _ => by omega)) rfl ?_ | refine W.q (Ev.ata 1 (.t rfl) rfl (.t rfl) Try.underlying22 ty3 (fun _ => by omega)) rfl ?_ | refine W.q (Ev.ata 2 (.t rfl) rfl (.t rfl) Try.underlying22 ty3 (fun _ => by omega)) rfl ?_ | refine W.q (Ev.ata 3 (.t rfl) rfl (.t rfl) Try.underlying22 ty3 (fun _ => by omega)) rfl ?_
    first | refine W.q (Ev.lde1 (.t rfl) ag3) rfl ?_ | refine W.q (Ev.ldb1 0 (.t rfl) rfl ag3 rfl) rfl ?_ | refine W.q (Ev.ldb1 1 (.t rfl) rfl ag3 rfl) rfl ?_ | refine W.q (Ev.ldb1 2 (.t rfl) rfl ag3 rfl) rfl ?_ | refine W.q (Ev.ldb1 3 (.t rfl) rfl ag3 rfl) rfl ?_
    refine W.q (Ev.assign (.t rfl)) rfl ?_
    refine W.nil ?_
    refine W.then ?_
    refine W.seq ?_
    refine W.seq ?_
    refine W.region ?_
    refine W.q (Ev.move (.t rfl)) rfl ?_
    refine W.q (Ev.lti (.t rfl) .k) rfl ?_
    refine W.q (Ev.move (.t rfl)) rfl ?_
    refine W.qgF rfl rfl (Ev.move (.t rfl)) rfl ?_
    refine W.qgF rfl rfl (Ev.gti (.c rfl) .k) rfl ?_
    refine W.q (Ev.or (.t rfl) ⟨_, _, rfl, rfl, by simp⟩) rfl ?_
    refine W.q (Ev.move (.t rfl)) rfl ?_
    refine W.is (t := 19) (g := true) (av' := .lit (.bool true)) rfl (congrArg (fun b => AV.lit (.bool b)) ?_) ?_
    · simp; omega
    refine W.gnob rfl rfl (by simp) rfl ?_
    refine W.gnob rfl rfl (by simp) rfl ?_
    refine W.gnob rfl rfl (by simp) rfl ?_
    refine W.gnob rfl rfl (by simp) rfl ?_
    refine W.q (Ev.or (.t rfl) ⟨_, _, rfl, rfl, by simp⟩) rfl ?_
    refine W.nil ?_
    refine W.then ?_
    refine W.condT (.t rfl) ?_
    refine W.seq ?_
    refine W.region ?_
    refine W.q (Ev.assign .k) rfl ?_
    refine W.q (Ev.assign .k) rfl ?_
    refine W.nil ?_
    refine W.then ?_
    refine W.ret ?_
    refine W.then_ret ?_
    refine W.blk_ret ?_
    refine W.then_ret ?_
    refine W.then_ret ?_
    refine W.blk_ret ?_
    refine W.then_ret ?_
    refine W.retn (M' := []) (rs := [.tmp 2, .tmp 3]) (avs := [_, _]) Try.results22 ⟨rfl, rfl, trivial⟩ rfl (.refl _) ?_
    exact ⟨by rw [hS, hE]; rfl, rfl⟩
  · have ht : l.take i = l := List.take_of_length_le (by omega)
    rw [ht] at hi2 hi3
    obtain ⟨hS, hE⟩ := text_ok l hi3
    have hom : (out.map AV.u8).length = out.length := List.length_map ..
    refine W.seq ?_
    refine W.region ?_
    refine W.q (Ev.lti (.t rfl) (.t rfl)) rfl ?_
    refine W.nil ?_
    refine W.then ?_
    refine W.seq ?_
    refine W.is (t := 10) (g := true) (av' := .lit (.bool false)) rfl (congrArg (fun b => AV.lit (.bool b)) (by simp; omega)) ?_
    refine W.condF (.t rfl) ?_
    refine W.exit ?_
    refine W.then_exit ?_
    refine W.then_exit ?_
    refine W.blk_hit ?_
    refine W.then ?_
    refine W.seq ?_
    refine W.seq ?_
    refine W.region ?_
    refine W.q (Ev.move (.t rfl)) rfl ?_
    first | refine W.q (Ev.lensl (.t rfl) Try.underlying61) rfl ?_ | refine W.q (Ev.lenar (i := 0) (.t rfl) rfl Try.underlying61) rfl ?_ | refine W.q (Ev.lenar (i := 1) (.t rfl) rfl Try.underlying61) rfl ?_ | refine W.q (Ev.lenar (i := 2) (.t rfl) rfl Try.underlying61) rfl ?_ | refine W.q (Ev.lenar (i := 3) (.t rfl) rfl Try.underlying61) rfl ?_
    refine W.q (Ev.gti (.t rfl) .k) rfl ?_
    refine W.nil ?_
    refine W.then ?_
    refine W.cond (.t rfl) (fun hc_t32 => ?_) (fun hc_t32 => ?_)
    · rw [← hi2, if_neg (by simp at hc_t32; omega)] at hS hE
      refine W.seq ?_
      refine W.region ?_
      refine W.q (Ev.assign .k) rfl ?_
      refine W.q (Ev.assign .k) rfl ?_
      refine W.nil ?_
      refine W.then ?_
      refine W.ret ?_
      refine W.then_ret ?_
      refine W.retn (M' := []) (rs := [.tmp 2, .tmp 3]) (avs := [_, _]) Try.results22 ⟨rfl, rfl, trivial⟩ rfl (.refl _) ?_
      exact ⟨by rw [hS, hE]; rfl, rfl⟩
    · rw [← hi2, if_pos (by simp at hc_t32; omega)] at hS hE
      refine W.skip ?_
      refine W.then ?_
      refine W.seq ?_
      refine W.region ?_
      refine W.q (Ev.move (.t rfl)) rfl ?_
      first | refine W.q (Ev.b2s 0 (.t rfl) rfl Try.underlying61 Try.underlying5 Try.underlying9) rfl ?_ | refine W.q (Ev.b2s 1 (.t rfl) rfl Try.underlying61 Try.underlying5 Try.underlying9) rfl ?_ | refine W.q (Ev.b2s 2 (.t rfl) rfl Try.underlying61 Try.underlying5 Try.underlying9) rfl ?_ | refine W.q (Ev.b2s 3 (.t rfl) rfl Try.underlying61 Try.underlying5 Try.underlying9) rfl ?_
      refine W.q (Ev.assign (.t rfl)) rfl ?_
      refine W.q (Ev.assign .k) rfl ?_
      refine W.nil ?_
      refine W.then ?_
      refine W.ret ?_
      refine W.retn (M' := []) (rs := [.tmp 2, .tmp 3]) (avs := [_, _]) Try.results22 ⟨rfl, rfl, trivial⟩ rfl (.refl _) ?_
      exact ⟨by rw [hS, hE]; rfl, rfl⟩

end WText

end Go.Proofs.Ytofmjmicgddljaa
