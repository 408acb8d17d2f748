/-
  Nodes are counted.
-/
import Derived.Test.YtpjngpegkoohgaaTree
import Derived.Test.YtpjngpegkoohgaaBase
set_option linter.unusedVariables false
set_option linter.unusedSimpArgs false
set_option maxRecDepth 100000
namespace Go.Proofs.Ytpjngpegkoohgaa
open Go.Vl

namespace WCount
theorem ty24 : Ty Try.prog 24 1 24 (.slice none 0 0) := Ty.of (by kernel_rfl)
theorem ty42 : Ty Try.prog 42 4 80 (.agg #[.string ⟨#[]⟩, .slice none 0 0, .string ⟨#[]⟩, .slice none 0 0]) := Ty.of (by kernel_rfl)
theorem ag24 : IsAgg Try.prog 24 false := ⟨_, Try.underlying24, rfl⟩
theorem ag42 : IsAgg Try.prog 42 true := ⟨_, Try.underlying42, rfl⟩
theorem fa42_3 : FieldAt Try.prog 42 3 3 1 false := ⟨_, _, Try.underlying42, rfl, rfl, ty24.size, ag24, by decide⟩
theorem c_Count_step (n : Nat) (hn : n ≤ 16777216) (ih : ∀ l, Nd.szs l < n → FnC Try.prog 13 [.sl 4 (l.map Nd.av)] [] (fun r M => M = [] ∧ ∃ k : Int, r = .tup [.int (Nd.cnts l : Int), .int k] ∧ 0 ≤ k ∧ k ≤ Nd.szs l)) (l : List Nd) (hl : Nd.szs l = n) : FnC Try.prog 13 [.sl 4 (l.map Nd.av)] [] (fun r M => M = [] ∧ ∃ k : Int, r = .tup [.int (Nd.cnts l : Int), .int k] ∧ 0 ≤ k ∧ k ≤ Nd.szs l) :=  by
  refine FnC.mk Try.func13 (by kernel_rfl) rfl Try.ntmps13 rfl (fun w0 F => ?_)
  have hll : (l.map Nd.av).length = l.length := List.length_map ..
  have hsl := Nd.szs_len l
  have hcl := Nd.cnts_le l
  refine W.seq ?_
  refine W.region ?_
  refine W.q (Ev.assign .k) rfl ?_
  refine W.q (Ev.assign .k) rfl ?_
  refine W.nil ?_
  refine W.then ?_
  refine W.seq ?_
  refine W.seq ?_
  refine W.region ?_
  refine W.q (Ev.move (.t rfl)) rfl ?_
  first | refine W.q (Ev.lensl (.t rfl) Try.underlying24) rfl ?_ | refine W.q (Ev.lenar (i := 0) (.t rfl) rfl Try.underlying24) rfl ?_ | refine W.q (Ev.lenar (i := 1) (.t rfl) rfl Try.underlying24) rfl ?_ | refine W.q (Ev.lenar (i := 2) (.t rfl) rfl Try.underlying24) rfl ?_ | refine W.q (Ev.lenar (i := 3) (.t rfl) rfl Try.underlying24) rfl ?_
  refine W.q (Ev.move .k) rfl ?_
  refine W.nil ?_
  refine W.then ?_
  refine W.block ?_
  refine W.loop (D := []) (ι := Nat × Int) (fun z => [(10, true, .int (z.1 : Int)), (9, true, .int ((l.map Nd.av).length : Int)), (8, true, .sl 4 (l.map Nd.av)), (2, true, .int (Nd.cnts (l.take z.1) : Int)), (3, true, .int z.2)]) (fun z => []) (fun z => z.1 ≤ l.length ∧ 0 ≤ z.2 ∧ z.2 ≤ n ∧ Nd.cnts (l.take z.1) ≤ n) (fun z => l.length - z.1) (0, 0) ⟨rfl, rfl, rfl, rfl, rfl, trivial⟩ (.refl _) ⟨Nat.zero_le _, Int.le_refl _, by omega, by simp [Nd.cnts]⟩ ?_
  rintro ⟨i, m⟩ ⟨hi, hm1, hm2, hm3⟩
  dsimp only at hi hm1 hm2 hm3 ⊢
  rcases (show i < l.length ∨ i = l.length from by omega) with hlt | hend
  · have hga := Nd.at_av l i hlt
    have hsz := Nd.at_sz l i hlt
    generalize hd : l.getD i Nd.dflt = d at hga hsz
    have hse := Nd.sz_eq d
    have hsp := Nd.szs_len d.parts
    have hat : (d.attrs.map dav).length = d.attrs.length := List.length_map ..
    have hsn := Nd.cnts_snoc l i hlt
    rw [hd] at hsn
    have hcd := Nd.cnts_le d.parts
    have hct : Nd.cnts (l.take (i + 1)) ≤ n := by have h1 := Nd.cnts_append (l.take (i + 1)) (l.drop (i + 1)); rw [List.take_append_drop] at h1; omega
    refine W.seq ?_
    refine W.region ?_
    refine W.q (Ev.lti (.t rfl) (.t rfl)) rfl ?_
    refine W.nil ?_
    refine W.then ?_
    refine W.seq ?_
    refine W.is (t := 11) (g := true) (av' := .lit (.bool true)) rfl (congrArg (fun b => AV.lit (.bool b)) (by simp; omega)) ?_
    refine W.condT (.t rfl) ?_
    refine W.skip ?_
    refine W.then ?_
    refine W.seq ?_
    refine W.block ?_
    refine W.seq ?_
    refine W.region ?_
    refine W.q (Ev.at (E := 42) (.t rfl) (.t rfl) Try.underlying24 ty42 (fun _ => ⟨by omega, hga⟩) rfl rfl) rfl ?_
    first | refine W.q (Ev.lden (.t rfl) ag42 ty42 rfl rfl) rfl ?_ | refine W.q (Ev.ldbn 0 (.t rfl) rfl ag42 ty42 rfl) rfl ?_ | refine W.q (Ev.ldbn 1 (.t rfl) rfl ag42 ty42 rfl) rfl ?_ | refine W.q (Ev.ldbn 2 (.t rfl) rfl ag42 ty42 rfl) rfl ?_ | refine W.q (Ev.ldbn 3 (.t rfl) rfl ag42 ty42 rfl) rfl ?_
    refine W.alloc ty42 rfl rfl ?_
    intro b5
    first | refine W.stb 0 (.t rfl) (.t rfl) rfl ty42 rfl rfl rfl ?_ | refine W.stb 1 (.t rfl) (.t rfl) rfl ty42 rfl rfl rfl ?_ | refine W.stb 2 (.t rfl) (.t rfl) rfl ty42 rfl rfl rfl ?_ | refine W.stb 3 (.t rfl) (.t rfl) rfl ty42 rfl rfl rfl ?_
    refine W.nil ?_
    refine W.then ?_
    refine W.seq ?_
    refine W.region ?_
    first | refine W.q (Ev.fae (.t rfl) fa42_3 rfl) rfl ?_ | refine W.q (Ev.fab (.t rfl) fa42_3) rfl ?_ | refine W.q (Ev.faa (.t rfl) fa42_3) rfl ?_
    first | refine W.q (Ev.lde1 (.t rfl) ag24) rfl ?_ | refine W.q (Ev.ldb1 0 (.t rfl) rfl ag24 rfl) rfl ?_ | refine W.q (Ev.ldb1 1 (.t rfl) rfl ag24 rfl) rfl ?_ | refine W.q (Ev.ldb1 2 (.t rfl) rfl ag24 rfl) rfl ?_ | refine W.q (Ev.ldb1 3 (.t rfl) rfl ag24 rfl) rfl ?_
    refine W.call (ih d.parts (by omega)) ⟨(.t rfl), trivial⟩ (.refl _) rfl ?_
    rintro _ _ ⟨rfl, k, rfl, hk1, hk2⟩
    refine W.q (Ev.move (.t rfl)) rfl ?_
    refine W.q (Ev.extract (.t rfl) rfl) rfl ?_
    refine W.q (Ev.extract (.t rfl) rfl) rfl ?_
    refine W.q (Ev.assign (.t rfl)) rfl ?_
    refine W.q (Ev.assign (.t rfl)) rfl ?_
    refine W.nil ?_
    refine W.then ?_
    refine W.seq ?_
    refine W.region ?_
    refine W.q (Ev.move (.t rfl)) rfl ?_
    refine W.q (Ev.move (.t rfl)) rfl ?_
    first | refine W.q (Ev.add (.t rfl) .k (fun _ => by omega)) rfl ?_ | refine W.q (Ev.addw (.t rfl) .k) rfl ?_
    first | refine W.q (Ev.add (.t rfl) (.t rfl) (fun _ => by omega)) rfl ?_ | refine W.q (Ev.addw (.t rfl) (.t rfl)) rfl ?_
    refine W.q (Ev.assign (.t rfl)) rfl ?_
    refine W.nil ?_
    refine W.then ?_
    refine W.region ?_
    refine W.q (Ev.move (.t rfl)) rfl ?_
    refine W.q (Ev.move (.t rfl)) rfl ?_
    first | refine W.q (Ev.add (.t rfl) .k (fun _ => by omega)) rfl ?_ | refine W.q (Ev.addw (.t rfl) .k) rfl ?_
    refine W.q (Ev.max (.t rfl) (.t rfl)) rfl ?_
    refine W.q (Ev.assign (.t rfl)) rfl ?_
    refine W.nil ?_
    refine W.blk_normal ?_
    refine W.then ?_
    refine W.region ?_
    first | refine W.q (Ev.add (.t rfl) .k (fun _ => by omega)) rfl ?_ | refine W.q (Ev.addw (.t rfl) .k) rfl ?_
    refine W.q (Ev.move (.t rfl)) rfl ?_
    refine W.nil ?_
    refine W.then ?_
    refine W.is (t := 2) (g := true) (av' := .int (Nd.cnts (l.take (i + 1)) : Int)) rfl (congrArg AV.int (by rw [hsn]; omega)) ?_
    refine W.reach (D := [_]) (i + 1, _) ⟨rfl, rfl, rfl, rfl, rfl, trivial⟩ (.refl _) ⟨⟨by show i + 1 ≤ _; omega, ?_, ?_, hct⟩, by show _ - (i + 1) < _; omega⟩
    · show (0 : Int) ≤ ite _ _ _; split <;> omega
    · show ite _ _ _ ≤ (n : Int); split <;> omega
  · have he : l.take i = l := List.take_of_length_le (by omega)
    rw [he]
    refine W.seq ?_
    refine W.region ?_
    refine W.q (Ev.lti (.t rfl) (.t rfl)) rfl ?_
    refine W.nil ?_
    refine W.then ?_
    refine W.seq ?_
    refine W.is (t := 11) (g := true) (av' := .lit (.bool false)) rfl (congrArg (fun b => AV.lit (.bool b)) (by simp; omega)) ?_
    refine W.condF (.t rfl) ?_
    refine W.exit ?_
    refine W.then_exit ?_
    refine W.then_exit ?_
    refine W.blk_hit ?_
    refine W.then ?_
    refine W.seq ?_
    refine W.region ?_
    refine W.q (Ev.move (.t rfl)) rfl ?_
    refine W.q (Ev.move (.t rfl)) rfl ?_
    refine W.q (Ev.assign (.t rfl)) rfl ?_
    refine W.q (Ev.assign (.t rfl)) rfl ?_
    refine W.nil ?_
    refine W.then ?_
    refine W.ret ?_
    refine W.retn (M' := []) (rs := [.tmp 2, .tmp 3]) (avs := [_, _]) Try.results13 ⟨rfl, rfl, trivial⟩ rfl (.refl _) ?_
    exact ⟨rfl, m, rfl, hm1, by omega⟩

theorem c_Count (l : List Nd) (hl : Nd.szs l ≤ 16777216) : FnC Try.prog 13 [.sl 4 (l.map Nd.av)] [] (fun r M => M = [] ∧ ∃ k : Int, r = .tup [.int (Nd.cnts l : Int), .int k] ∧ 0 ≤ k ∧ k ≤ Nd.szs l) := by
  suffices H : ∀ n, n ≤ 16777216 → ∀ l, Nd.szs l = n → FnC Try.prog 13 [.sl 4 (l.map Nd.av)] [] (fun r M => M = [] ∧ ∃ k : Int, r = .tup [.int (Nd.cnts l : Int), .int k] ∧ 0 ≤ k ∧ k ≤ Nd.szs l) from H _ hl l rfl
  intro n
  induction n using Nat.strongRecOn with
  | _ n ih => exact fun hn l hl => c_Count_step n hn (fun l' h' => ih _ h' (by omega) l' rfl) l hl

end WCount

end Go.Proofs.Ytpjngpegkoohgaa
