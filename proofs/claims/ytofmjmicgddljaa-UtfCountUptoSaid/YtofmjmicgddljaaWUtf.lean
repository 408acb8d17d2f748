/-
  The functions of package utf.
-/
import Derived.Test.YtofmjmicgddljaaUtf
import Derived.Test.YtofmjmicgddljaaBase
set_option linter.unusedVariables false
set_option linter.unusedSimpArgs false
set_option maxRecDepth 100000
namespace Go.Proofs.Ytofmjmicgddljaa
open Go.Vl

namespace WUtf
theorem ty3 : Ty Try.prog 3 1 8 (.int .i64 0) := Ty.of (by kernel_rfl)
theorem ni22 : NotInt Try.prog 22 := .inl ⟨_, Try.underlying22⟩
theorem c_Runes (s : List UInt8) (hs : s.length ≤ 17592186044416) : FnP Try.prog 12 [.str s] (.sl 1 (rvs s)) :=  by
  refine FnC.mk Try.func12 (by kernel_rfl) rfl Try.ntmps12 rfl (fun w0 F => ?_)
  refine W.seq ?_
  refine W.region ?_
  refine W.q (Ev.assign .k) rfl ?_
  refine W.nil ?_
  refine W.then ?_
  refine W.seq ?_
  refine W.region ?_
  refine W.q (Ev.assign .k) rfl ?_
  refine W.nil ?_
  refine W.then ?_
  refine W.seq ?_
  refine W.seq ?_
  refine W.region ?_
  refine W.q (Ev.move (.t rfl)) rfl ?_
  refine W.rng (.t rfl) Try.underlying9 rfl ?_
  intro b7
  refine W.nil ?_
  refine W.then ?_
  refine W.block ?_
  refine W.own_nil 3 1 ?_
  refine W.loop (D := []) (ι := Nat × List AV × Value) (fun z => [(7, true, .lit (.pointer (some ⟨b7, 0, none⟩))), (3, true, .lit z.2.2)]) (fun z => [.arr z.2.2 3 1 z.2.1, .obj b7 (.stringIter ⟨s.toArray⟩ z.1)]) (fun z => z.1 ≤ s.length ∧ z.2.1 ++ rvs (s.drop z.1) = rvs s ∧ z.2.1.length ≤ z.1) (fun z => s.length - z.1) (0, [], .slice none 0 0) ⟨rfl, rfl, trivial⟩ (.refl _) ⟨Nat.zero_le _, by simp, Nat.le_refl _⟩ ?_
  rintro ⟨p, es, v⟩ ⟨hp1, hp2, hp3⟩
  dsimp only at hp1 hp2 hp3 ⊢
  have hle := dec_le (s.drop p)
  by_cases hp : p < s.length
  · have hw := dec_width (s.drop p) (by intro e; have := congrArg List.length e; simp at this; omega)
    rw [List.length_drop] at hw
    refine W.seq ?_
    refine W.region ?_
    first | refine W.nxtT 0 (.t rfl) rfl (by omega) rfl ?_ | refine W.nxtF 0 (.t rfl) rfl (by omega) rfl ?_ | refine W.nxtT 1 (.t rfl) rfl (by omega) rfl ?_ | refine W.nxtF 1 (.t rfl) rfl (by omega) rfl ?_ | refine W.nxtT 2 (.t rfl) rfl (by omega) rfl ?_ | refine W.nxtF 2 (.t rfl) rfl (by omega) rfl ?_ | refine W.nxtT 3 (.t rfl) rfl (by omega) rfl ?_ | refine W.nxtF 3 (.t rfl) rfl (by omega) rfl ?_
    refine W.q (Ev.extract (.t rfl) rfl) rfl ?_
    refine W.nil ?_
    refine W.then ?_
    refine W.seq ?_
    refine W.condT (.t rfl) ?_
    refine W.skip ?_
    refine W.then ?_
    refine W.block ?_
    refine W.seq ?_
    refine W.region ?_
    refine W.q (Ev.extract (.t rfl) rfl) rfl ?_
    refine W.q (Ev.assign (.t rfl)) rfl ?_
    refine W.nil ?_
    refine W.then ?_
    refine W.region ?_
    refine W.q (Ev.move (.t rfl)) rfl ?_
    refine W.q (Ev.move (.t rfl)) rfl ?_
    first | refine W.q (Ev.conv64 (.t rfl) ⟨_, Try.underlying21⟩ Try.underlying3 (fun _ => by omega)) rfl ?_ | refine W.q (Ev.conv (.t rfl) ⟨_, Try.underlying21⟩ Try.underlying3) rfl ?_
    refine W.bs (es := [_]) Try.underlying22 ty3 ⟨rfl, (.t rfl), rfl, rfl, trivial⟩ rfl (by decide) rfl rfl ?_
    first | refine W.app 0 (.t rfl) rfl (.sl (.t rfl) (by simp [AV.okc, shV])) Try.underlying22 ni22 ty3 rfl rfl (by simp; omega) rfl ?_ | refine W.app 1 (.t rfl) rfl (.sl (.t rfl) (by simp [AV.okc, shV])) Try.underlying22 ni22 ty3 rfl rfl (by simp; omega) rfl ?_ | refine W.app 2 (.t rfl) rfl (.sl (.t rfl) (by simp [AV.okc, shV])) Try.underlying22 ni22 ty3 rfl rfl (by simp; omega) rfl ?_ | refine W.app 3 (.t rfl) rfl (.sl (.t rfl) (by simp [AV.okc, shV])) Try.underlying22 ni22 ty3 rfl rfl (by simp; omega) rfl ?_ | refine W.app 0 (.t rfl) rfl (.arr 0 (.t rfl) rfl (by simp [AV.okc, shV])) Try.underlying22 ni22 ty3 rfl rfl (by simp; omega) rfl ?_ | refine W.app 0 (.t rfl) rfl (.arr 1 (.t rfl) rfl (by simp [AV.okc, shV])) Try.underlying22 ni22 ty3 rfl rfl (by simp; omega) rfl ?_ | refine W.app 0 (.t rfl) rfl (.arr 2 (.t rfl) rfl (by simp [AV.okc, shV])) Try.underlying22 ni22 ty3 rfl rfl (by simp; omega) rfl ?_ | refine W.app 0 (.t rfl) rfl (.arr 3 (.t rfl) rfl (by simp [AV.okc, shV])) Try.underlying22 ni22 ty3 rfl rfl (by simp; omega) rfl ?_ | refine W.app 1 (.t rfl) rfl (.arr 0 (.t rfl) rfl (by simp [AV.okc, shV])) Try.underlying22 ni22 ty3 rfl rfl (by simp; omega) rfl ?_ | refine W.app 1 (.t rfl) rfl (.arr 1 (.t rfl) rfl (by simp [AV.okc, shV])) Try.underlying22 ni22 ty3 rfl rfl (by simp; omega) rfl ?_ | refine W.app 1 (.t rfl) rfl (.arr 2 (.t rfl) rfl (by simp [AV.okc, shV])) Try.underlying22 ni22 ty3 rfl rfl (by simp; omega) rfl ?_ | refine W.app 1 (.t rfl) rfl (.arr 3 (.t rfl) rfl (by simp [AV.okc, shV])) Try.underlying22 ni22 ty3 rfl rfl (by simp; omega) rfl ?_ | refine W.app 2 (.t rfl) rfl (.arr 0 (.t rfl) rfl (by simp [AV.okc, shV])) Try.underlying22 ni22 ty3 rfl rfl (by simp; omega) rfl ?_ | refine W.app 2 (.t rfl) rfl (.arr 1 (.t rfl) rfl (by simp [AV.okc, shV])) Try.underlying22 ni22 ty3 rfl rfl (by simp; omega) rfl ?_ | refine W.app 2 (.t rfl) rfl (.arr 2 (.t rfl) rfl (by simp [AV.okc, shV])) Try.underlying22 ni22 ty3 rfl rfl (by simp; omega) rfl ?_ | refine W.app 2 (.t rfl) rfl (.arr 3 (.t rfl) rfl (by simp [AV.okc, shV])) Try.underlying22 ni22 ty3 rfl rfl (by simp; omega) rfl ?_ | refine W.app 3 (.t rfl) rfl (.arr 0 (.t rfl) rfl (by simp [AV.okc, shV])) Try.underlying22 ni22 ty3 rfl rfl (by simp; omega) rfl ?_ | refine W.app 3 (.t rfl) rfl (.arr 1 (.t rfl) rfl (by simp [AV.okc, shV])) Try.underlying22 ni22 ty3 rfl rfl (by simp; omega) rfl ?_ | refine W.app 3 (.t rfl) rfl (.arr 2 (.t rfl) rfl (by simp [AV.okc, shV])) Try.underlying22 ni22 ty3 rfl rfl (by simp; omega) rfl ?_ | refine W.app 3 (.t rfl) rfl (.arr 3 (.t rfl) rfl (by simp [AV.okc, shV])) Try.underlying22 ni22 ty3 rfl rfl (by simp; omega) rfl ?_
    intro v15
    refine W.q (Ev.assign (.t rfl)) rfl ?_
    refine W.nil ?_
    refine W.blk_normal ?_
    refine W.then ?_
    refine W.reach (D := []) (p + (dec (s.drop p)).2, es ++ [.int ((dec (s.drop p)).1 : Int)], v15) ⟨rfl, rfl, trivial⟩ (.refl _) ⟨⟨?_, ?_, ?_⟩, ?_⟩
    · show p + _ ≤ _; omega
    · show _ ++ _ = _; rw [← hp2, rvs_drop s p hp]; simp
    · show List.length _ ≤ p + _; simp; omega
    · show s.length - _ < s.length - p; omega
  · skip
    refine W.seq ?_
    refine W.region ?_
    first | refine W.nxtT 0 (.t rfl) rfl (by omega) rfl ?_ | refine W.nxtF 0 (.t rfl) rfl (by omega) rfl ?_ | refine W.nxtT 1 (.t rfl) rfl (by omega) rfl ?_ | refine W.nxtF 1 (.t rfl) rfl (by omega) rfl ?_ | refine W.nxtT 2 (.t rfl) rfl (by omega) rfl ?_ | refine W.nxtF 2 (.t rfl) rfl (by omega) rfl ?_ | refine W.nxtT 3 (.t rfl) rfl (by omega) rfl ?_ | refine W.nxtF 3 (.t rfl) rfl (by omega) rfl ?_
    refine W.q (Ev.extract (.t rfl) rfl) rfl ?_
    refine W.nil ?_
    refine W.then ?_
    refine W.seq ?_
    refine W.condF (.t rfl) ?_
    refine W.exit ?_
    refine W.then_exit ?_
    refine W.then_exit ?_
    refine W.blk_hit ?_
    refine W.then ?_
    refine W.seq ?_
    refine W.region ?_
    refine W.q (Ev.move (.t rfl)) rfl ?_
    refine W.q (Ev.assign (.t rfl)) rfl ?_
    refine W.nil ?_
    refine W.then ?_
    refine W.ret ?_
    refine W.freeze (M1 := []) (M2 := []) (D := _) (v := v) (L' := [(2, true, .sl 1 es)]) (.refl _) ⟨⟨_, rfl, .one .hit⟩, trivial⟩ trivial ?_
    refine W.retn (M' := []) (rs := [.tmp 2]) (avs := [_]) Try.results12 ⟨rfl, trivial⟩ rfl (.refl _) ?_
    have e : s.drop p = [] := List.drop_of_length_le (by omega)
    rw [e] at hp2
    exact ⟨congrArg (AV.sl 1) (by rw [← hp2]; simp [rvs, runes_nil]), rfl⟩

end WUtf

end Go.Proofs.Ytofmjmicgddljaa
