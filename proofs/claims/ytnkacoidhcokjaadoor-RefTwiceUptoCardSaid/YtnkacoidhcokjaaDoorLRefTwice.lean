/-
  The law RefTwice, walked.
-/
import Derived.Test.YtnkacoidhcokjaaDoorRef
import Derived.Test.YtnkacoidhcokjaaDoorBase
import Derived.Test.YtnkacoidhcokjaaDoorWSure
set_option linter.unusedVariables false
set_option linter.unusedSimpArgs false
set_option maxRecDepth 100000
namespace Go.Proofs.YtnkacoidhcokjaaDoor
open Go.Vl

namespace LRefTwice

theorem c_RefTwice (s : List UInt8) (a b : Bool) (hs : s.length ≤ 1048576) : FnP Tryd.prog 9 [.str s, .bool a, .bool b] (.bool true) :=  by
  refine FnC.mk Tryd.func9 (by kernel_rfl) rfl Tryd.ntmps9 rfl (fun w0 F => ?_)
  have hl1 := esc_len a s
  have hl2 := esc_len b (esc a s)
  have hlf : (s.filter fun y => y != 38).length ≤ s.length := List.length_filter_le _ _
  have cU1 : FnP Tryd.prog 16 [.str (esc b (esc a s))] (.str (esc a s)) := by
    have h := WUnesc.c_Unescape ((esc a s).map (Pc.of b)) (Pc.ok_of b (esc a s)) (by rw [Pc.esc_flat]; omega) (by rw [List.length_map]; omega)
    rw [Pc.esc_flat, Pc.fst_of] at h
    exact h
  have cU2 : FnP Tryd.prog 16 [.str (esc a s)] (.str s) := by
    have h := WUnesc.c_Unescape (s.map (Pc.of a)) (Pc.ok_of a s) (by rw [Pc.esc_flat]; omega) (by rw [List.length_map]; omega)
    rw [Pc.esc_flat, Pc.fst_of] at h
    exact h
  have cU3 : FnP Tryd.prog 16 [.str (s.filter fun y => y != 38)] (.str (s.filter fun y => y != 38)) := by
    have h := WUnesc.c_Unescape ((s.filter fun y => y != 38).map fun y => (y, false)) (Pc.raw_ok _ (fun y hy => by simpa using (List.mem_filter.1 hy).2)) (by rw [Pc.raw_flat]; omega) (by rw [List.length_map]; omega)
    rw [Pc.raw_flat, Pc.raw_fst] at h
    exact h
  refine W.seq ?_
  refine W.region ?_
  refine W.q (Ev.assign .k) rfl ?_
  refine W.nil ?_
  refine W.then ?_
  refine W.seq ?_
  refine W.region ?_
  refine W.q (Ev.move (.t rfl)) rfl ?_
  refine W.q (Ev.move (.t rfl)) rfl ?_
  refine W.callp (WEsc.c_Escape s a (by omega)) ⟨(.t rfl), (.t rfl), trivial⟩ rfl ?_
  refine W.q (Ev.move (.t rfl)) rfl ?_
  refine W.callp (WEsc.c_Escape (esc a s) b (by omega)) ⟨(.t rfl), (.t rfl), trivial⟩ rfl ?_
  refine W.q (Ev.assign (.t rfl)) rfl ?_
  refine W.nil ?_
  refine W.then ?_
  refine W.seq ?_
  refine W.region ?_
  refine W.q (Ev.assign .k) rfl ?_
  refine W.nil ?_
  refine W.then ?_
  refine W.seq ?_
  refine W.seq ?_
  refine W.region ?_
  refine W.q (Ev.assign .k) rfl ?_
  refine W.nil ?_
  refine W.then ?_
  refine W.block ?_
  refine W.loop (D := []) (ι := Nat) (fun i => [(9, true, .int (i : Int)), (8, true, .str ((s.take i).filter fun y => y != 38)), (0, true, .str s), (7, true, .str (esc b (esc a s)))]) (fun _ => []) (fun i => i ≤ s.length) (fun i => s.length - i) 0 ⟨rfl, rfl, rfl, rfl, trivial⟩ (.refl _) (Nat.zero_le _) ?_
  intro i hi
  dsimp only at hi ⊢
  rcases (show i < s.length ∨ i = s.length from by omega) with hlt | hend
  · obtain ⟨x0, hx0⟩ : ∃ x0, s.getD i 0 = x0 := ⟨_, rfl⟩
    have hfl : ((s.take i).filter fun y => y != 38).length ≤ s.length := Nat.le_trans (List.length_filter_le _ _) (by rw [List.length_take]; omega)
    refine W.seq ?_
    refine W.seq ?_
    refine W.region ?_
    refine W.q (Ev.move (.t rfl)) rfl ?_
    refine W.q (Ev.move (.t rfl)) rfl ?_
    refine W.q (Ev.lens (.t rfl) Tryd.underlying9) rfl ?_
    refine W.q (Ev.lti (.t rfl) (.t rfl)) rfl ?_
    refine W.nil ?_
    refine W.then ?_
    refine W.is (t := 18) (g := true) (av' := .lit (.bool true)) rfl (congrArg (fun b => AV.lit (.bool b)) (by exact decide_eq_true (by omega))) ?_
    refine W.condT (.t rfl) ?_
    refine W.skip ?_
    refine W.then ?_
    refine W.seq ?_
    refine W.block ?_
    refine W.seq ?_
    refine W.region ?_
    refine W.q (Ev.move (.t rfl)) rfl ?_
    refine W.q (Ev.move (.t rfl)) rfl ?_
    refine W.q (Ev.ats' (.t rfl) (.t rfl) Tryd.underlying9 (fun hg => by omega)) rfl ?_
    refine W.is (t := 23) (g := true) (av' := AV.u8 x0) rfl (by rw [show ((i : Int)).toNat = i from by omega, hx0]) ?_
    refine W.q (Ev.nei (.t rfl) .k) rfl ?_
    refine W.nil ?_
    refine W.then ?_
    refine W.cond (.t rfl) (fun hc_t24 => ?_) (fun hc_t24 => ?_)
    · have h24 : x0 ≠ 38 := by rintro rfl; simp at hc_t24
      have hfs : ((s.take (i + 1)).filter fun y => y != 38) = ((s.take i).filter fun y => y != 38) ++ [x0] := by rw [take_getDG 0 s i hlt, hx0, List.filter_append]; simp [h24]
      refine W.region ?_
      refine W.q (Ev.move (.t rfl)) rfl ?_
      refine W.q (Ev.move (.t rfl)) rfl ?_
      refine W.q (Ev.move (.t rfl)) rfl ?_
      refine W.q (Ev.move (.t rfl)) rfl ?_
      first | refine W.q (Ev.add (.t rfl) .k (fun _ => by omega)) rfl ?_ | refine W.q (Ev.addw (.t rfl) .k) rfl ?_
      refine W.q (Ev.subs (lo := some (.tmp 27)) (hi := some (.tmp 29)) (.t rfl) Tryd.underlying9 (.t rfl) (.t rfl) (fun _ => by omega)) rfl ?_
      refine W.is (t := 30) (g := true) (av' := .str [x0]) rfl (congrArg AV.str (by rw [show ((i : Int)).toNat = i from by omega, show ((i : Int) + 1).toNat = i + 1 from by omega, take_getDG 0 s i hlt, hx0, List.drop_append_of_le_length (by rw [List.length_take]; omega), List.drop_of_length_le (by rw [List.length_take]; omega)]; rfl)) ?_
      refine W.q (Ev.cat (.t rfl) (.t rfl) (fun _ => by first | omega | (simp only [List.length_append]; omega) | (simp [-List.length_flatMap]; omega) | (simp; omega))) rfl ?_
      refine W.q (Ev.assign (.t rfl)) rfl ?_
      refine W.nil ?_
      refine W.blk_normal ?_
      refine W.then ?_
      refine W.region ?_
      refine W.q (Ev.move (.t rfl)) rfl ?_
      first | refine W.q (Ev.add (.t rfl) .k (fun _ => by omega)) rfl ?_ | refine W.q (Ev.addw (.t rfl) .k) rfl ?_
      refine W.q (Ev.assign (.t rfl)) rfl ?_
      refine W.nil ?_
      refine W.then ?_
      refine W.is (t := 8) (g := true) (av' := .str ((s.take (i + 1)).filter fun y => y != 38)) rfl (congrArg AV.str (by rw [hfs])) ?_
      refine W.reach (D := []) (i + 1) ⟨rfl, rfl, rfl, rfl, trivial⟩ (.refl _) ⟨by show i + 1 ≤ _; omega, by show _ - (i + 1) < _; omega⟩
    · have h38 : ((x0.toNat : Nat) : Int) = 38 := by simpa using hc_t24
      have h24 : x0 = 38 := UInt8.toNat_inj.1 (by show x0.toNat = 38; omega)
      have hfs : ((s.take (i + 1)).filter fun y => y != 38) = ((s.take i).filter fun y => y != 38) := by rw [take_getDG 0 s i hlt, hx0, List.filter_append]; simp [h24]
      refine W.skip ?_
      refine W.blk_normal ?_
      refine W.then ?_
      refine W.region ?_
      refine W.q (Ev.move (.t rfl)) rfl ?_
      first | refine W.q (Ev.add (.t rfl) .k (fun _ => by omega)) rfl ?_ | refine W.q (Ev.addw (.t rfl) .k) rfl ?_
      refine W.q (Ev.assign (.t rfl)) rfl ?_
      refine W.nil ?_
      refine W.then ?_
      refine W.is (t := 8) (g := true) (av' := .str ((s.take (i + 1)).filter fun y => y != 38)) rfl (congrArg AV.str (by rw [hfs])) ?_
      refine W.reach (D := []) (i + 1) ⟨rfl, rfl, rfl, rfl, trivial⟩ (.refl _) ⟨by show i + 1 ≤ _; omega, by show _ - (i + 1) < _; omega⟩
  · rw [List.take_of_length_le (show s.length ≤ i from by omega)]
    refine W.seq ?_
    refine W.seq ?_
    refine W.region ?_
    refine W.q (Ev.move (.t rfl)) rfl ?_
    refine W.q (Ev.move (.t rfl)) rfl ?_
    refine W.q (Ev.lens (.t rfl) Tryd.underlying9) rfl ?_
    refine W.q (Ev.lti (.t rfl) (.t rfl)) rfl ?_
    refine W.nil ?_
    refine W.then ?_
    refine W.is (t := 18) (g := true) (av' := .lit (.bool false)) rfl (congrArg (fun b => AV.lit (.bool b)) (by exact decide_eq_false (by omega))) ?_
    refine W.condF (.t rfl) ?_
    refine W.exit ?_
    refine W.then_exit ?_
    refine W.then_exit ?_
    refine W.blk_hit ?_
    refine W.then ?_
    refine W.seq ?_
    refine W.region ?_
    refine W.callp (WSure.c_sure) trivial rfl ?_
    refine W.q (Ev.move (.t rfl)) rfl ?_
    refine W.gyes rfl rfl ?_
    refine W.q (Ev.move (.t rfl)) rfl ?_
    refine W.gyes rfl rfl ?_
    refine W.callp (cU1) ⟨(.t rfl), trivial⟩ rfl ?_
    refine W.gyes rfl rfl ?_
    refine W.callp (cU2) ⟨(.t rfl), trivial⟩ rfl ?_
    refine W.gyes rfl rfl ?_
    refine W.q (Ev.move (.t rfl)) rfl ?_
    refine W.gyes rfl rfl ?_
    refine W.q (Ev.eqs (.t rfl) (.t rfl)) rfl ?_
    refine W.q (Ev.and (.t rfl) ⟨_, _, rfl, rfl, by first | (simp; done) | (intro hg_ hp_; simp [hp_]; done) | (simp <;> omega; done) | (simp_all; done) | grind⟩) rfl ?_
    refine W.q (Ev.move (.t rfl)) rfl ?_
    refine W.is (t := 40) (g := true) (av' := .bool true) rfl (congrArg AV.bool (by simp)) ?_
    refine W.gyes rfl rfl ?_
    refine W.q (Ev.move (.t rfl)) rfl ?_
    refine W.gyes rfl rfl ?_
    refine W.callp (cU3) ⟨(.t rfl), trivial⟩ rfl ?_
    refine W.gyes rfl rfl ?_
    refine W.q (Ev.move (.t rfl)) rfl ?_
    refine W.gyes rfl rfl ?_
    refine W.q (Ev.eqs (.t rfl) (.t rfl)) rfl ?_
    refine W.q (Ev.and (.t rfl) ⟨_, _, rfl, rfl, by first | (simp; done) | (intro hg_ hp_; simp [hp_]; done) | (simp <;> omega; done) | (simp_all; done) | grind⟩) rfl ?_
    refine W.q (Ev.assign (.t rfl)) rfl ?_
    refine W.nil ?_
    refine W.then ?_
    refine W.ret ?_
    refine W.retn (M' := []) (D := _) (rs := [.tmp 6]) (avs := [_]) Tryd.results9 ⟨rfl, trivial⟩ rfl (.refl _) ?_
    exact ⟨congrArg AV.bool (by simp), rfl⟩

end LRefTwice

end Go.Proofs.YtnkacoidhcokjaaDoor
