/-
  A node that is cut.
-/
import Derived.Test.YtpjngpegkoohgaaChange
import Derived.Test.YtpjngpegkoohgaaPick
import Derived.Test.YtpjngpegkoohgaaCopy
import Derived.Test.YtpjngpegkoohgaaUndo
import Derived.Test.YtpjngpegkoohgaaBase
set_option linter.unusedVariables false
set_option linter.unusedSimpArgs false
set_option maxRecDepth 100000
namespace Go.Proofs.Ytpjngpegkoohgaa
open Go.Vl

namespace WDelete
theorem ty42 : Ty Try.prog 42 4 80 (.agg #[.string ⟨#[]⟩, .slice none 0 0, .string ⟨#[]⟩, .slice none 0 0]) := Ty.of (by kernel_rfl)
theorem ni24 : NotInt Try.prog 24 := .inl ⟨_, Try.underlying24⟩
theorem c_Delete (es : List AV) (v : Value) (i : Nat) (hi : i < es.length) (ho : ∀ e ∈ es, e.okc = true) (hl : es.length ≤ 1099511627776) : FnC Try.prog 23 [.lit v, .int (i : Int), .int ((i : Int) + 1)] [.arr v 42 4 es] (fun r M => ∃ v', r = .lit v' ∧ M = [.arr v' 42 4 (es.take i ++ es.drop (i + 1))]) :=  by
  refine FnC.mk Try.func23 (by kernel_rfl) rfl Try.ntmps23 rfl (fun w0 F => ?_)
  refine W.arr_lit 0 rfl (by omega) ?_
  intro g off cq hv hc1 hc2
  subst hv
  have hdl : (es.drop (i + 1)).length = es.length - (i + 1) := List.length_drop ..
  have hod : ∀ e ∈ es.drop (i + 1), e.okc = true := fun e he => ho e (List.mem_of_mem_drop he)
  have hel : (es.take i ++ es.drop (i + 1)).length = es.length - 1 := by rw [List.length_append, List.length_take, hdl]; omega
  refine W.seq ?_
  refine W.region ?_
  refine W.q (Ev.assign .k) rfl ?_
  refine W.nil ?_
  refine W.then ?_
  refine W.seq ?_
  refine W.region ?_
  refine W.q (Ev.move (.t rfl)) rfl ?_
  refine W.q (Ev.move (.t rfl)) rfl ?_
  refine W.q (Ev.move (.t rfl)) rfl ?_
  refine W.q (Ev.move (.t rfl)) rfl ?_
  first | refine W.q (Ev.lensl (.t rfl) Try.underlying24) rfl ?_ | refine W.q (Ev.lenar (i := 0) (.t rfl) rfl Try.underlying24) rfl ?_ | refine W.q (Ev.lenar (i := 1) (.t rfl) rfl Try.underlying24) rfl ?_ | refine W.q (Ev.lenar (i := 2) (.t rfl) rfl Try.underlying24) rfl ?_ | refine W.q (Ev.lenar (i := 3) (.t rfl) rfl Try.underlying24) rfl ?_ | refine W.q (Ev.lenl (.t rfl) Try.underlying24) rfl ?_
  refine W.q (Ev.slit3 (.t rfl) Try.underlying24 ty42 (.t rfl) (.t rfl) (.t rfl) (fun _ => by omega)) rfl ?_
  refine W.nil ?_
  refine W.then ?_
  refine W.seq ?_
  refine W.seq ?_
  refine W.region ?_
  refine W.q (Ev.move (.t rfl)) rfl ?_
  refine W.q (Ev.move (.t rfl)) rfl ?_
  refine W.q (Ev.eqi (.t rfl) (.t rfl)) rfl ?_
  refine W.nil ?_
  refine W.then ?_
  refine W.is (t := 16) (g := true) (av' := .lit (.bool false)) rfl (congrArg (fun b => AV.lit (.bool b)) (by exact beq_eq_false_iff_ne.2 (by omega))) ?_
  refine W.condF (.t rfl) ?_
  refine W.skip ?_
  refine W.then ?_
  refine W.seq ?_
  refine W.region ?_
  refine W.q (Ev.move (.t rfl)) rfl ?_
  first | refine W.q (Ev.lensl (.t rfl) Try.underlying24) rfl ?_ | refine W.q (Ev.lenar (i := 0) (.t rfl) rfl Try.underlying24) rfl ?_ | refine W.q (Ev.lenar (i := 1) (.t rfl) rfl Try.underlying24) rfl ?_ | refine W.q (Ev.lenar (i := 2) (.t rfl) rfl Try.underlying24) rfl ?_ | refine W.q (Ev.lenar (i := 3) (.t rfl) rfl Try.underlying24) rfl ?_ | refine W.q (Ev.lenl (.t rfl) Try.underlying24) rfl ?_
  refine W.q (Ev.assign (.t rfl)) rfl ?_
  refine W.nil ?_
  refine W.then ?_
  refine W.seq ?_
  refine W.drawnE (ι := Unit) (fun ee _ => [bif ee 6 then ME.arr (.slice (some ⟨g, off, none⟩) (es.length - 1) cq) 42 4 (es.take i ++ es.drop (i + 1)) else ME.arr (.slice (some ⟨g, off, none⟩) (es.length) cq) 42 4 (es)]) 6 () (by kernel_rfl) (by kernel_rfl) rfl ?_
  refine DE.q (fun e c hk => (Ev.move (.t rfl))) rfl (fun _ _ => rfl) (by first | exact .inr (fun _ _ => rfl) | exact .inl (by kernel_rfl)) ?_
  refine DE.q (fun e c hk => (Ev.move (.t rfl))) rfl (fun _ _ => rfl) (by first | exact .inr (fun _ _ => rfl) | exact .inl (by kernel_rfl)) ?_
  refine DE.q (fun e c hk => (Ev.slit0 (q := i) (hi := some (.tmp 21)) (.t rfl) Try.underlying24 ty42 (.t rfl) (by first | rfl | omega | (simp; omega)) (by omega))) rfl (fun _ _ => rfl) (by first | exact .inr (fun _ _ => rfl) | exact .inl (by kernel_rfl)) ?_
  refine DE.q (fun e c hk => (Ev.move (.t rfl))) rfl (fun _ _ => rfl) (by first | exact .inr (fun _ _ => rfl) | exact .inl (by kernel_rfl)) ?_
  refine DE.q (fun e c hk => (Ev.move (.t rfl))) rfl (fun _ _ => rfl) (by first | exact .inr (fun _ _ => rfl) | exact .inl (by kernel_rfl)) ?_
  refine DE.q (fun e c hk => (Ev.slit (v := (.slice (if cq = i + 1 then some ⟨g, off, none⟩ else some ⟨g, off + (i + 1) * 4, none⟩) (es.length - (i + 1)) (cq - (i + 1)))) (lo := some (.tmp 24)) (hi := none) (.t rfl) Try.underlying24 ty42 (.t rfl) rfl (fun _ => by omega) (by rw [show ((i : Int) + 1).toNat = i + 1 from by omega, Int.toNat_natCast]; simp [Addr.add_lit]))) rfl (fun _ _ => rfl) (by first | exact .inr (fun _ _ => rfl) | exact .inl (by kernel_rfl)) ?_
  refine DE.effc (av := fun _ => .lit (.slice (some ⟨g, off, none⟩) (es.length - 1) cq)) rfl (.inr fun _ _ => rfl) (fun e c hk L_ hs Q h => ?_) ?_
  · have hk_6 := hk.not
    simp only [addE, hk_6, Nat.reduceAdd, Nat.reduceEqDiff, ↓reduceIte, cond_true, cond_false] at h ⊢
    exact W.appv 0 (p := i) (xs := es.drop (i + 1)) (es' := es.take i ++ es.drop (i + 1)) (n' := es.length - 1) (.t (hs _ _ rfl)) rfl ((congrArg (fun q => VwOv _ _ _ _ _ q _) hdl.symm).mp (.own 0 (.t (hs _ _ rfl)) (p := i + 1) (by by_cases hcc : cq = i + 1; exact .inl (List.eq_nil_of_length_eq_zero (by omega)); exact .inr (if_neg hcc)) rfl (by rw [List.take_length]) (by omega) (by omega) hod)) Try.underlying24 ni24 ty42 (by omega) (by omega) (by rfl) (by omega) rfl h
  refine DE.q (fun e c hk => (Ev.assign (.t rfl))) rfl (fun _ _ => rfl) (by first | exact .inr (fun _ _ => rfl) | exact .inl (by kernel_rfl)) ?_
  refine DE.nil (fun c_ e_ he_ => ?_)
  simp only [he_ 6 (by decide), cond_true, cond_false]
  refine W.then ?_
  refine W.seq ?_
  refine W.region ?_
  refine W.q (Ev.move (.t rfl)) rfl ?_
  refine W.q (Ev.move (.t rfl)) rfl ?_
  first | refine W.q (Ev.lensl (.t rfl) Try.underlying24) rfl ?_ | refine W.q (Ev.lenar (i := 0) (.t rfl) rfl Try.underlying24) rfl ?_ | refine W.q (Ev.lenar (i := 1) (.t rfl) rfl Try.underlying24) rfl ?_ | refine W.q (Ev.lenar (i := 2) (.t rfl) rfl Try.underlying24) rfl ?_ | refine W.q (Ev.lenar (i := 3) (.t rfl) rfl Try.underlying24) rfl ?_ | refine W.q (Ev.lenl (.t rfl) Try.underlying24) rfl ?_
  refine W.q (Ev.move (.t rfl)) rfl ?_
  refine W.q (Ev.slitp (p := es.length - 1) (q := es.length) (lo := some (.tmp 29)) (hi := some (.tmp 30)) (.t rfl) Try.underlying24 ty42 (.t rfl) (.t rfl) (by first | rfl | omega | (simp; omega)) (by first | rfl | omega | (simp; omega)) (by omega)) rfl ?_
  refine W.clear 0 (j := es.length - 1) (m := es.length - (es.length - 1)) (.t rfl) rfl Try.underlying24 ty42 rfl rfl (by omega) (by omega) ?_
  refine W.nil ?_
  refine W.then ?_
  refine W.seq ?_
  refine W.region ?_
  refine W.q (Ev.move (.t rfl)) rfl ?_
  refine W.q (Ev.assign (.t rfl)) rfl ?_
  refine W.nil ?_
  refine W.then ?_
  refine W.ret ?_
  refine W.retn (M' := [.arr _ 42 4 _]) (D := _) (rs := [.tmp 6]) (avs := [_]) Try.results23 ⟨rfl, trivial⟩ rfl (.refl _) ?_
  exact ⟨_, rfl, rfl⟩

end WDelete

end Go.Proofs.Ytpjngpegkoohgaa
