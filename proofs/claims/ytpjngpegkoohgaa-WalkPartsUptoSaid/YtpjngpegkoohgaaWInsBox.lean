/-
  A node that is put in.
-/
import Derived.Test.YtpjngpegkoohgaaChange
import Derived.Test.YtpjngpegkoohgaaPick
import Derived.Test.YtpjngpegkoohgaaCopy
import Derived.Test.YtpjngpegkoohgaaUndo
import Derived.Test.YtpjngpegkoohgaaBase
set_option linter.unusedVariables false
set_option linter.unusedSimpArgs false
set_option maxRecDepth 100000
namespace Go.Proofs.Ytpjngpegkoohgaa
open Go.Vl

namespace WInsBox
theorem ty42 : Ty Try.prog 42 4 80 (.agg #[.string ⟨#[]⟩, .slice none 0 0, .string ⟨#[]⟩, .slice none 0 0]) := Ty.of (by kernel_rfl)
theorem ni24 : NotInt Try.prog 24 := .inl ⟨_, Try.underlying24⟩
theorem c_InsertBoxEnd (es : List AV) (ex : AV) (cs : List AV) (v : Value) (vb i : Nat) (he : ex.cells = cs) (hcs : cs.length = 4) (hoe : ex.okc = true) (ho : ∀ e ∈ es, e.okc = true) (hl : es.length + 1 ≤ 1099511627776) (hi : i = es.length) : FnC Try.prog 21 [.lit v, .int (i : Int), .lit (.slice (some ⟨vb, 0, none⟩) 1 1)] [.arr v 42 4 es, .box vb 42 cs] (fun r M => ∃ v', r = .lit v' ∧ M = [.arr v' 42 4 (es.take i ++ ex :: es.drop i)]) :=  by
  refine FnC.mk Try.func21 (by kernel_rfl) rfl Try.ntmps21 rfl (fun w0 F => ?_)
  subst hi
  refine W.seq ?_
  refine W.region ?_
  refine W.q (Ev.assign .k) rfl ?_
  refine W.nil ?_
  refine W.then ?_
  refine W.seq ?_
  refine W.region ?_
  refine W.q (Ev.move (.t rfl)) rfl ?_
  refine W.q (Ev.move (.t rfl)) rfl ?_
  refine W.subnone 0 (.t rfl) rfl (.t rfl) Try.underlying24 ty42 rfl rfl ?_
  intro v12
  refine W.nil ?_
  refine W.then ?_
  refine W.seq ?_
  refine W.region ?_
  refine W.q (Ev.move (.t rfl)) rfl ?_
  first | refine W.q (Ev.lensl (.t rfl) Try.underlying24) rfl ?_ | refine W.q (Ev.lenar (i := 0) (.t rfl) rfl Try.underlying24) rfl ?_ | refine W.q (Ev.lenar (i := 1) (.t rfl) rfl Try.underlying24) rfl ?_ | refine W.q (Ev.lenar (i := 2) (.t rfl) rfl Try.underlying24) rfl ?_ | refine W.q (Ev.lenar (i := 3) (.t rfl) rfl Try.underlying24) rfl ?_ | refine W.q (Ev.lenl (.t rfl) Try.underlying24) rfl ?_
  refine W.q (Ev.assign (.t rfl)) rfl ?_
  refine W.nil ?_
  refine W.then ?_
  refine W.seq ?_
  refine W.seq ?_
  refine W.region ?_
  refine W.q (Ev.move (.t rfl)) rfl ?_
  refine W.q (Ev.eqi (.t rfl) .k) rfl ?_
  refine W.nil ?_
  refine W.then ?_
  refine W.is (t := 16) (g := true) (av' := .lit (.bool false)) rfl (congrArg (fun b => AV.lit (.bool b)) (by rfl)) ?_
  refine W.condF (.t rfl) ?_
  refine W.skip ?_
  refine W.then ?_
  refine W.seq ?_
  refine W.region ?_
  refine W.q (Ev.move (.t rfl)) rfl ?_
  first | refine W.q (Ev.lensl (.t rfl) Try.underlying24) rfl ?_ | refine W.q (Ev.lenar (i := 0) (.t rfl) rfl Try.underlying24) rfl ?_ | refine W.q (Ev.lenar (i := 1) (.t rfl) rfl Try.underlying24) rfl ?_ | refine W.q (Ev.lenar (i := 2) (.t rfl) rfl Try.underlying24) rfl ?_ | refine W.q (Ev.lenar (i := 3) (.t rfl) rfl Try.underlying24) rfl ?_ | refine W.q (Ev.lenl (.t rfl) Try.underlying24) rfl ?_
  refine W.q (Ev.assign (.t rfl)) rfl ?_
  refine W.nil ?_
  refine W.then ?_
  refine W.seq ?_
  refine W.seq ?_
  refine W.region ?_
  refine W.q (Ev.move (.t rfl)) rfl ?_
  refine W.q (Ev.move (.t rfl)) rfl ?_
  refine W.q (Ev.eqi (.t rfl) (.t rfl)) rfl ?_
  refine W.nil ?_
  refine W.then ?_
  refine W.is (t := 22) (g := true) (av' := .lit (.bool true)) rfl (congrArg (fun b => AV.lit (.bool b)) (by exact beq_iff_eq.2 (by omega))) ?_
  refine W.condT (.t rfl) ?_
  refine W.seq ?_
  refine W.region ?_
  refine W.q (Ev.move (.t rfl)) rfl ?_
  refine W.q (Ev.move (.t rfl)) rfl ?_
  refine W.app' 0 (xs := [ex]) (.t rfl) rfl (.box 1 (.t rfl) rfl hcs he hoe) Try.underlying24 ni24 ty42 rfl rfl (by simp only [List.length_cons, List.length_nil]; omega) rfl ?_
  intro v25
  refine W.q (Ev.assign (.t rfl)) rfl ?_
  refine W.nil ?_
  refine W.then ?_
  refine W.ret ?_
  refine W.then_ret ?_
  refine W.retn (M' := [.arr _ 42 4 _]) (D := _) (rs := [.tmp 6]) (avs := [_]) Try.results21 ⟨rfl, trivial⟩ rfl (.refl _) ?_
  exact ⟨_, rfl, by rw [List.take_length, List.drop_length]⟩

theorem c_InsertBoxMid (es : List AV) (ex : AV) (cs : List AV) (v : Value) (vb i : Nat) (he : ex.cells = cs) (hcs : cs.length = 4) (hoe : ex.okc = true) (ho : ∀ e ∈ es, e.okc = true) (hl : es.length + 1 ≤ 1099511627776) (hi : i < es.length) : FnC Try.prog 21 [.lit v, .int (i : Int), .lit (.slice (some ⟨vb, 0, none⟩) 1 1)] [.arr v 42 4 es, .box vb 42 cs] (fun r M => ∃ v', r = .lit v' ∧ M = [.arr v' 42 4 (es.take i ++ ex :: es.drop i)]) :=  by
  refine FnC.mk Try.func21 (by kernel_rfl) rfl Try.ntmps21 rfl (fun w0 F => ?_)
  refine W.arr_lit 0 rfl (by omega) ?_
  intro g off cq hv hc1 hc2
  subst hv
  have hdl : (es.drop i).length = es.length - i := List.length_drop ..
  have htl : (es.take i).length = i := by rw [List.length_take]; omega
  have hod : ∀ e ∈ es.drop i, e.okc = true := fun e he => ho e (List.mem_of_mem_drop he)
  refine W.seq ?_
  refine W.region ?_
  refine W.q (Ev.assign .k) rfl ?_
  refine W.nil ?_
  refine W.then ?_
  refine W.seq ?_
  refine W.region ?_
  refine W.q (Ev.move (.t rfl)) rfl ?_
  refine W.q (Ev.move (.t rfl)) rfl ?_
  refine W.q (Ev.slitp (p := i) (q := es.length) (lo := some (.tmp 11)) (hi := none) (.t rfl) Try.underlying24 ty42 (.t rfl) rfl (by first | rfl | omega | (simp; omega)) (by first | rfl | omega | (simp; omega)) (by omega)) rfl ?_
  refine W.nil ?_
  refine W.then ?_
  refine W.seq ?_
  refine W.region ?_
  refine W.q (Ev.move (.t rfl)) rfl ?_
  first | refine W.q (Ev.lensl (.t rfl) Try.underlying24) rfl ?_ | refine W.q (Ev.lenar (i := 0) (.t rfl) rfl Try.underlying24) rfl ?_ | refine W.q (Ev.lenar (i := 1) (.t rfl) rfl Try.underlying24) rfl ?_ | refine W.q (Ev.lenar (i := 2) (.t rfl) rfl Try.underlying24) rfl ?_ | refine W.q (Ev.lenar (i := 3) (.t rfl) rfl Try.underlying24) rfl ?_ | refine W.q (Ev.lenl (.t rfl) Try.underlying24) rfl ?_
  refine W.q (Ev.assign (.t rfl)) rfl ?_
  refine W.nil ?_
  refine W.then ?_
  refine W.seq ?_
  refine W.seq ?_
  refine W.region ?_
  refine W.q (Ev.move (.t rfl)) rfl ?_
  refine W.q (Ev.eqi (.t rfl) .k) rfl ?_
  refine W.nil ?_
  refine W.then ?_
  refine W.is (t := 16) (g := true) (av' := .lit (.bool false)) rfl (congrArg (fun b => AV.lit (.bool b)) (by rfl)) ?_
  refine W.condF (.t rfl) ?_
  refine W.skip ?_
  refine W.then ?_
  refine W.seq ?_
  refine W.region ?_
  refine W.q (Ev.move (.t rfl)) rfl ?_
  first | refine W.q (Ev.lensl (.t rfl) Try.underlying24) rfl ?_ | refine W.q (Ev.lenar (i := 0) (.t rfl) rfl Try.underlying24) rfl ?_ | refine W.q (Ev.lenar (i := 1) (.t rfl) rfl Try.underlying24) rfl ?_ | refine W.q (Ev.lenar (i := 2) (.t rfl) rfl Try.underlying24) rfl ?_ | refine W.q (Ev.lenar (i := 3) (.t rfl) rfl Try.underlying24) rfl ?_ | refine W.q (Ev.lenl (.t rfl) Try.underlying24) rfl ?_
  refine W.q (Ev.assign (.t rfl)) rfl ?_
  refine W.nil ?_
  refine W.then ?_
  refine W.seq ?_
  refine W.seq ?_
  refine W.region ?_
  refine W.q (Ev.move (.t rfl)) rfl ?_
  refine W.q (Ev.move (.t rfl)) rfl ?_
  refine W.q (Ev.eqi (.t rfl) (.t rfl)) rfl ?_
  refine W.nil ?_
  refine W.then ?_
  refine W.is (t := 22) (g := true) (av' := .lit (.bool false)) rfl (congrArg (fun b => AV.lit (.bool b)) (by exact beq_eq_false_iff_ne.2 (by omega))) ?_
  refine W.condF (.t rfl) ?_
  refine W.skip ?_
  refine W.then ?_
  refine W.seq ?_
  refine W.seq ?_
  refine W.region ?_
  refine W.q (Ev.move (.t rfl)) rfl ?_
  refine W.q (Ev.move (.t rfl)) rfl ?_
  first | refine W.q (Ev.add (.t rfl) (.t rfl) (fun _ => by omega)) rfl ?_ | refine W.q (Ev.addw (.t rfl) (.t rfl)) rfl ?_
  refine W.q (Ev.move (.t rfl)) rfl ?_
  refine W.q (Ev.capl (.t rfl) Try.underlying24) rfl ?_
  refine W.q (Ev.gti (.t rfl) (.t rfl)) rfl ?_
  refine W.nil ?_
  refine W.then ?_
  refine W.cond (.t rfl) (fun hc_t31 => ?_) (fun hc_t31 => ?_)
  · have h31 := of_decide_eq_true hc_t31
    refine W.seq ?_
    refine W.region ?_
    refine W.q (Ev.move (.t rfl)) rfl ?_
    refine W.q (Ev.move (.t rfl)) rfl ?_
    refine W.q (Ev.slit0 (q := i) (hi := some (.tmp 33)) (.t rfl) Try.underlying24 ty42 (.t rfl) (by first | rfl | omega | (simp; omega)) (by omega)) rfl ?_
    refine W.q (Ev.move (.t rfl)) rfl ?_
    refine W.q (Ev.move (.t rfl)) rfl ?_
    first | refine W.q (Ev.add (.t rfl) (.t rfl) (fun _ => by omega)) rfl ?_ | refine W.q (Ev.addw (.t rfl) (.t rfl)) rfl ?_
    refine W.q (Ev.move (.t rfl)) rfl ?_
    first | refine W.q (Ev.sub (.t rfl) (.t rfl) (fun _ => by omega)) rfl ?_ | refine W.q (Ev.subw (.t rfl) (.t rfl)) rfl ?_
    refine W.appz 0 (p := i) (m := es.length + 1 - i) (n' := es.length + 1) (.t rfl) rfl (.t rfl) (by omega) Try.underlying24 Try.underlying3 ty42 rfl rfl rfl rfl rfl (by omega) (by omega) (by omega) (by omega) (by omega) rfl ?_
    intro b40 c40 h40
    refine W.q (Ev.assign (.t rfl)) rfl ?_
    refine W.nil ?_
    refine W.then ?_
    refine W.seq ?_
    refine W.region ?_
    refine W.q (Ev.move (.t rfl)) rfl ?_
    refine W.q (Ev.move (.t rfl)) rfl ?_
    refine W.q (Ev.slitp (p := i) (q := es.length + 1) (lo := some (.tmp 42)) (hi := none) (.t rfl) Try.underlying24 ty42 (.t rfl) rfl (by first | rfl | omega | (simp; omega)) (by first | rfl | omega | (simp; omega)) (by omega)) rfl ?_
    refine W.q (Ev.move (.t rfl)) rfl ?_
    refine W.copy 0 (j := i) (xs := [ex]) (sn := 1) (es' := es.take i ++ ex :: List.replicate (es.length - i) (.agg [.lit (.string ⟨#[]⟩), .lit (.slice none 0 0), .lit (.string ⟨#[]⟩), .lit (.slice none 0 0)])) (n' := es.length + 1) (.t rfl) rfl (.box 2 (.t rfl) rfl hcs he hoe) Try.underlying24 ty42 (by show 1 = min _ _; omega) (by simp only [List.length_append, List.length_take, List.length_drop, List.length_replicate, List.length_cons, List.length_nil]; omega) (by simp only [List.length_cons, List.length_nil]; omega) (by exact ins_rep es ex _ i hi) (by simp only [List.length_append, List.length_take, List.length_drop, List.length_replicate, List.length_cons, List.length_nil]; omega) rfl ?_
    refine W.nil ?_
    refine W.then ?_
    refine W.seq ?_
    refine W.drawnE (ι := Unit) (fun ee _ => [bif ee 8 then ME.arr (.slice (some ⟨b40, 0, none⟩) (es.length + 1) c40) 42 4 (es.take i ++ ex :: es.drop i) else ME.arr (.slice (some ⟨b40, 0, none⟩) (es.length + 1) c40) 42 4 (es.take i ++ ex :: List.replicate (es.length - i) (.agg [.lit (.string ⟨#[]⟩), .lit (.slice none 0 0), .lit (.string ⟨#[]⟩), .lit (.slice none 0 0)])), .arr (.slice (some ⟨g, off, none⟩) es.length cq) 42 4 es, .box vb 42 cs]) 8 () (by kernel_rfl) (by kernel_rfl) rfl ?_
    refine DE.q (fun e c hk => (Ev.move (.t rfl))) rfl (fun _ _ => rfl) (by first | exact .inr (fun _ _ => rfl) | exact .inl (by kernel_rfl)) ?_
    refine DE.q (fun e c hk => (Ev.move (.t rfl))) rfl (fun _ _ => rfl) (by first | exact .inr (fun _ _ => rfl) | exact .inl (by kernel_rfl)) ?_
    refine DE.q (fun e c hk => (Ev.move (.t rfl))) rfl (fun _ _ => rfl) (by first | exact .inr (fun _ _ => rfl) | exact .inl (by kernel_rfl)) ?_
    first | refine DE.q (fun e c hk => (Ev.add (.t rfl) (.t rfl) (fun _ => by omega))) rfl (fun _ _ => rfl) (by first | exact .inr (fun _ _ => rfl) | exact .inl (by kernel_rfl)) ?_ | refine DE.q (fun e c hk => (Ev.addw (.t rfl) (.t rfl))) rfl (fun _ _ => rfl) (by first | exact .inr (fun _ _ => rfl) | exact .inl (by kernel_rfl)) ?_
    refine DE.q (fun e c hk => (Ev.slitp (p := i + 1) (q := es.length + 1) (lo := some (.tmp 49)) (hi := none) (.t rfl) Try.underlying24 ty42 (.t rfl) rfl (by first | rfl | omega | (simp; omega)) (by first | rfl | omega | (simp; omega)) (by omega))) rfl (fun _ _ => rfl) (by first | exact .inr (fun _ _ => rfl) | exact .inl (by kernel_rfl)) ?_
    refine DE.q (fun e c hk => (Ev.move (.t rfl))) rfl (fun _ _ => rfl) (by first | exact .inr (fun _ _ => rfl) | exact .inl (by kernel_rfl)) ?_
    refine DE.q (fun e c hk => (Ev.move (.t rfl))) rfl (fun _ _ => rfl) (by first | exact .inr (fun _ _ => rfl) | exact .inl (by kernel_rfl)) ?_
    refine DE.q (fun e c hk => (Ev.slitp (p := i) (q := es.length) (lo := some (.tmp 52)) (hi := none) (.t rfl) Try.underlying24 ty42 (.t rfl) rfl (by first | rfl | omega | (simp; omega)) (by first | rfl | omega | (simp; omega)) (by omega))) rfl (fun _ _ => rfl) (by first | exact .inr (fun _ _ => rfl) | exact .inl (by kernel_rfl)) ?_
    refine DE.effc (av := fun _ => .lit (.int .i64 ((es.drop i).length : Int))) rfl (.inr fun _ _ => rfl) (fun e c hk L_ hs Q h => ?_) ?_
    · have hk_8 := hk.not
      simp only [addE, hk_8, Nat.reduceAdd, Nat.reduceEqDiff, ↓reduceIte, cond_true, cond_false] at h ⊢
      exact W.copy 0 (j := i + 1) (xs := es.drop i) (sn := es.length - i) (es' := es.take i ++ ex :: es.drop i) (n' := es.length + 1) (.t (hs _ _ rfl)) rfl (.own 1 (.t (hs _ _ rfl)) (p := i) (.inr rfl) rfl (by rw [List.take_length]) (by omega) (by omega) hod) Try.underlying24 ty42 (by rw [hdl]; show _ = min _ _; omega) (by simp only [List.length_append, List.length_take, List.length_drop, List.length_replicate, List.length_cons, List.length_nil]; omega) (by omega) (by exact ins_over es _ _ i hi (by rw [List.length_replicate])) (by simp only [List.length_append, List.length_take, List.length_drop, List.length_replicate, List.length_cons, List.length_nil]; omega) rfl h
    refine DE.nil (fun c_ e_ he_ => ?_)
    simp only [he_ 8 (by decide), cond_true, cond_false]
    refine W.then ?_
    refine W.seq ?_
    refine W.region ?_
    refine W.q (Ev.move (.t rfl)) rfl ?_
    refine W.q (Ev.assign (.t rfl)) rfl ?_
    refine W.nil ?_
    refine W.then ?_
    refine W.ret ?_
    refine W.then_ret ?_
    refine W.retn (M' := [.arr _ 42 4 _]) (D := _) (rs := [.tmp 6]) (avs := [_]) Try.results21 ⟨rfl, trivial⟩ rfl (.refl _) ?_
    exact ⟨_, rfl, rfl⟩
  · have h31 := of_decide_eq_false hc_t31
    refine W.skip ?_
    refine W.then ?_
    refine W.seq ?_
    refine W.region ?_
    refine W.q (Ev.move (.t rfl)) rfl ?_
    refine W.q (Ev.move (.t rfl)) rfl ?_
    refine W.q (Ev.move (.t rfl)) rfl ?_
    first | refine W.q (Ev.add (.t rfl) (.t rfl) (fun _ => by omega)) rfl ?_ | refine W.q (Ev.addw (.t rfl) (.t rfl)) rfl ?_
    refine W.q (Ev.slit0 (q := es.length + 1) (hi := some (.tmp 59)) (.t rfl) Try.underlying24 ty42 (.t rfl) (by first | rfl | omega | (simp; omega)) (by omega)) rfl ?_
    refine W.q (Ev.assign (.t rfl)) rfl ?_
    refine W.nil ?_
    refine W.then ?_
    refine W.seq ?_
    refine W.seq ?_
    refine W.region ?_
    refine W.q (Ev.move (.t rfl)) rfl ?_
    refine W.q (Ev.move (.t rfl)) rfl ?_
    refine W.q (Ev.move (.t rfl)) rfl ?_
    refine W.q (Ev.move (.t rfl)) rfl ?_
    first | refine W.q (Ev.add (.t rfl) (.t rfl) (fun _ => by omega)) rfl ?_ | refine W.q (Ev.addw (.t rfl) (.t rfl)) rfl ?_
    refine W.q (Ev.slitp (p := i + 1) (q := es.length + 1) (lo := some (.tmp 65)) (hi := none) (.t rfl) Try.underlying24 ty42 (.t rfl) rfl (by first | rfl | omega | (simp; omega)) (by first | rfl | omega | (simp; omega)) (by omega)) rfl ?_
    refine W.q (Ev.ovl (TR := 4) 1 0 (fn := _) Try.func24 (by kernel_rfl) (by kernel_rfl) (by kernel_rfl) (by kernel_rfl) Try.underlying24 ty42 (.t rfl) (.t rfl) rfl rfl (by omega) (by omega) (by omega)) rfl ?_
    refine W.q (Ev.not (.t rfl)) rfl ?_
    refine W.nil ?_
    refine W.then ?_
    refine W.is (t := 68) (g := true) (av' := .lit (.bool true)) rfl (congrArg (fun b => AV.lit (.bool b)) (by rfl)) ?_
    refine W.condT (.t rfl) ?_
    refine W.seq ?_
    refine W.drawnE (ι := Unit) (fun ee _ => [bif ee 8 then ME.arr (.slice (some ⟨g, off, none⟩) (es.length + 1) cq) 42 4 (es.take (i + 1) ++ es.drop i) else ME.arr (.slice (some ⟨g, off, none⟩) es.length cq) 42 4 es, .box vb 42 cs]) 8 () (by kernel_rfl) (by kernel_rfl) rfl ?_
    refine DE.q (fun e c hk => (Ev.move (.t rfl))) rfl (fun _ _ => rfl) (by first | exact .inr (fun _ _ => rfl) | exact .inl (by kernel_rfl)) ?_
    refine DE.q (fun e c hk => (Ev.move (.t rfl))) rfl (fun _ _ => rfl) (by first | exact .inr (fun _ _ => rfl) | exact .inl (by kernel_rfl)) ?_
    refine DE.q (fun e c hk => (Ev.move (.t rfl))) rfl (fun _ _ => rfl) (by first | exact .inr (fun _ _ => rfl) | exact .inl (by kernel_rfl)) ?_
    first | refine DE.q (fun e c hk => (Ev.add (.t rfl) (.t rfl) (fun _ => by omega))) rfl (fun _ _ => rfl) (by first | exact .inr (fun _ _ => rfl) | exact .inl (by kernel_rfl)) ?_ | refine DE.q (fun e c hk => (Ev.addw (.t rfl) (.t rfl))) rfl (fun _ _ => rfl) (by first | exact .inr (fun _ _ => rfl) | exact .inl (by kernel_rfl)) ?_
    refine DE.q (fun e c hk => (Ev.slitp (p := i + 1) (q := es.length + 1) (lo := some (.tmp 72)) (hi := none) (.t rfl) Try.underlying24 ty42 (.t rfl) rfl (by first | rfl | omega | (simp; omega)) (by first | rfl | omega | (simp; omega)) (by omega))) rfl (fun _ _ => rfl) (by first | exact .inr (fun _ _ => rfl) | exact .inl (by kernel_rfl)) ?_
    refine DE.q (fun e c hk => (Ev.move (.t rfl))) rfl (fun _ _ => rfl) (by first | exact .inr (fun _ _ => rfl) | exact .inl (by kernel_rfl)) ?_
    refine DE.q (fun e c hk => (Ev.move (.t rfl))) rfl (fun _ _ => rfl) (by first | exact .inr (fun _ _ => rfl) | exact .inl (by kernel_rfl)) ?_
    refine DE.q (fun e c hk => (Ev.slitp (p := i) (q := es.length + 1) (lo := some (.tmp 75)) (hi := none) (.t rfl) Try.underlying24 ty42 (.t rfl) rfl (by first | rfl | omega | (simp; omega)) (by first | rfl | omega | (simp; omega)) (by omega))) rfl (fun _ _ => rfl) (by first | exact .inr (fun _ _ => rfl) | exact .inl (by kernel_rfl)) ?_
    refine DE.effc (av := fun _ => .lit (.int .i64 ((es.drop i).length : Int))) rfl (.inr fun _ _ => rfl) (fun e c hk L_ hs Q h => ?_) ?_
    · have hk_8 := hk.not
      simp only [addE, hk_8, Nat.reduceAdd, Nat.reduceEqDiff, ↓reduceIte, cond_true, cond_false] at h ⊢
      exact W.copy 0 (j := i + 1) (xs := es.drop i) (sn := es.length + 1 - i) (es' := es.take (i + 1) ++ es.drop i) (n' := es.length + 1) (.t (hs _ _ rfl)) rfl (.own 0 (.t (hs _ _ rfl)) (p := i) (.inr rfl) rfl (by rw [List.take_length]) (by omega) (by omega) hod) Try.underlying24 ty42 (by rw [hdl]; show _ = min _ _; omega) (by omega) (by omega) (by rw [List.drop_of_length_le (l := es) (i := i + 1 + _) (by omega), List.append_nil]) (by simp only [List.length_append, List.length_take, List.length_drop, List.length_replicate, List.length_cons, List.length_nil]; omega) rfl h
    refine DE.nil (fun c_ e_ he_ => ?_)
    simp only [he_ 8 (by decide), cond_true, cond_false]
    refine W.then ?_
    refine W.seq ?_
    refine W.region ?_
    refine W.q (Ev.move (.t rfl)) rfl ?_
    refine W.q (Ev.move (.t rfl)) rfl ?_
    refine W.q (Ev.slitp (p := i) (q := es.length + 1) (lo := some (.tmp 79)) (hi := none) (.t rfl) Try.underlying24 ty42 (.t rfl) rfl (by first | rfl | omega | (simp; omega)) (by first | rfl | omega | (simp; omega)) (by omega)) rfl ?_
    refine W.q (Ev.move (.t rfl)) rfl ?_
    refine W.copy 0 (j := i) (xs := [ex]) (sn := 1) (es' := es.take i ++ ex :: es.drop i) (n' := es.length + 1) (.t rfl) rfl (.box 1 (.t rfl) rfl hcs he hoe) Try.underlying24 ty42 (by show 1 = min _ _; omega) (by simp only [List.length_append, List.length_take, List.length_drop, List.length_replicate, List.length_cons, List.length_nil]; omega) (by simp only [List.length_cons, List.length_nil]; omega) (by exact ins_shift es ex i hi) (by simp only [List.length_append, List.length_take, List.length_drop, List.length_replicate, List.length_cons, List.length_nil]; omega) rfl ?_
    refine W.nil ?_
    refine W.then ?_
    refine W.seq ?_
    refine W.region ?_
    refine W.q (Ev.move (.t rfl)) rfl ?_
    refine W.q (Ev.assign (.t rfl)) rfl ?_
    refine W.nil ?_
    refine W.then ?_
    refine W.ret ?_
    refine W.then_ret ?_
    refine W.retn (M' := [.arr _ 42 4 _]) (D := _) (rs := [.tmp 6]) (avs := [_]) Try.results21 ⟨rfl, trivial⟩ rfl (.refl _) ?_
    exact ⟨_, rfl, rfl⟩

theorem c_InsertBox (es : List AV) (ex : AV) (cs : List AV) (v : Value) (vb i : Nat) (he : ex.cells = cs) (hcs : cs.length = 4) (hoe : ex.okc = true) (ho : ∀ e ∈ es, e.okc = true) (hl : es.length + 1 ≤ 1099511627776) (hi : i ≤ es.length) : FnC Try.prog 21 [.lit v, .int (i : Int), .lit (.slice (some ⟨vb, 0, none⟩) 1 1)] [.arr v 42 4 es, .box vb 42 cs] (fun r M => ∃ v', r = .lit v' ∧ M = [.arr v' 42 4 (es.take i ++ ex :: es.drop i)]) := by
  rcases Nat.lt_or_ge i es.length with h | h
  · exact c_InsertBoxMid es ex cs v vb i he hcs hoe ho hl h
  · exact c_InsertBoxEnd es ex cs v vb i he hcs hoe ho hl (by omega)

end WInsBox

end Go.Proofs.Ytpjngpegkoohgaa
