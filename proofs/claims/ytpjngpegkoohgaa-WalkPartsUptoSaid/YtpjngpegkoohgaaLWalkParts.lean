/-
  The law WalkParts, walked.
-/
import Derived.Test.YtpjngpegkoohgaaChange
import Derived.Test.YtpjngpegkoohgaaPick
import Derived.Test.YtpjngpegkoohgaaCopy
import Derived.Test.YtpjngpegkoohgaaUndo
import Derived.Test.YtpjngpegkoohgaaBase
import Derived.Test.YtpjngpegkoohgaaWChanges
import Derived.Test.YtpjngpegkoohgaaWPlayC
import Derived.Test.YtpjngpegkoohgaaWCopied
import Derived.Test.YtpjngpegkoohgaaWSame
import Derived.Test.YtpjngpegkoohgaaWNodes
set_option linter.unusedVariables false
set_option linter.unusedSimpArgs false
set_option maxRecDepth 100000
namespace Go.Proofs.Ytpjngpegkoohgaa
open Go.Vl

namespace LWalkParts
theorem ty51 : Ty Try.prog 51 6 112 (.agg #[.int .i64 0, .slice none 0 0, .string ⟨#[]⟩, .slice none 0 0, .string ⟨#[]⟩, .slice none 0 0]) := Ty.of (by kernel_rfl)
theorem ni27 : NotInt Try.prog 27 := .inl ⟨_, Try.underlying27⟩
theorem c_WalkParts (l : List Int) (ts : List Tn) (z : Int) (hl : l.length ≤ 1048576) (htn : ts.length ≤ 1048576) (hts : (ts.map fun t => t.node.length).sum ≤ 1048576) : FnP Try.prog 3 [.sl 1 (l.map AV.int), .sl 3 (ts.map tnv), .int z] (.bool true) :=  by
  refine FnC.mk Try.func3 (by kernel_rfl) rfl Try.ntmps3 rfl (fun w0 F => ?_)
  refine W.seq ?_
  refine W.region ?_
  refine W.q (Ev.assign .k) rfl ?_
  refine W.nil ?_
  refine W.then ?_
  refine W.seq ?_
  refine W.region ?_
  refine W.q (Ev.move (.t rfl)) rfl ?_
  refine W.call (WNodes.c_Nodes l hl 4 5 (by decide) (by decide) (by decide)) ⟨(.t rfl), .k, .k, trivial⟩ (.refl _) rfl ?_
  rintro _ _ ⟨v19, ns, rest, rfl, rfl, hn1, hn2, hn3, hn4, hn5⟩
  have hns := Nd.szs_len ns
  refine W.q (Ev.move (.t rfl)) rfl ?_
  refine W.q (Ev.extract (.t rfl) rfl) rfl ?_
  refine W.q (Ev.extract (.t rfl) rfl) rfl ?_
  refine W.q (Ev.assign (.t rfl)) rfl ?_
  refine W.q (Ev.assign (.t rfl)) rfl ?_
  refine W.nil ?_
  refine W.freezeA (M1 := []) (M2 := []) (D := []) (v := v19) (L' := [(7, true, .sl 4 (ns.map Nd.av))]) (.refl _) ⟨⟨_, rfl, .one .hit⟩, trivial⟩ (FrzMs.refl _) ?_
  refine W.then ?_
  refine W.seq ?_
  refine W.region ?_
  refine W.q (Ev.move (.t rfl)) rfl ?_
  refine W.q (Ev.move (.t rfl)) rfl ?_
  refine W.call (WChanges.c_Changes ns ts (by omega) hn3 hts htn) ⟨(.t rfl), (.t rfl), .k, trivial⟩ (.refl _) rfl ?_
  rintro _ _ ⟨cs, v25, rfl, rfl, hcl, hok⟩
  refine W.q (Ev.move (.t rfl)) rfl ?_
  refine W.q (Ev.extract (.t rfl) rfl) rfl ?_
  refine W.q (Ev.extract (.t rfl) rfl) rfl ?_
  refine W.q (Ev.extract (.t rfl) rfl) rfl ?_
  refine W.q (Ev.assign (.t rfl)) rfl ?_
  refine W.q (Ev.assign (.t rfl)) rfl ?_
  refine W.q (Ev.assign (.t rfl)) rfl ?_
  refine W.nil ?_
  refine W.freezeA (M1 := []) (M2 := []) (D := []) (v := v25) (L' := [(9, true, .sl 6 (cs.map cav))]) (.refl _) ⟨⟨_, rfl, .one .hit⟩, trivial⟩ (FrzMs.refl _) ?_
  have hcm : (cs.map cav).length = cs.length := List.length_map ..
  refine W.then ?_
  refine W.seq ?_
  refine W.seq ?_
  refine W.region ?_
  refine W.q (Ev.move (.t rfl)) rfl ?_
  refine W.q (Ev.not (.t rfl)) rfl ?_
  refine W.nil ?_
  refine W.then ?_
  refine W.is (t := 30) (g := true) (av' := .lit (.bool false)) rfl (congrArg (fun b => AV.lit (.bool b)) (by rfl)) ?_
  refine W.condF (.t rfl) ?_
  refine W.skip ?_
  refine W.then ?_
  refine W.seq ?_
  refine W.region ?_
  refine W.q (Ev.move (.t rfl)) rfl ?_
  refine W.q (Ev.move (.t rfl)) rfl ?_
  first | refine W.q (Ev.lensl (.t rfl) Try.underlying27) rfl ?_ | refine W.q (Ev.lenar (i := 0) (.t rfl) rfl Try.underlying27) rfl ?_ | refine W.q (Ev.lenar (i := 1) (.t rfl) rfl Try.underlying27) rfl ?_ | refine W.q (Ev.lenar (i := 2) (.t rfl) rfl Try.underlying27) rfl ?_ | refine W.q (Ev.lenar (i := 3) (.t rfl) rfl Try.underlying27) rfl ?_
  first | refine W.q (Ev.add (.t rfl) .k (fun _ => by omega)) rfl ?_ | refine W.q (Ev.addw (.t rfl) .k) rfl ?_
  refine W.callp (Base.c_Picked z (((cs.map cav).length : Int) + 1) (by omega) (by omega)) ⟨(.t rfl), (.t rfl), trivial⟩ rfl ?_
  refine W.q (Ev.assign (.t rfl)) rfl ?_
  refine W.nil ?_
  obtain ⟨k, hk, hkl⟩ : ∃ k : Nat, z % (((cs.map cav).length : Int) + 1) = (k : Int) ∧ k ≤ cs.length := ⟨(z % (((cs.map cav).length : Int) + 1)).toNat, by have := Int.emod_nonneg z (show (((cs.map cav).length : Int) + 1) ≠ 0 by omega); omega, by have := Int.emod_lt_of_pos z (show 0 < (((cs.map cav).length : Int) + 1) by omega); omega⟩
  refine W.is (t := 12) (g := true) (av' := .int (k : Int)) rfl (congrArg AV.int hk) ?_
  have hsp := (Ch.oks_append (cs.take k) (cs.drop k) ns).1 (by rw [List.take_append_drop]; exact hok)
  have hP1 := WPlayC.c_PlayC ns (cs.take k) (by rw [List.length_take]; omega) hsp.1
  have hP2 := WPlayC.c_PlayC _ (cs.drop k) (by rw [List.length_drop]; omega) hsp.2
  have hfs := ((Ch.oks_append cs [] ns).1 (by rw [List.append_nil]; exact hok)).2.1
  refine W.then ?_
  refine W.seq ?_
  refine W.drawnE (ι := Unit) (fun _ _ => _) 12 () (by kernel_rfl) (by kernel_rfl) rfl ?_
  refine DE.q (fun e c hk => (Ev.move (.t rfl))) rfl (fun _ _ => rfl) (by first | exact .inr (fun _ _ => rfl) | exact .inl (by kernel_rfl)) ?_
  refine DE.callp (fun c => WCopied.c_copied ns (by omega)) (fun c => ⟨(.t rfl), trivial⟩) rfl (fun _ _ => rfl) (by first | exact .inr (fun _ _ => rfl) | exact .inl (by kernel_rfl)) ?_
  refine DE.q (fun e c hk => (Ev.move (.t rfl))) rfl (fun _ _ => rfl) (by first | exact .inr (fun _ _ => rfl) | exact .inl (by kernel_rfl)) ?_
  refine DE.q (fun e c hk => (Ev.move (.t rfl))) rfl (fun _ _ => rfl) (by first | exact .inr (fun _ _ => rfl) | exact .inl (by kernel_rfl)) ?_
  refine DE.q (fun e c hk => Ev.takesl (f := cav) (l := cs) (n := k) (.t rfl) Try.underlying27 ty51 (.t rfl) rfl (fun _ => by omega)) rfl (fun _ _ => rfl) (by first | exact .inr (fun _ _ => rfl) | exact .inl (by kernel_rfl)) ?_
  first | refine DE.app0 (fun c => (by first | exact .k | exact .kn)) (fun e c => .sl (.t rfl) (okc_cavs _)) Try.underlying27 ni27 ty51 rfl rfl (by rw [List.length_map, List.length_take]; omega) rfl (fun _ _ => rfl) ?_ | refine DE.app0 (fun c => .k) (fun e c => .sl (.t rfl) (okc_cavs _)) Try.underlying27 ni27 ty51 rfl rfl (by rw [List.length_map, List.length_take]; omega) rfl (fun _ _ => rfl) ?_
  refine DE.callp (fun c => hP1) (fun c => ⟨(.t rfl), (.t rfl), trivial⟩) rfl (fun _ _ => rfl) (by first | exact .inr (fun _ _ => rfl) | exact .inl (by kernel_rfl)) ?_
  refine DE.q (fun e c hk => (Ev.move (.t rfl))) rfl (fun _ _ => rfl) (by first | exact .inr (fun _ _ => rfl) | exact .inl (by kernel_rfl)) ?_
  refine DE.q (fun e c hk => (Ev.extract (.t rfl) rfl)) rfl (fun _ _ => rfl) (by first | exact .inr (fun _ _ => rfl) | exact .inl (by kernel_rfl)) ?_
  refine DE.q (fun e c hk => (Ev.extract (.t rfl) rfl)) rfl (fun _ _ => rfl) (by first | exact .inr (fun _ _ => rfl) | exact .inl (by kernel_rfl)) ?_
  refine DE.q (fun e c hk => (Ev.assign (.t rfl))) rfl (fun _ _ => rfl) (by first | exact .inr (fun _ _ => rfl) | exact .inl (by kernel_rfl)) ?_
  refine DE.q (fun e c hk => (Ev.assign (.t rfl))) rfl (fun _ _ => rfl) (by first | exact .inr (fun _ _ => rfl) | exact .inl (by kernel_rfl)) ?_
  refine DE.nil (fun c_ e_ he_ => ?_)
  dsimp only
  refine W.then ?_
  refine W.seq ?_
  refine W.region ?_
  refine W.q (Ev.move (.t rfl)) rfl ?_
  refine W.q (Ev.move (.t rfl)) rfl ?_
  refine W.q (Ev.move (.t rfl)) rfl ?_
  refine W.q (Ev.dropsl (f := cav) (l := cs) (n := k) (.t rfl) Try.underlying27 ty51 (.t rfl) rfl (fun _ => by omega)) rfl ?_
  first | refine W.appn .k (.sl (.t rfl) (okc_cavs _)) Try.underlying27 ni27 ty51 rfl rfl (by rw [List.length_map, List.length_drop]; omega) rfl ?_ | refine W.appn .k (.arr 0 (.t rfl) rfl (okc_cavs _)) Try.underlying27 ni27 ty51 rfl rfl (by rw [List.length_map, List.length_drop]; omega) rfl ?_ | refine W.appn .k (.arr 1 (.t rfl) rfl (okc_cavs _)) Try.underlying27 ni27 ty51 rfl rfl (by rw [List.length_map, List.length_drop]; omega) rfl ?_ | refine W.appn .k (.arr 2 (.t rfl) rfl (okc_cavs _)) Try.underlying27 ni27 ty51 rfl rfl (by rw [List.length_map, List.length_drop]; omega) rfl ?_ | refine W.appn .k (.arr 3 (.t rfl) rfl (okc_cavs _)) Try.underlying27 ni27 ty51 rfl rfl (by rw [List.length_map, List.length_drop]; omega) rfl ?_
  intro v51
  refine W.freezeA (M1 := []) (M2 := []) (D := []) (v := v51) (L' := [(51, true, .sl 6 ((cs.drop k).map cav))]) (.refl _) ⟨⟨_, rfl, .one .hit⟩, trivial⟩ (FrzMs.refl _) ?_
  refine W.callp (hP2) ⟨(.t rfl), (.t rfl), trivial⟩ rfl ?_
  refine W.q (Ev.move (.t rfl)) rfl ?_
  refine W.q (Ev.extract (.t rfl) rfl) rfl ?_
  refine W.q (Ev.extract (.t rfl) rfl) rfl ?_
  refine W.q (Ev.assign (.t rfl)) rfl ?_
  refine W.q (Ev.assign (.t rfl)) rfl ?_
  refine W.nil ?_
  refine W.is (t := 15) (g := true) (av' := .sl 4 ((Ch.run ns cs).map Nd.av)) rfl (congrArg (fun q : List Nd => AV.sl 4 (q.map Nd.av)) (show Ch.run (Ch.run ns (cs.take k)) (cs.drop k) = Ch.run ns cs from by rw [← Ch.run_append, List.take_append_drop])) ?_
  refine W.then ?_
  refine W.seq ?_
  refine W.region ?_
  refine W.q (Ev.move (.t rfl)) rfl ?_
  refine W.q (Ev.eqi (.t rfl) .k) rfl ?_
  refine W.q (Ev.move (.t rfl)) rfl ?_
  refine W.gyes rfl rfl ?_
  refine W.q (Ev.move (.t rfl)) rfl ?_
  refine W.gyes rfl rfl ?_
  refine W.q (Ev.eqi (.t rfl) .k) rfl ?_
  refine W.q (Ev.and (.t rfl) ⟨_, _, rfl, rfl, by first | (simp; done) | (intro hg_ hp_; simp [hp_]; done) | (simp <;> omega; done) | (simp_all; done) | grind⟩) rfl ?_
  refine W.q (Ev.move (.t rfl)) rfl ?_
  refine W.gyes rfl rfl ?_
  refine W.q (Ev.move (.t rfl)) rfl ?_
  refine W.gyes rfl rfl ?_
  refine W.q (Ev.move (.t rfl)) rfl ?_
  refine W.gyes rfl rfl ?_
  refine W.callp (WSame.c_same (Ch.run ns cs) (by omega)) ⟨(.t rfl), (.t rfl), trivial⟩ rfl ?_
  refine W.q (Ev.and (.t rfl) ⟨_, _, rfl, rfl, by first | (simp; done) | (intro hg_ hp_; simp [hp_]; done) | (simp <;> omega; done) | (simp_all; done) | grind⟩) rfl ?_
  refine W.q (Ev.assign (.t rfl)) rfl ?_
  refine W.nil ?_
  refine W.then ?_
  refine W.ret ?_
  refine W.retn (M' := []) (D := _) (rs := [.tmp 6]) (avs := [_]) Try.results3 ⟨rfl, trivial⟩ rfl (.refl _) ?_
  exact ⟨rfl, rfl⟩

end LWalkParts

end Go.Proofs.Ytpjngpegkoohgaa
