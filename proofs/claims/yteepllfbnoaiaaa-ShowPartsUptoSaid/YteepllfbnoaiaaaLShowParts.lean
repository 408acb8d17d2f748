/-
  The law ShowParts, walked.
-/
import Derived.Test.YteepllfbnoaiaaaWShow
import Derived.Test.YteepllfbnoaiaaaWNodes
import Derived.Test.YteepllfbnoaiaaaPick
set_option linter.unusedVariables false
set_option linter.unusedSimpArgs false
set_option maxRecDepth 100000
namespace Go.Proofs.Yteepllfbnoaiaaa
open Go.Vl

namespace LShowParts
theorem ty9 : Ty Try.prog 9 1 16 (.string ⟨#[]⟩) := Ty.of (by kernel_rfl)
theorem ty25 : Ty Try.prog 25 1 24 (.slice none 0 0) := Ty.of (by kernel_rfl)
theorem ty33 : Ty Try.prog 33 1 24 (.slice none 0 0) := Ty.of (by kernel_rfl)
theorem ty35 : Ty Try.prog 35 4 80 (.agg #[.string ⟨#[]⟩, .slice none 0 0, .string ⟨#[]⟩, .slice none 0 0]) := Ty.of (by kernel_rfl)
theorem st35 : StructAt Try.prog 35 [(0, 1), (1, 1), (2, 1), (3, 1)] := ⟨_, Try.underlying35, rfl, ty9.size, rfl, ty33.size, rfl, ty9.size, rfl, ty25.size, trivial⟩
theorem ni25 : NotInt Try.prog 25 := .inl ⟨_, Try.underlying25⟩
theorem c_ShowParts (l : List Int) (x : Int) (hl : l.length ≤ 1048576) : FnP Try.prog 12 [.sl 1 (l.map AV.int), .int x] (.bool true) :=  by
  refine FnC.mk Try.func12 (by kernel_rfl) rfl Try.ntmps12 rfl (fun w0 F => ?_)
  refine W.seq ?_
  refine W.region ?_
  refine W.q (Ev.assign .k) rfl ?_
  refine W.nil ?_
  refine W.then ?_
  refine W.seq ?_
  refine W.region ?_
  refine W.q (Ev.move (.t rfl)) rfl ?_
  refine W.call (WNodes.c_Nodes l hl 3 6 (by decide) (by decide) (by decide)) ⟨(.t rfl), .k, .k, trivial⟩ (.refl _) rfl ?_
  rintro _ _ ⟨v20, ns, rest, rfl, rfl, hn1, hn2, hn3, hn4, hn5⟩
  have hns := Nd.szs_len ns
  refine W.q (Ev.move (.t rfl)) rfl ?_
  refine W.q (Ev.extract (.t rfl) rfl) rfl ?_
  refine W.q (Ev.extract (.t rfl) rfl) rfl ?_
  refine W.q (Ev.assign (.t rfl)) rfl ?_
  refine W.q (Ev.assign (.t rfl)) rfl ?_
  refine W.nil ?_
  refine W.freezeA (M1 := []) (M2 := []) (D := []) (v := v20) (L' := [(5, true, .sl 4 (ns.map Nd.av))]) (.refl _) ⟨⟨_, rfl, .one .hit⟩, trivial⟩ (FrzMs.refl _) ?_
  have hnl : (ns.map Nd.av).length = ns.length := List.length_map ..
  have hsk := Nd.sks_of _ 3 false ns (Nat.le_refl _) (by decide) hn4
  have hcn := Nd.cnts_le4 _ 3 false ns 21 (Nat.le_refl _) hn4 (.inr (.inr ⟨rfl, rfl⟩))
  have hsp := Nd.szs_append
  refine W.then ?_
  refine W.seq ?_
  refine W.region ?_
  refine W.q (Ev.move (.t rfl)) rfl ?_
  refine W.q (Ev.move (.t rfl)) rfl ?_
  first | refine W.q (Ev.lensl (.t rfl) Try.underlying25) rfl ?_ | refine W.q (Ev.lenar (i := 0) (.t rfl) rfl Try.underlying25) rfl ?_ | refine W.q (Ev.lenar (i := 1) (.t rfl) rfl Try.underlying25) rfl ?_ | refine W.q (Ev.lenar (i := 2) (.t rfl) rfl Try.underlying25) rfl ?_ | refine W.q (Ev.lenar (i := 3) (.t rfl) rfl Try.underlying25) rfl ?_
  first | refine W.q (Ev.add (.t rfl) .k (fun _ => by omega)) rfl ?_ | refine W.q (Ev.addw (.t rfl) .k) rfl ?_
  refine W.callp (Base.c_Picked x (((ns.map Nd.av).length : Int) + 1) (by omega) (by omega)) ⟨(.t rfl), (.t rfl), trivial⟩ rfl ?_
  refine W.q (Ev.assign (.t rfl)) rfl ?_
  refine W.nil ?_
  obtain ⟨k, hkl, hkv⟩ : ∃ k : Nat, k ≤ ns.length ∧ x % (((ns.map Nd.av).length : Int) + 1) = (k : Int) := ⟨(x % (((ns.map Nd.av).length : Int) + 1)).toNat, by have h1 := Int.emod_lt_of_pos x (show (0 : Int) < ((ns.map Nd.av).length : Int) + 1 by omega); omega, by have h1 := Int.emod_nonneg x (show ((ns.map Nd.av).length : Int) + 1 ≠ 0 by omega); omega⟩
  refine W.is (t := 7) (g := true) (av' := .int (k : Int)) rfl (congrArg AV.int hkv) ?_
  have hz := Nd.szs_append (ns.take k) (ns.drop k)
  rw [List.take_append_drop] at hz
  have hcz := Nd.cnts_append (ns.take k) (ns.drop k)
  rw [List.take_append_drop] at hcz
  have hst := Nd.sks_take k hsk
  have hem := Nd.sks_em ns hsk
  have hbr := Nd.sks_br
  have cA := WShow.c_Text ns (by omega) 3 (by decide) hsk (by omega)
  have cB := WShow.c_Text (ns.take k) (by omega) 3 (by decide) hst.1 (by omega)
  have cC := WShow.c_Text (ns.drop k) (by omega) 3 (by decide) hst.2 (by omega)
  have cD := WShow.c_Text [(Nd.mk [101, 109] [] [] ns)] (by rw [Nd.szs_one, Nd.sz_eq]; simp only [Nd.attrs_mk, Nd.parts_mk, List.length_nil]; omega) 4 (by decide) hem (by rw [Nd.cnts, Nd.cnts, Nd.cnt_eq]; simp only [Nd.parts_mk]; omega)
  have cE := WShow.c_Text [(Nd.mk [98, 114] [] [] [])] (by decide) 1 (by decide) hbr (by decide)
  have hall : Nd.shs ns = Nd.shs (ns.take k) ++ Nd.shs (ns.drop k) := by rw [← Nd.shs_append, List.take_append_drop]
  have hbrs : Nd.shs [(Nd.mk [98, 114] [] [] [])] = [60, 98, 114, 62] := by kernel_rfl
  have hems := Nd.shs_em ns
  rw [hbrs] at cE
  rw [hems] at cD
  rw [show [(Nd.mk [101, 109] [] [] ns)].map Nd.av = [Nd.avx (Nd.mk [101, 109] [] [] ns)] from by rw [List.map_cons, Nd.av_eq]; rfl] at cD
  have hlen := congrArg List.length hall
  rw [List.length_append] at hlen
  generalize Nd.shs (ns.take k) = sa at *
  generalize Nd.shs (ns.drop k) = sb at *
  generalize Nd.shs ns = ss at *
  refine W.then ?_
  refine W.seq ?_
  refine W.region ?_
  refine W.q (Ev.move (.t rfl)) rfl ?_
  first | refine W.appn .k (.sl (.t rfl) (fun e he => (Nd.okc_avs _ e he).1)) Try.underlying25 ni25 ty35 rfl rfl (by omega) rfl ?_ | refine W.appn .k (.arr 0 (.t rfl) rfl (fun e he => (Nd.okc_avs _ e he).1)) Try.underlying25 ni25 ty35 rfl rfl (by omega) rfl ?_ | refine W.appn .k (.arr 1 (.t rfl) rfl (fun e he => (Nd.okc_avs _ e he).1)) Try.underlying25 ni25 ty35 rfl rfl (by omega) rfl ?_ | refine W.appn .k (.arr 2 (.t rfl) rfl (fun e he => (Nd.okc_avs _ e he).1)) Try.underlying25 ni25 ty35 rfl rfl (by omega) rfl ?_ | refine W.appn .k (.arr 3 (.t rfl) rfl (fun e he => (Nd.okc_avs _ e he).1)) Try.underlying25 ni25 ty35 rfl rfl (by omega) rfl ?_
  intro v30
  refine W.freezeA (M1 := []) (M2 := []) (D := []) (v := v30) (L' := [(30, true, .sl 4 (ns.map Nd.av))]) (.refl _) ⟨⟨_, rfl, .one .hit⟩, trivial⟩ (FrzMs.refl _) ?_
  refine W.callp (cA) ⟨(.t rfl), trivial⟩ rfl ?_
  refine W.q (Ev.move (.t rfl)) rfl ?_
  refine W.q (Ev.extract (.t rfl) rfl) rfl ?_
  refine W.q (Ev.extract (.t rfl) rfl) rfl ?_
  refine W.q (Ev.assign (.t rfl)) rfl ?_
  refine W.q (Ev.assign (.t rfl)) rfl ?_
  refine W.nil ?_
  refine W.then ?_
  refine W.seq ?_
  refine W.region ?_
  refine W.q (Ev.move (.t rfl)) rfl ?_
  refine W.q (Ev.move (.t rfl)) rfl ?_
  refine W.q (Ev.takesl (n := k) (.t rfl) Try.underlying25 ty35 (.t rfl) rfl (fun _ => hkl)) rfl ?_
  first | refine W.appn .k (.sl (.t rfl) (fun e he => (Nd.okc_avs _ e he).1)) Try.underlying25 ni25 ty35 rfl rfl (by rw [List.length_map, List.length_take]; omega) rfl ?_ | refine W.appn .k (.arr 0 (.t rfl) rfl (fun e he => (Nd.okc_avs _ e he).1)) Try.underlying25 ni25 ty35 rfl rfl (by rw [List.length_map, List.length_take]; omega) rfl ?_ | refine W.appn .k (.arr 1 (.t rfl) rfl (fun e he => (Nd.okc_avs _ e he).1)) Try.underlying25 ni25 ty35 rfl rfl (by rw [List.length_map, List.length_take]; omega) rfl ?_ | refine W.appn .k (.arr 2 (.t rfl) rfl (fun e he => (Nd.okc_avs _ e he).1)) Try.underlying25 ni25 ty35 rfl rfl (by rw [List.length_map, List.length_take]; omega) rfl ?_ | refine W.appn .k (.arr 3 (.t rfl) rfl (fun e he => (Nd.okc_avs _ e he).1)) Try.underlying25 ni25 ty35 rfl rfl (by rw [List.length_map, List.length_take]; omega) rfl ?_
  intro v38
  refine W.freezeA (M1 := []) (M2 := []) (D := []) (v := v38) (L' := [(38, true, .sl 4 ((ns.take k).map Nd.av))]) (.refl _) ⟨⟨_, rfl, .one .hit⟩, trivial⟩ (FrzMs.refl _) ?_
  refine W.callp (cB) ⟨(.t rfl), trivial⟩ rfl ?_
  refine W.q (Ev.move (.t rfl)) rfl ?_
  refine W.q (Ev.extract (.t rfl) rfl) rfl ?_
  refine W.q (Ev.extract (.t rfl) rfl) rfl ?_
  refine W.q (Ev.assign (.t rfl)) rfl ?_
  refine W.q (Ev.assign (.t rfl)) rfl ?_
  refine W.nil ?_
  refine W.then ?_
  refine W.seq ?_
  refine W.region ?_
  refine W.q (Ev.move (.t rfl)) rfl ?_
  skip
  refine W.q (Ev.move (.t rfl)) rfl ?_
  refine W.q (Ev.dropsl (n := k) (.t rfl) Try.underlying25 ty35 (.t rfl) rfl (fun _ => hkl)) rfl ?_
  first | refine W.appn .k (.sl (.t rfl) (fun e he => (Nd.okc_avs _ e he).1)) Try.underlying25 ni25 ty35 rfl rfl (by rw [List.length_map, List.length_drop]; omega) rfl ?_ | refine W.appn .k (.arr 0 (.t rfl) rfl (fun e he => (Nd.okc_avs _ e he).1)) Try.underlying25 ni25 ty35 rfl rfl (by rw [List.length_map, List.length_drop]; omega) rfl ?_ | refine W.appn .k (.arr 1 (.t rfl) rfl (fun e he => (Nd.okc_avs _ e he).1)) Try.underlying25 ni25 ty35 rfl rfl (by rw [List.length_map, List.length_drop]; omega) rfl ?_ | refine W.appn .k (.arr 2 (.t rfl) rfl (fun e he => (Nd.okc_avs _ e he).1)) Try.underlying25 ni25 ty35 rfl rfl (by rw [List.length_map, List.length_drop]; omega) rfl ?_ | refine W.appn .k (.arr 3 (.t rfl) rfl (fun e he => (Nd.okc_avs _ e he).1)) Try.underlying25 ni25 ty35 rfl rfl (by rw [List.length_map, List.length_drop]; omega) rfl ?_
  intro v46
  refine W.freezeA (M1 := []) (M2 := []) (D := []) (v := v46) (L' := [(46, true, .sl 4 ((ns.drop k).map Nd.av))]) (.refl _) ⟨⟨_, rfl, .one .hit⟩, trivial⟩ (FrzMs.refl _) ?_
  refine W.callp (cC) ⟨(.t rfl), trivial⟩ rfl ?_
  refine W.q (Ev.move (.t rfl)) rfl ?_
  refine W.q (Ev.extract (.t rfl) rfl) rfl ?_
  refine W.q (Ev.extract (.t rfl) rfl) rfl ?_
  refine W.q (Ev.assign (.t rfl)) rfl ?_
  refine W.q (Ev.assign (.t rfl)) rfl ?_
  refine W.nil ?_
  refine W.then ?_
  refine W.seq ?_
  refine W.region ?_
  refine W.q (Ev.move (.t rfl)) rfl ?_
  first | refine W.appn .k (.sl (.t rfl) (fun e he => (Nd.okc_avs _ e he).1)) Try.underlying25 ni25 ty35 rfl rfl (by omega) rfl ?_ | refine W.appn .k (.arr 0 (.t rfl) rfl (fun e he => (Nd.okc_avs _ e he).1)) Try.underlying25 ni25 ty35 rfl rfl (by omega) rfl ?_ | refine W.appn .k (.arr 1 (.t rfl) rfl (fun e he => (Nd.okc_avs _ e he).1)) Try.underlying25 ni25 ty35 rfl rfl (by omega) rfl ?_ | refine W.appn .k (.arr 2 (.t rfl) rfl (fun e he => (Nd.okc_avs _ e he).1)) Try.underlying25 ni25 ty35 rfl rfl (by omega) rfl ?_ | refine W.appn .k (.arr 3 (.t rfl) rfl (fun e he => (Nd.okc_avs _ e he).1)) Try.underlying25 ni25 ty35 rfl rfl (by omega) rfl ?_
  intro v52
  refine W.freezeA (M1 := []) (M2 := []) (D := []) (v := v52) (L' := [(52, true, .sl 4 (ns.map Nd.av))]) (.refl _) ⟨⟨_, rfl, .one .hit⟩, trivial⟩ (FrzMs.refl _) ?_
  refine W.q (Ev.build ty35 st35 rfl (fun hg => ⟨_, _, _, rfl, .k, rfl, rfl, rfl, _, _, _, rfl, (.t rfl), rfl, rfl, rfl, rfl⟩)) rfl ?_
  refine W.nils (t := 53) (g := true) (cs' := [.str [101, 109], .sl 2 [], .str [], .sl 4 (ns.map Nd.av)]) rfl ⟨.inl rfl, .inr ⟨rfl, 2, rfl⟩, .inl rfl, .inl rfl, trivial⟩ ?_
  refine W.bs (es := [_]) Try.underlying25 ty35 ⟨rfl, (.t rfl), rfl, rfl, trivial⟩ rfl (by decide) rfl rfl ?_
  refine W.callp (cD) ⟨(.t rfl), trivial⟩ rfl ?_
  refine W.q (Ev.move (.t rfl)) rfl ?_
  refine W.q (Ev.extract (.t rfl) rfl) rfl ?_
  refine W.q (Ev.extract (.t rfl) rfl) rfl ?_
  refine W.q (Ev.assign (.t rfl)) rfl ?_
  refine W.q (Ev.assign (.t rfl)) rfl ?_
  refine W.nil ?_
  refine W.then ?_
  refine W.seq ?_
  refine W.region ?_
  refine W.q (Ev.build ty35 st35 rfl (fun hg => ⟨_, _, _, rfl, .k, rfl, rfl, rfl, rfl⟩)) rfl ?_
  refine W.nils (t := 59) (g := true) (cs' := [.str [98, 114], .sl 2 [], .str [], .sl 4 []]) rfl ⟨.inl rfl, .inr ⟨rfl, 2, rfl⟩, .inl rfl, .inr ⟨rfl, 4, rfl⟩, trivial⟩ ?_
  refine W.bs (es := [_]) Try.underlying25 ty35 ⟨rfl, (.t rfl), rfl, rfl, trivial⟩ rfl (by decide) rfl rfl ?_
  refine W.callp (cE) ⟨(.t rfl), trivial⟩ rfl ?_
  refine W.q (Ev.move (.t rfl)) rfl ?_
  refine W.q (Ev.extract (.t rfl) rfl) rfl ?_
  refine W.q (Ev.extract (.t rfl) rfl) rfl ?_
  refine W.q (Ev.assign (.t rfl)) rfl ?_
  refine W.q (Ev.assign (.t rfl)) rfl ?_
  refine W.nil ?_
  refine W.then ?_
  refine W.seq ?_
  refine W.seq ?_
  refine W.region ?_
  refine W.q (Ev.move (.t rfl)) rfl ?_
  refine W.q (Ev.eqi (.t rfl) .k) rfl ?_
  refine W.q (Ev.move (.t rfl)) rfl ?_
  refine W.qgF rfl rfl (Ev.move (.t rfl)) rfl ?_
  refine W.qgF rfl rfl (Ev.eqi (.c rfl) .k) rfl ?_
  refine W.q (Ev.or (.t rfl) ⟨_, _, rfl, rfl, by first | (simp; done) | (intro hg_ hp_; simp [hp_]; done) | (simp <;> omega; done) | (simp_all; done) | grind⟩) rfl ?_
  refine W.nil ?_
  refine W.then ?_
  refine W.cond (.t rfl) (fun hc_t69 => ?_) (fun hc_t69 => ?_)
  · skip
    refine W.seq ?_
    refine W.region ?_
    refine W.q (Ev.move (.t rfl)) rfl ?_
    refine W.callp (WFault.c_Check ns (by omega) 3 (by decide) hsk (by omega)) ⟨(.t rfl), trivial⟩ rfl ?_
    refine W.q (Ev.eqi (.t rfl) .k) rfl ?_
    refine W.q (Ev.assign (.t rfl)) rfl ?_
    refine W.nil ?_
    refine W.then ?_
    refine W.ret ?_
    refine W.then_ret ?_
    refine W.retn (M' := []) (rs := [.tmp 4]) (avs := [_]) Try.results12 ⟨rfl, trivial⟩ rfl (.refl _) ?_
    first | exact ⟨rfl, rfl⟩ | (refine ⟨congrArg AV.bool ?_, rfl⟩; rw [hall]; simp)
  · have hq1 : ss.length ≤ 600 := by
      rcases Decidable.em (ss.length ≤ 600) with h | h; exact h; rw [if_neg h] at hc_t69; simp at hc_t69
    have hq4 : (([60, 101, 109, 62] ++ ss) ++ [60, 47, 101, 109, 62]).length ≤ 600 := by
      rcases Decidable.em ((([60, 101, 109, 62] ++ ss) ++ [60, 47, 101, 109, 62]).length ≤ 600) with h | h; exact h; rw [if_neg h, if_pos hq1] at hc_t69; simp at hc_t69
    have hq2 : sa.length ≤ 600 := by omega
    have hq3 : sb.length ≤ 600 := by omega
    refine W.is (t := 8) (g := true) (av' := .str ss) rfl (congrArg AV.str (if_pos hq1)) ?_
    refine W.is (t := 10) (g := true) (av' := .str sa) rfl (congrArg AV.str (if_pos hq2)) ?_
    refine W.is (t := 12) (g := true) (av' := .str sb) rfl (congrArg AV.str (if_pos hq3)) ?_
    refine W.is (t := 14) (g := true) (av' := .str (([60, 101, 109, 62] ++ ss) ++ [60, 47, 101, 109, 62])) rfl (congrArg AV.str (if_pos hq4)) ?_
    refine W.is (t := 9) (g := true) (av' := .int 0) rfl (congrArg AV.int (if_pos hq1)) ?_
    refine W.is (t := 11) (g := true) (av' := .int 0) rfl (congrArg AV.int (if_pos hq2)) ?_
    refine W.is (t := 13) (g := true) (av' := .int 0) rfl (congrArg AV.int (if_pos hq3)) ?_
    refine W.is (t := 15) (g := true) (av' := .int 0) rfl (congrArg AV.int (if_pos hq4)) ?_
    refine W.skip ?_
    refine W.then ?_
    refine W.seq ?_
    refine W.region ?_
    refine W.q (Ev.move (.t rfl)) rfl ?_
    refine W.q (Ev.eqi (.t rfl) .k) rfl ?_
    refine W.q (Ev.move (.t rfl)) rfl ?_
    refine W.qgT rfl rfl (Ev.move (.t rfl)) rfl ?_
    refine W.qgT rfl rfl (Ev.eqi (.c rfl) .k) rfl ?_
    refine W.q (Ev.and (.t rfl) ⟨_, _, rfl, rfl, by first | (simp; done) | (intro hg_ hp_; simp [hp_]; done) | (simp <;> omega; done) | (simp_all; done) | grind⟩) rfl ?_
    refine W.q (Ev.move (.t rfl)) rfl ?_
    refine W.qgT rfl rfl (Ev.move (.t rfl)) rfl ?_
    refine W.qgT rfl rfl (Ev.eqi (.c rfl) .k) rfl ?_
    refine W.q (Ev.and (.t rfl) ⟨_, _, rfl, rfl, by first | (simp; done) | (intro hg_ hp_; simp [hp_]; done) | (simp <;> omega; done) | (simp_all; done) | grind⟩) rfl ?_
    refine W.q (Ev.move (.t rfl)) rfl ?_
    refine W.qgT rfl rfl (Ev.move (.t rfl)) rfl ?_
    refine W.qgT rfl rfl (Ev.eqi (.c rfl) .k) rfl ?_
    refine W.q (Ev.and (.t rfl) ⟨_, _, rfl, rfl, by first | (simp; done) | (intro hg_ hp_; simp [hp_]; done) | (simp <;> omega; done) | (simp_all; done) | grind⟩) rfl ?_
    refine W.q (Ev.move (.t rfl)) rfl ?_
    refine W.qgT rfl rfl (Ev.move (.t rfl)) rfl ?_
    refine W.qgT rfl rfl (Ev.eqi (.c rfl) .k) rfl ?_
    refine W.q (Ev.and (.t rfl) ⟨_, _, rfl, rfl, by first | (simp; done) | (intro hg_ hp_; simp [hp_]; done) | (simp <;> omega; done) | (simp_all; done) | grind⟩) rfl ?_
    refine W.q (Ev.move (.t rfl)) rfl ?_
    refine W.qgT rfl rfl (Ev.move (.t rfl)) rfl ?_
    refine W.qgT rfl rfl (Ev.eqs (.c rfl) .k) rfl ?_
    refine W.q (Ev.and (.t rfl) ⟨_, _, rfl, rfl, by first | (simp; done) | (intro hg_ hp_; simp [hp_]; done) | (simp <;> omega; done) | (simp_all; done) | grind⟩) rfl ?_
    refine W.q (Ev.move (.t rfl)) rfl ?_
    refine W.qgT rfl rfl (Ev.move (.t rfl)) rfl ?_
    refine W.qgT rfl rfl (Ev.move (.t rfl)) rfl ?_
    refine W.qgT rfl rfl (Ev.move (.t rfl)) rfl ?_
    refine W.qgT rfl rfl (Ev.cat (.c rfl) (.c rfl) (fun _ => by first | omega | (simp only [List.length_append]; omega) | (simp [-List.length_flatMap]; omega) | (simp; omega))) rfl ?_
    refine W.qgT rfl rfl (Ev.eqs (.c rfl) (.c rfl)) rfl ?_
    refine W.q (Ev.and (.t rfl) ⟨_, _, rfl, rfl, by first | (simp; done) | (intro hg_ hp_; simp [hp_]; done) | (simp <;> omega; done) | (simp_all; done) | grind⟩) rfl ?_
    refine W.q (Ev.move (.t rfl)) rfl ?_
    refine W.qgT rfl rfl (Ev.move (.t rfl)) rfl ?_
    refine W.qgT rfl rfl (Ev.move (.t rfl)) rfl ?_
    refine W.qgT rfl rfl (Ev.cat .k (.c rfl) (fun _ => by first | omega | (simp only [List.length_append]; omega) | (simp [-List.length_flatMap]; omega) | (simp; omega))) rfl ?_
    refine W.qgT rfl rfl (Ev.cat (.c rfl) .k (fun _ => by first | omega | (simp only [List.length_append]; omega) | (simp [-List.length_flatMap]; omega) | (simp; omega))) rfl ?_
    refine W.qgT rfl rfl (Ev.eqs (.c rfl) (.c rfl)) rfl ?_
    refine W.q (Ev.and (.t rfl) ⟨_, _, rfl, rfl, by first | (simp; done) | (intro hg_ hp_; simp [hp_]; done) | (simp <;> omega; done) | (simp_all; done) | grind⟩) rfl ?_
    refine W.q (Ev.assign (.t rfl)) rfl ?_
    refine W.nil ?_
    refine W.then ?_
    refine W.ret ?_
    refine W.retn (M' := []) (rs := [.tmp 4]) (avs := [_]) Try.results12 ⟨rfl, trivial⟩ rfl (.refl _) ?_
    first | exact ⟨rfl, rfl⟩ | (refine ⟨congrArg AV.bool ?_, rfl⟩; rw [hall]; simp)

end LShowParts

end Go.Proofs.Yteepllfbnoaiaaa
