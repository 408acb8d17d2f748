/-
  The law SchemaMore, walked.
-/
import Derived.Test.YtphlkdbglpcikaaGreatDoorG13
set_option linter.unusedVariables false
set_option linter.unusedSimpArgs false
set_option maxRecDepth 100000
namespace Go.Proofs.YtphlkdbglpcikaaGreatDoor
open Go.Vl

namespace LSchemaMore
theorem ty3 : Ty Tryz.prog 3 1 8 (.int .i64 0) := Ty.of (by kernel_rfl)
theorem ty9 : Ty Tryz.prog 9 1 16 (.string ⟨#[]⟩) := Ty.of (by kernel_rfl)
theorem ty26 : Ty Tryz.prog 26 1 24 (.slice none 0 0) := Ty.of (by kernel_rfl)
theorem ty28 : Ty Tryz.prog 28 3 56 (.agg #[.string ⟨#[]⟩, .string ⟨#[]⟩, .slice none 0 0]) := Ty.of (by kernel_rfl)
theorem ty35 : Ty Tryz.prog 35 4 80 (.agg #[.string ⟨#[]⟩, .slice none 0 0, .string ⟨#[]⟩, .slice none 0 0]) := Ty.of (by kernel_rfl)
theorem ag3 : IsAgg Tryz.prog 3 false := ⟨_, Tryz.underlying3, rfl⟩
theorem ag35 : IsAgg Tryz.prog 35 true := ⟨_, Tryz.underlying35, rfl⟩
theorem st28 : StructAt Tryz.prog 28 [(0, 1), (1, 1), (2, 1)] := ⟨_, Tryz.underlying28, rfl, ty9.size, rfl, ty9.size, rfl, ty26.size, trivial⟩
theorem ni23 : NotInt Tryz.prog 23 := .inl ⟨_, Tryz.underlying23⟩
theorem c_SchemaMore (l : List Int) (t : Int) (hl : l.length ≤ 1048576) (M0 : List ME) (hI : ∀ n : Int, -1 ≤ n → n < 100 → FnC Tryz.prog 107 [.int n] M0 (fun r M => r = .str (itoa n) ∧ M = M0)) : FnC Tryz.prog 3 [.sl 1 (l.map AV.int), .int t] M0 (fun r M => r = .bool true ∧ M = M0) :=  by
  refine FnC.mk Tryz.func3 (by kernel_rfl) rfl Tryz.ntmps3 rfl (fun w0 F => ?_)
  have hp0 := WTypes.pk_lt l 0 4 (by decide)
  have hp1 := WTypes.pk_lt l 1 3 (by decide)
  have hp2 := WTypes.pk_lt l 2 2 (by decide)
  have hp3 := WTypes.pk_lt l 3 3 (by decide)
  have hp4 := WTypes.pk_lt l 4 3 (by decide)
  have hp5 := WTypes.pk_lt l 5 2 (by decide)
  have hTy := WTypes.c_Types l (by omega)
  rw [Sch.tys_tyk] at hTy
  have hck := Sch.more_all hp0 hp1 hp2 hp3 hp4 hp5
  have hb := Sch.mk_lt hp0 hp1 hp2 hp3 hp4 hp5
  generalize Sch.mk0 (Sch.pk l 0 4) = m0 at *
  generalize Sch.mk1 (Sch.pk l 1 3) = m1 at *
  generalize Sch.mk2 (Sch.pk l 2 2) = m2 at *
  generalize Sch.mk3 (Sch.pk l 3 3) = m3 at *
  generalize Sch.mk4 (Sch.pk l 4 3) = m4 at *
  generalize Sch.mk5 (Sch.pk l 5 2) = m5 at *
  obtain ⟨fin, hfin, hall, hfin2, hall2, htr⟩ := Sch.chkMore_out hck
  have hg := Sch.good_tyk m0 m1 m2 m3 m4 m5 hb
  have hg2 := Sch.good_more m0 m1 m2 m3 m4 m5 hb
  have htl : (Sch.tyk m0 m1 m2 m3 m4 m5).length = 7 := rfl
  have hfl : fin.length = 7 := by
    have := Sch.mso_len 10 _ _ hfin
    rwa [List.length_replicate] at this
  have hk0 := Int.emod_nonneg t (by decide : (7 : Int) ≠ 0)
  have hk1 := Int.emod_lt_of_pos t (by decide : (0 : Int) < 7)
  obtain ⟨k, hk⟩ : ∃ k : Nat, t % 7 = (k : Int) := ⟨(t % 7).toNat, by omega⟩
  have hPk := Base.c_Picked t 7 (by decide) (by decide)
  rw [hk] at hPk
  obtain ⟨d, hd1, hd2⟩ := htr k (by omega)
  have hsz := Sch.treeN_sz 6 k d hd1
  have hsz2 : d.sz ≤ 4826809 := hsz
  generalize Sch.tyk m0 m1 m2 m3 m4 m5 = ts at *
  generalize Sch.ask m0 m1 m2 m3 m4 m5 = as_ at *
  generalize hmo : ts ++ [Sch.aside] = mo at *
  generalize hma : as_ ++ [Sch.auk 6] = ma at *
  have hml : mo.length = 8 := by rw [← hmo, List.length_append, htl]; rfl
  have hF1 := WFill.c_filled ts as_ hg fin hfin hall 6 k d hd1 M0 hI
  have hF2 := WFill.c_filled mo ma hg2 (fin ++ [1]) hfin2 hall2 6 k d hd2 M0 hI
  rw [Nd.av_eq] at hF1 hF2
  have cS := WSame.c_same [d] (by rw [Nd.szs_one]; omega)
  rw [show [d].map Nd.av = [Nd.avx d] from by rw [List.map_cons, Nd.av_eq]; rfl] at cS
  have htm : (ts.map tpv).length = 7 := by rw [List.length_map]; exact htl
  have hmm : (mo.map tpv).length = 8 := by rw [List.length_map]; exact hml
  have hfm : (fin.map AV.int).length = 7 := by rw [List.length_map]; exact hfl
  have hfm2 : ((fin ++ [1]).map AV.int).length = 8 := by rw [List.length_map, List.length_append, hfl]; rfl
  have cI := WLet.c_sameInts fin fin (by omega)
  have hg1 : ((fin ++ [1]).map AV.int)[7]? = some (AV.int 1) := by rw [List.getElem?_map, List.getElem?_append_right (by omega), hfl]; rfl
  refine W.seq ?_
  refine W.region ?_
  refine W.q (Ev.assign .k) rfl ?_
  refine W.nil ?_
  refine W.then ?_
  refine W.seq ?_
  refine W.region ?_
  refine W.q (Ev.move (.t rfl)) rfl ?_
  refine W.callp (hTy) ⟨(.t rfl), trivial⟩ rfl ?_
  refine W.q (Ev.assign (.t rfl)) rfl ?_
  refine W.nil ?_
  refine W.then ?_
  refine W.seq ?_
  refine W.region ?_
  refine W.q (Ev.move (.t rfl)) rfl ?_
  refine W.q (Ev.move (.t rfl)) rfl ?_
  first | refine W.q (Ev.lensl (.t rfl) Tryz.underlying23) rfl ?_ | refine W.q (Ev.lenar (i := 0) (.t rfl) rfl Tryz.underlying23) rfl ?_ | refine W.q (Ev.lenar (i := 1) (.t rfl) rfl Tryz.underlying23) rfl ?_ | refine W.q (Ev.lenar (i := 2) (.t rfl) rfl Tryz.underlying23) rfl ?_ | refine W.q (Ev.lenar (i := 3) (.t rfl) rfl Tryz.underlying23) rfl ?_
  refine W.is (t := 20) (g := true) (av' := .int 7) rfl (congrArg AV.int (by rw [htm]; rfl)) ?_
  refine W.callp (hPk) ⟨(.t rfl), (.t rfl), trivial⟩ rfl ?_
  refine W.q (Ev.assign (.t rfl)) rfl ?_
  refine W.nil ?_
  refine W.then ?_
  refine W.seq ?_
  refine W.region ?_
  refine W.q (Ev.move (.t rfl)) rfl ?_
  first | refine W.appn .k (.sl (.t rfl) (by intro e he; obtain ⟨t_, _, rfl⟩ := List.mem_map.1 he; rfl)) Tryz.underlying23 ni23 ty28 rfl rfl (by rw [htm]; decide) rfl ?_ | refine W.appn .k (.arr 0 (.t rfl) rfl (by intro e he; obtain ⟨t_, _, rfl⟩ := List.mem_map.1 he; rfl)) Tryz.underlying23 ni23 ty28 rfl rfl (by rw [htm]; decide) rfl ?_ | refine W.appn .k (.arr 1 (.t rfl) rfl (by intro e he; obtain ⟨t_, _, rfl⟩ := List.mem_map.1 he; rfl)) Tryz.underlying23 ni23 ty28 rfl rfl (by rw [htm]; decide) rfl ?_ | refine W.appn .k (.arr 2 (.t rfl) rfl (by intro e he; obtain ⟨t_, _, rfl⟩ := List.mem_map.1 he; rfl)) Tryz.underlying23 ni23 ty28 rfl rfl (by rw [htm]; decide) rfl ?_ | refine W.appn .k (.arr 3 (.t rfl) rfl (by intro e he; obtain ⟨t_, _, rfl⟩ := List.mem_map.1 he; rfl)) Tryz.underlying23 ni23 ty28 rfl rfl (by rw [htm]; decide) rfl ?_
  intro v23
  refine W.q (Ev.build ty28 st28 rfl (fun hg => ⟨_, _, _, rfl, .k, rfl, rfl, rfl, _, _, _, rfl, .k, rfl, rfl, rfl, rfl⟩)) rfl ?_
  refine W.nils (t := 24) (g := true) (cs' := [.str Sch.bAside, .str (Sch.txt 6), .sl 1 []]) rfl ⟨.inl rfl, .inl rfl, .inr ⟨rfl, 1, rfl⟩, trivial⟩ ?_
  refine W.bs (es := [_]) Tryz.underlying23 ty28 ⟨rfl, (.t rfl), rfl, rfl, trivial⟩ rfl (by decide) rfl rfl ?_
  first | refine W.app 0 (.t rfl) rfl (.sl (.t rfl) (by intro e he; rw [List.mem_singleton.1 he]; rfl)) Tryz.underlying23 ni23 ty28 rfl rfl (by rw [htm]; decide) rfl ?_ | refine W.app 1 (.t rfl) rfl (.sl (.t rfl) (by intro e he; rw [List.mem_singleton.1 he]; rfl)) Tryz.underlying23 ni23 ty28 rfl rfl (by rw [htm]; decide) rfl ?_ | refine W.app 2 (.t rfl) rfl (.sl (.t rfl) (by intro e he; rw [List.mem_singleton.1 he]; rfl)) Tryz.underlying23 ni23 ty28 rfl rfl (by rw [htm]; decide) rfl ?_ | refine W.app 3 (.t rfl) rfl (.sl (.t rfl) (by intro e he; rw [List.mem_singleton.1 he]; rfl)) Tryz.underlying23 ni23 ty28 rfl rfl (by rw [htm]; decide) rfl ?_ | refine W.app 0 (.t rfl) rfl (.arr 0 (.t rfl) rfl (by intro e he; rw [List.mem_singleton.1 he]; rfl)) Tryz.underlying23 ni23 ty28 rfl rfl (by rw [htm]; decide) rfl ?_ | refine W.app 0 (.t rfl) rfl (.arr 1 (.t rfl) rfl (by intro e he; rw [List.mem_singleton.1 he]; rfl)) Tryz.underlying23 ni23 ty28 rfl rfl (by rw [htm]; decide) rfl ?_ | refine W.app 0 (.t rfl) rfl (.arr 2 (.t rfl) rfl (by intro e he; rw [List.mem_singleton.1 he]; rfl)) Tryz.underlying23 ni23 ty28 rfl rfl (by rw [htm]; decide) rfl ?_ | refine W.app 0 (.t rfl) rfl (.arr 3 (.t rfl) rfl (by intro e he; rw [List.mem_singleton.1 he]; rfl)) Tryz.underlying23 ni23 ty28 rfl rfl (by rw [htm]; decide) rfl ?_ | refine W.app 1 (.t rfl) rfl (.arr 0 (.t rfl) rfl (by intro e he; rw [List.mem_singleton.1 he]; rfl)) Tryz.underlying23 ni23 ty28 rfl rfl (by rw [htm]; decide) rfl ?_ | refine W.app 1 (.t rfl) rfl (.arr 1 (.t rfl) rfl (by intro e he; rw [List.mem_singleton.1 he]; rfl)) Tryz.underlying23 ni23 ty28 rfl rfl (by rw [htm]; decide) rfl ?_ | refine W.app 1 (.t rfl) rfl (.arr 2 (.t rfl) rfl (by intro e he; rw [List.mem_singleton.1 he]; rfl)) Tryz.underlying23 ni23 ty28 rfl rfl (by rw [htm]; decide) rfl ?_ | refine W.app 1 (.t rfl) rfl (.arr 3 (.t rfl) rfl (by intro e he; rw [List.mem_singleton.1 he]; rfl)) Tryz.underlying23 ni23 ty28 rfl rfl (by rw [htm]; decide) rfl ?_ | refine W.app 2 (.t rfl) rfl (.arr 0 (.t rfl) rfl (by intro e he; rw [List.mem_singleton.1 he]; rfl)) Tryz.underlying23 ni23 ty28 rfl rfl (by rw [htm]; decide) rfl ?_ | refine W.app 2 (.t rfl) rfl (.arr 1 (.t rfl) rfl (by intro e he; rw [List.mem_singleton.1 he]; rfl)) Tryz.underlying23 ni23 ty28 rfl rfl (by rw [htm]; decide) rfl ?_ | refine W.app 2 (.t rfl) rfl (.arr 2 (.t rfl) rfl (by intro e he; rw [List.mem_singleton.1 he]; rfl)) Tryz.underlying23 ni23 ty28 rfl rfl (by rw [htm]; decide) rfl ?_ | refine W.app 2 (.t rfl) rfl (.arr 3 (.t rfl) rfl (by intro e he; rw [List.mem_singleton.1 he]; rfl)) Tryz.underlying23 ni23 ty28 rfl rfl (by rw [htm]; decide) rfl ?_ | refine W.app 3 (.t rfl) rfl (.arr 0 (.t rfl) rfl (by intro e he; rw [List.mem_singleton.1 he]; rfl)) Tryz.underlying23 ni23 ty28 rfl rfl (by rw [htm]; decide) rfl ?_ | refine W.app 3 (.t rfl) rfl (.arr 1 (.t rfl) rfl (by intro e he; rw [List.mem_singleton.1 he]; rfl)) Tryz.underlying23 ni23 ty28 rfl rfl (by rw [htm]; decide) rfl ?_ | refine W.app 3 (.t rfl) rfl (.arr 2 (.t rfl) rfl (by intro e he; rw [List.mem_singleton.1 he]; rfl)) Tryz.underlying23 ni23 ty28 rfl rfl (by rw [htm]; decide) rfl ?_ | refine W.app 3 (.t rfl) rfl (.arr 3 (.t rfl) rfl (by intro e he; rw [List.mem_singleton.1 he]; rfl)) Tryz.underlying23 ni23 ty28 rfl rfl (by rw [htm]; decide) rfl ?_
  intro v26
  refine W.freezeA (M1 := M0) (M2 := M0) (D := []) (v := v26) (L' := [(26, true, .sl 3 (mo.map tpv))]) (by rw [List.append_nil, ← hmo, List.map_append]; exact .refl _) ⟨⟨_, rfl, .one .hit⟩, trivial⟩ (FrzMs.refl _) ?_
  refine W.q (Ev.assign (.t rfl)) rfl ?_
  refine W.nil ?_
  refine W.then ?_
  refine W.seq ?_
  refine W.region ?_
  refine W.q (Ev.move (.t rfl)) rfl ?_
  first | refine W.app0 .k (.sl (.t rfl) (by intro e he; obtain ⟨t_, _, rfl⟩ := List.mem_map.1 he; rfl)) Tryz.underlying23 ni23 ty28 rfl rfl (by rw [htm]; decide) rfl ?_ | refine W.app0 .k (.arr 0 (.t rfl) rfl (by intro e he; obtain ⟨t_, _, rfl⟩ := List.mem_map.1 he; rfl)) Tryz.underlying23 ni23 ty28 rfl rfl (by rw [htm]; decide) rfl ?_ | refine W.app0 .k (.arr 1 (.t rfl) rfl (by intro e he; obtain ⟨t_, _, rfl⟩ := List.mem_map.1 he; rfl)) Tryz.underlying23 ni23 ty28 rfl rfl (by rw [htm]; decide) rfl ?_ | refine W.app0 .k (.arr 2 (.t rfl) rfl (by intro e he; obtain ⟨t_, _, rfl⟩ := List.mem_map.1 he; rfl)) Tryz.underlying23 ni23 ty28 rfl rfl (by rw [htm]; decide) rfl ?_ | refine W.app0 .k (.arr 3 (.t rfl) rfl (by intro e he; obtain ⟨t_, _, rfl⟩ := List.mem_map.1 he; rfl)) Tryz.underlying23 ni23 ty28 rfl rfl (by rw [htm]; decide) rfl ?_ | refine W.app0 .k (.sl (.t rfl) (by intro e he; obtain ⟨t_, _, rfl⟩ := List.mem_map.1 he; rfl)) Tryz.underlying23 ni23 ty28 rfl rfl (by rw [htm]; decide) rfl ?_ | refine W.app0 .k (.arr 0 (.t rfl) rfl (by intro e he; obtain ⟨t_, _, rfl⟩ := List.mem_map.1 he; rfl)) Tryz.underlying23 ni23 ty28 rfl rfl (by rw [htm]; decide) rfl ?_ | refine W.app0 .k (.arr 1 (.t rfl) rfl (by intro e he; obtain ⟨t_, _, rfl⟩ := List.mem_map.1 he; rfl)) Tryz.underlying23 ni23 ty28 rfl rfl (by rw [htm]; decide) rfl ?_ | refine W.app0 .k (.arr 2 (.t rfl) rfl (by intro e he; obtain ⟨t_, _, rfl⟩ := List.mem_map.1 he; rfl)) Tryz.underlying23 ni23 ty28 rfl rfl (by rw [htm]; decide) rfl ?_ | refine W.app0 .k (.arr 3 (.t rfl) rfl (by intro e he; obtain ⟨t_, _, rfl⟩ := List.mem_map.1 he; rfl)) Tryz.underlying23 ni23 ty28 rfl rfl (by rw [htm]; decide) rfl ?_
  refine W.call (WFill.c_Sizes ts as_ hg fin hfin hall M0 hI) ⟨(.t rfl), trivial⟩ (List.Perm.of_eq (List.append_nil M0).symm) rfl ?_
  rintro _ M' ⟨rfl, hM'⟩
  rw [hM']
  rw [List.append_nil]
  refine W.q (Ev.move (.t rfl)) rfl ?_
  refine W.q (Ev.extract (.t rfl) rfl) rfl ?_
  refine W.q (Ev.extract (.t rfl) rfl) rfl ?_
  refine W.q (Ev.assign (.t rfl)) rfl ?_
  refine W.q (Ev.assign (.t rfl)) rfl ?_
  refine W.nil ?_
  refine W.then ?_
  refine W.seq ?_
  refine W.region ?_
  refine W.q (Ev.move (.t rfl)) rfl ?_
  first | refine W.app0 .k (.sl (.t rfl) (by intro e he; obtain ⟨t_, _, rfl⟩ := List.mem_map.1 he; rfl)) Tryz.underlying23 ni23 ty28 rfl rfl (by rw [hmm]; decide) rfl ?_ | refine W.app0 .k (.arr 0 (.t rfl) rfl (by intro e he; obtain ⟨t_, _, rfl⟩ := List.mem_map.1 he; rfl)) Tryz.underlying23 ni23 ty28 rfl rfl (by rw [hmm]; decide) rfl ?_ | refine W.app0 .k (.arr 1 (.t rfl) rfl (by intro e he; obtain ⟨t_, _, rfl⟩ := List.mem_map.1 he; rfl)) Tryz.underlying23 ni23 ty28 rfl rfl (by rw [hmm]; decide) rfl ?_ | refine W.app0 .k (.arr 2 (.t rfl) rfl (by intro e he; obtain ⟨t_, _, rfl⟩ := List.mem_map.1 he; rfl)) Tryz.underlying23 ni23 ty28 rfl rfl (by rw [hmm]; decide) rfl ?_ | refine W.app0 .k (.arr 3 (.t rfl) rfl (by intro e he; obtain ⟨t_, _, rfl⟩ := List.mem_map.1 he; rfl)) Tryz.underlying23 ni23 ty28 rfl rfl (by rw [hmm]; decide) rfl ?_ | refine W.app0 .k (.sl (.t rfl) (by intro e he; obtain ⟨t_, _, rfl⟩ := List.mem_map.1 he; rfl)) Tryz.underlying23 ni23 ty28 rfl rfl (by rw [hmm]; decide) rfl ?_ | refine W.app0 .k (.arr 0 (.t rfl) rfl (by intro e he; obtain ⟨t_, _, rfl⟩ := List.mem_map.1 he; rfl)) Tryz.underlying23 ni23 ty28 rfl rfl (by rw [hmm]; decide) rfl ?_ | refine W.app0 .k (.arr 1 (.t rfl) rfl (by intro e he; obtain ⟨t_, _, rfl⟩ := List.mem_map.1 he; rfl)) Tryz.underlying23 ni23 ty28 rfl rfl (by rw [hmm]; decide) rfl ?_ | refine W.app0 .k (.arr 2 (.t rfl) rfl (by intro e he; obtain ⟨t_, _, rfl⟩ := List.mem_map.1 he; rfl)) Tryz.underlying23 ni23 ty28 rfl rfl (by rw [hmm]; decide) rfl ?_ | refine W.app0 .k (.arr 3 (.t rfl) rfl (by intro e he; obtain ⟨t_, _, rfl⟩ := List.mem_map.1 he; rfl)) Tryz.underlying23 ni23 ty28 rfl rfl (by rw [hmm]; decide) rfl ?_
  refine W.call (WFill.c_Sizes mo ma hg2 (fin ++ [1]) hfin2 hall2 M0 hI) ⟨(.t rfl), trivial⟩ (List.Perm.of_eq (List.append_nil M0).symm) rfl ?_
  rintro _ M' ⟨rfl, hM'⟩
  rw [hM']
  rw [List.append_nil]
  refine W.q (Ev.move (.t rfl)) rfl ?_
  refine W.q (Ev.extract (.t rfl) rfl) rfl ?_
  refine W.q (Ev.extract (.t rfl) rfl) rfl ?_
  refine W.q (Ev.assign (.t rfl)) rfl ?_
  refine W.q (Ev.assign (.t rfl)) rfl ?_
  refine W.nil ?_
  refine W.then ?_
  refine W.seq ?_
  refine W.region ?_
  refine W.q (Ev.move (.t rfl)) rfl ?_
  refine W.q (Ev.move (.t rfl)) rfl ?_
  refine W.call (hF1) ⟨(.t rfl), (.t rfl), trivial⟩ (List.Perm.of_eq (List.append_nil M0).symm) rfl ?_
  rintro _ M' ⟨rfl, hM'⟩
  rw [hM']
  rw [List.append_nil]
  refine W.q (Ev.move (.t rfl)) rfl ?_
  refine W.q (Ev.extract (.t rfl) rfl) rfl ?_
  refine W.q (Ev.extract (.t rfl) rfl) rfl ?_
  refine W.alloc ty35 rfl rfl ?_
  intro b12
  first | refine W.stb 0 (.t rfl) (.t rfl) rfl ty35 rfl rfl rfl ?_ | refine W.stb 1 (.t rfl) (.t rfl) rfl ty35 rfl rfl rfl ?_ | refine W.stb 2 (.t rfl) (.t rfl) rfl ty35 rfl rfl rfl ?_ | refine W.stb 3 (.t rfl) (.t rfl) rfl ty35 rfl rfl rfl ?_
  refine W.q (Ev.assign (.t rfl)) rfl ?_
  refine W.nil ?_
  refine W.then ?_
  refine W.seq ?_
  refine W.region ?_
  refine W.q (Ev.move (.t rfl)) rfl ?_
  refine W.q (Ev.move (.t rfl)) rfl ?_
  refine W.call (hF2) ⟨(.t rfl), (.t rfl), trivial⟩ ((List.perm_append_comm (l₁ := [_]))) rfl ?_
  rintro _ M' ⟨rfl, hM'⟩
  rw [hM']
  refine W.perm (List.perm_append_comm (l₂ := [_])) ?_
  refine W.q (Ev.move (.t rfl)) rfl ?_
  refine W.q (Ev.extract (.t rfl) rfl) rfl ?_
  refine W.q (Ev.extract (.t rfl) rfl) rfl ?_
  refine W.alloc ty35 rfl rfl ?_
  intro b14
  first | refine W.stb 0 (.t rfl) (.t rfl) rfl ty35 rfl rfl rfl ?_ | refine W.stb 1 (.t rfl) (.t rfl) rfl ty35 rfl rfl rfl ?_ | refine W.stb 2 (.t rfl) (.t rfl) rfl ty35 rfl rfl rfl ?_ | refine W.stb 3 (.t rfl) (.t rfl) rfl ty35 rfl rfl rfl ?_
  refine W.q (Ev.assign (.t rfl)) rfl ?_
  refine W.nil ?_
  refine W.then ?_
  refine W.seq ?_
  refine W.region ?_
  refine W.q (Ev.move (.t rfl)) rfl ?_
  refine W.q (Ev.eqi (.t rfl) .k) rfl ?_
  refine W.q (Ev.move (.t rfl)) rfl ?_
  refine W.gyes rfl rfl ?_
  refine W.q (Ev.move (.t rfl)) rfl ?_
  refine W.gyes rfl rfl ?_
  refine W.q (Ev.eqi (.t rfl) .k) rfl ?_
  refine W.q (Ev.and (.t rfl) ⟨_, _, rfl, rfl, by first | (simp; done) | (intro hg_ hp_; simp [hp_]; done) | (simp <;> omega; done) | (simp_all; done) | grind⟩) rfl ?_
  refine W.q (Ev.move (.t rfl)) rfl ?_
  refine W.gyes rfl rfl ?_
  refine W.q (Ev.move (.t rfl)) rfl ?_
  refine W.q (Ev.and (.t rfl) ⟨_, _, rfl, rfl, by first | (simp; done) | (intro hg_ hp_; simp [hp_]; done) | (simp <;> omega; done) | (simp_all; done) | grind⟩) rfl ?_
  refine W.q (Ev.move (.t rfl)) rfl ?_
  refine W.gyes rfl rfl ?_
  refine W.q (Ev.move (.t rfl)) rfl ?_
  refine W.q (Ev.and (.t rfl) ⟨_, _, rfl, rfl, by first | (simp; done) | (intro hg_ hp_; simp [hp_]; done) | (simp <;> omega; done) | (simp_all; done) | grind⟩) rfl ?_
  refine W.q (Ev.move (.t rfl)) rfl ?_
  refine W.gyes rfl rfl ?_
  refine W.q (Ev.move (.t rfl)) rfl ?_
  refine W.gyes rfl rfl ?_
  first | refine W.q (Ev.lensl (.t rfl) Tryz.underlying22) rfl ?_ | refine W.q (Ev.lenar (i := 0) (.t rfl) rfl Tryz.underlying22) rfl ?_ | refine W.q (Ev.lenar (i := 1) (.t rfl) rfl Tryz.underlying22) rfl ?_ | refine W.q (Ev.lenar (i := 2) (.t rfl) rfl Tryz.underlying22) rfl ?_ | refine W.q (Ev.lenar (i := 3) (.t rfl) rfl Tryz.underlying22) rfl ?_
  refine W.gyes rfl rfl ?_
  refine W.q (Ev.move (.t rfl)) rfl ?_
  refine W.gyes rfl rfl ?_
  first | refine W.q (Ev.lensl (.t rfl) Tryz.underlying23) rfl ?_ | refine W.q (Ev.lenar (i := 0) (.t rfl) rfl Tryz.underlying23) rfl ?_ | refine W.q (Ev.lenar (i := 1) (.t rfl) rfl Tryz.underlying23) rfl ?_ | refine W.q (Ev.lenar (i := 2) (.t rfl) rfl Tryz.underlying23) rfl ?_ | refine W.q (Ev.lenar (i := 3) (.t rfl) rfl Tryz.underlying23) rfl ?_
  refine W.gyes rfl rfl ?_
  refine W.q (Ev.eqi (.t rfl) (.t rfl)) rfl ?_
  refine W.q (Ev.and (.t rfl) ⟨_, _, rfl, rfl, by first | (simp; done) | (intro hg_ hp_; simp [hp_]; done) | (simp <;> omega; done) | (simp_all; done) | grind⟩) rfl ?_
  refine W.q (Ev.move (.t rfl)) rfl ?_
  refine W.is (t := 70) (g := true) (av' := .bool true) rfl (congrArg AV.bool (by simp [htl, hfl, hml])) ?_
  refine W.gyes rfl rfl ?_
  refine W.q (Ev.move (.t rfl)) rfl ?_
  refine W.gyes rfl rfl ?_
  first | refine W.q (Ev.lensl (.t rfl) Tryz.underlying22) rfl ?_ | refine W.q (Ev.lenar (i := 0) (.t rfl) rfl Tryz.underlying22) rfl ?_ | refine W.q (Ev.lenar (i := 1) (.t rfl) rfl Tryz.underlying22) rfl ?_ | refine W.q (Ev.lenar (i := 2) (.t rfl) rfl Tryz.underlying22) rfl ?_ | refine W.q (Ev.lenar (i := 3) (.t rfl) rfl Tryz.underlying22) rfl ?_
  refine W.gyes rfl rfl ?_
  refine W.q (Ev.move (.t rfl)) rfl ?_
  refine W.gyes rfl rfl ?_
  first | refine W.q (Ev.lensl (.t rfl) Tryz.underlying23) rfl ?_ | refine W.q (Ev.lenar (i := 0) (.t rfl) rfl Tryz.underlying23) rfl ?_ | refine W.q (Ev.lenar (i := 1) (.t rfl) rfl Tryz.underlying23) rfl ?_ | refine W.q (Ev.lenar (i := 2) (.t rfl) rfl Tryz.underlying23) rfl ?_ | refine W.q (Ev.lenar (i := 3) (.t rfl) rfl Tryz.underlying23) rfl ?_
  refine W.gyes rfl rfl ?_
  refine W.q (Ev.eqi (.t rfl) (.t rfl)) rfl ?_
  refine W.q (Ev.and (.t rfl) ⟨_, _, rfl, rfl, by first | (simp; done) | (intro hg_ hp_; simp [hp_]; done) | (simp <;> omega; done) | (simp_all; done) | grind⟩) rfl ?_
  refine W.q (Ev.move (.t rfl)) rfl ?_
  refine W.is (t := 77) (g := true) (av' := .bool true) rfl (congrArg AV.bool (by simp [htl, hfl, hml])) ?_
  refine W.gyes rfl rfl ?_
  refine W.q (Ev.move (.t rfl)) rfl ?_
  refine W.gyes rfl rfl ?_
  refine W.q (Ev.move (.t rfl)) rfl ?_
  refine W.gyes rfl rfl ?_
  refine W.q (Ev.move (.t rfl)) rfl ?_
  refine W.gyes rfl rfl ?_
  first | refine W.q (Ev.lensl (.t rfl) Tryz.underlying22) rfl ?_ | refine W.q (Ev.lenar (i := 0) (.t rfl) rfl Tryz.underlying22) rfl ?_ | refine W.q (Ev.lenar (i := 1) (.t rfl) rfl Tryz.underlying22) rfl ?_ | refine W.q (Ev.lenar (i := 2) (.t rfl) rfl Tryz.underlying22) rfl ?_ | refine W.q (Ev.lenar (i := 3) (.t rfl) rfl Tryz.underlying22) rfl ?_
  refine W.gyes rfl rfl ?_
  refine W.q (Ev.subsl (lo := none) (hi := some (.tmp 81)) (.t rfl) Tryz.underlying22 ty3 rfl (.t rfl) (fun _ => by first | omega | (simp; omega))) rfl ?_
  refine W.is (t := 82) (g := true) (av' := .sl 1 (fin.map AV.int)) rfl (by simp [hfl]) ?_
  refine W.gyes rfl rfl ?_
  refine W.callp (cI) ⟨(.t rfl), (.t rfl), trivial⟩ rfl ?_
  refine W.q (Ev.and (.t rfl) ⟨_, _, rfl, rfl, by first | (simp; done) | (intro hg_ hp_; simp [hp_]; done) | (simp <;> omega; done) | (simp_all; done) | grind⟩) rfl ?_
  refine W.q (Ev.move (.t rfl)) rfl ?_
  refine W.is (t := 85) (g := true) (av' := .bool true) rfl (congrArg AV.bool (by simp [htl, hfl, hml])) ?_
  refine W.gyes rfl rfl ?_
  refine W.q (Ev.move (.t rfl)) rfl ?_
  refine W.gyes rfl rfl ?_
  refine W.q (Ev.move (.t rfl)) rfl ?_
  refine W.gyes rfl rfl ?_
  first | refine W.q (Ev.lensl (.t rfl) Tryz.underlying22) rfl ?_ | refine W.q (Ev.lenar (i := 0) (.t rfl) rfl Tryz.underlying22) rfl ?_ | refine W.q (Ev.lenar (i := 1) (.t rfl) rfl Tryz.underlying22) rfl ?_ | refine W.q (Ev.lenar (i := 2) (.t rfl) rfl Tryz.underlying22) rfl ?_ | refine W.q (Ev.lenar (i := 3) (.t rfl) rfl Tryz.underlying22) rfl ?_
  refine W.is (t := 88) (g := true) (av' := .int 7) rfl (congrArg AV.int (by rw [hfm]; rfl)) ?_
  refine W.gyes rfl rfl ?_
  refine W.q (Ev.at (E := 3) (.t rfl) (.t rfl) Tryz.underlying22 ty3 (fun _ => ⟨by omega, hg1⟩) rfl rfl) rfl ?_
  refine W.gyes rfl rfl ?_
  first | refine W.q (Ev.lde1 (.t rfl) ag3) rfl ?_ | refine W.q (Ev.ldb1 0 (.t rfl) rfl ag3 rfl) rfl ?_ | refine W.q (Ev.ldb1 1 (.t rfl) rfl ag3 rfl) rfl ?_ | refine W.q (Ev.ldb1 2 (.t rfl) rfl ag3 rfl) rfl ?_ | refine W.q (Ev.ldb1 3 (.t rfl) rfl ag3 rfl) rfl ?_
  refine W.gyes rfl rfl ?_
  refine W.q (Ev.eqi (.t rfl) .k) rfl ?_
  refine W.q (Ev.and (.t rfl) ⟨_, _, rfl, rfl, by first | (simp; done) | (intro hg_ hp_; simp [hp_]; done) | (simp <;> omega; done) | (simp_all; done) | grind⟩) rfl ?_
  refine W.q (Ev.move (.t rfl)) rfl ?_
  refine W.is (t := 93) (g := true) (av' := .bool true) rfl (congrArg AV.bool (by simp [htl, hfl, hml])) ?_
  refine W.gyes rfl rfl ?_
  first | refine W.q (Ev.lden (.t rfl) ag35 ty35 rfl rfl) rfl ?_ | refine W.q (Ev.ldbn 0 (.t rfl) rfl ag35 ty35 rfl) rfl ?_ | refine W.q (Ev.ldbn 1 (.t rfl) rfl ag35 ty35 rfl) rfl ?_ | refine W.q (Ev.ldbn 2 (.t rfl) rfl ag35 ty35 rfl) rfl ?_ | refine W.q (Ev.ldbn 3 (.t rfl) rfl ag35 ty35 rfl) rfl ?_
  refine W.gyes rfl rfl ?_
  refine W.bs (es := [_]) Tryz.underlying33 ty35 ⟨rfl, (.t rfl), rfl, rfl, trivial⟩ rfl (by decide) rfl rfl ?_
  refine W.gyes rfl rfl ?_
  first | refine W.q (Ev.lden (.t rfl) ag35 ty35 rfl rfl) rfl ?_ | refine W.q (Ev.ldbn 0 (.t rfl) rfl ag35 ty35 rfl) rfl ?_ | refine W.q (Ev.ldbn 1 (.t rfl) rfl ag35 ty35 rfl) rfl ?_ | refine W.q (Ev.ldbn 2 (.t rfl) rfl ag35 ty35 rfl) rfl ?_ | refine W.q (Ev.ldbn 3 (.t rfl) rfl ag35 ty35 rfl) rfl ?_
  refine W.gyes rfl rfl ?_
  refine W.bs (es := [_]) Tryz.underlying33 ty35 ⟨rfl, (.t rfl), rfl, rfl, trivial⟩ rfl (by decide) rfl rfl ?_
  refine W.gyes rfl rfl ?_
  refine W.callp (cS) ⟨(.t rfl), (.t rfl), trivial⟩ rfl ?_
  refine W.q (Ev.and (.t rfl) ⟨_, _, rfl, rfl, by first | (simp; done) | (intro hg_ hp_; simp [hp_]; done) | (simp <;> omega; done) | (simp_all; done) | grind⟩) rfl ?_
  refine W.q (Ev.assign (.t rfl)) rfl ?_
  refine W.nil ?_
  refine W.then ?_
  refine W.ret ?_
  refine W.retn (M' := M0) (D := _) (rs := [.tmp 4]) (avs := [_]) Tryz.results3 ⟨rfl, trivial⟩ rfl (List.perm_append_comm (l₁ := [_, _])) ?_
  exact ⟨congrArg AV.bool (by simp), rfl⟩

end LSchemaMore

end Go.Proofs.YtphlkdbglpcikaaGreatDoor
