/-
  Merged: WNodes WCopied WSame WWords Pick WLinksSafe LawS.
-/
import Derived.Test.YtgjndpgcpohnoaaGreatDoorG3

section
set_option linter.unusedVariables false
set_option linter.unusedSimpArgs false
set_option maxRecDepth 100000
namespace Go.Proofs.YtgjndpgcpohnoaaGreatDoor
open Go.Vl

namespace WNodes
theorem ty3 : Ty Tryz.prog 3 1 8 (.int .i64 0) := Ty.of (by kernel_rfl)
theorem ty9 : Ty Tryz.prog 9 1 16 (.string ⟨#[]⟩) := Ty.of (by kernel_rfl)
theorem ty24 : Ty Tryz.prog 24 1 24 (.slice none 0 0) := Ty.of (by kernel_rfl)
theorem ty34 : Ty Tryz.prog 34 2 32 (.agg #[.string ⟨#[]⟩, .string ⟨#[]⟩]) := Ty.of (by kernel_rfl)
theorem ty35 : Ty Tryz.prog 35 1 24 (.slice none 0 0) := Ty.of (by kernel_rfl)
theorem ty37 : Ty Tryz.prog 37 4 80 (.agg #[.string ⟨#[]⟩, .slice none 0 0, .string ⟨#[]⟩, .slice none 0 0]) := Ty.of (by kernel_rfl)
theorem ag3 : IsAgg Tryz.prog 3 false := ⟨_, Tryz.underlying3, rfl⟩
theorem ag9 : IsAgg Tryz.prog 9 false := ⟨_, Tryz.underlying9, rfl⟩
theorem ag24 : IsAgg Tryz.prog 24 false := ⟨_, Tryz.underlying24, rfl⟩
theorem ag35 : IsAgg Tryz.prog 35 false := ⟨_, Tryz.underlying35, rfl⟩
theorem ag37 : IsAgg Tryz.prog 37 true := ⟨_, Tryz.underlying37, rfl⟩
theorem fa37_0 : FieldAt Tryz.prog 37 0 0 1 false := ⟨_, _, Tryz.underlying37, rfl, rfl, ty9.size, ag9, by decide⟩
theorem fa37_1 : FieldAt Tryz.prog 37 1 1 1 false := ⟨_, _, Tryz.underlying37, rfl, rfl, ty35.size, ag35, by decide⟩
theorem fa37_3 : FieldAt Tryz.prog 37 3 3 1 false := ⟨_, _, Tryz.underlying37, rfl, rfl, ty24.size, ag24, by decide⟩
theorem st34 : StructAt Tryz.prog 34 [(0, 1), (1, 1)] := ⟨_, Tryz.underlying34, rfl, ty9.size, rfl, ty9.size, trivial⟩
theorem st37 : StructAt Tryz.prog 37 [(0, 1), (1, 1), (2, 1), (3, 1)] := ⟨_, Tryz.underlying37, rfl, ty9.size, rfl, ty35.size, rfl, ty9.size, rfl, ty24.size, trivial⟩
theorem ni24 : NotInt Tryz.prog 24 := .inl ⟨_, Tryz.underlying24⟩
theorem c_Nodes_step (l : List Int) (hl : l.length ≤ 1048576) (ih : ∀ l' : List Int, l'.length < l.length → ∀ (deep : Int) (n : Nat), 0 ≤ deep → deep ≤ 1000 → n ≤ 1000 → FnC Tryz.prog 4 [.sl 1 (l'.map AV.int), .int deep, .int (n : Int)] [] (fun r M => ∃ (v : Value) (ns : List Nd) (rest : List Int), r = .tup [.lit v, .sl 1 (rest.map AV.int)] ∧ M = [.arr v 37 4 (ns.map Nd.av)] ∧ Nd.szs ns + 2 * rest.length ≤ 2 * l'.length ∧ rest.length ≤ l'.length ∧ Nd.wfs ns ∧ Nd.drs deep.toNat false ns ∧ ns.length ≤ n)) (deep : Int) (n : Nat) (hd0 : 0 ≤ deep) (hd1 : deep ≤ 1000) (hn : n ≤ 1000) : FnC Tryz.prog 4 [.sl 1 (l.map AV.int), .int deep, .int (n : Int)] [] (fun r M => ∃ (v : Value) (ns : List Nd) (rest : List Int), r = .tup [.lit v, .sl 1 (rest.map AV.int)] ∧ M = [.arr v 37 4 (ns.map Nd.av)] ∧ Nd.szs ns + 2 * rest.length ≤ 2 * l.length ∧ rest.length ≤ l.length ∧ Nd.wfs ns ∧ Nd.drs deep.toNat false ns ∧ ns.length ≤ n) :=  by
  refine FnC.mk Tryz.func4 (by kernel_rfl) rfl Tryz.ntmps4 rfl (fun w0 F => ?_)
  have hhref : ([104, 114, 101, 102] : List UInt8) ≠ [] := by simp
  refine W.seq ?_
  refine W.region ?_
  refine W.q (Ev.assign .k) rfl ?_
  refine W.q (Ev.assign .k) rfl ?_
  refine W.nil ?_
  refine W.then ?_
  refine W.seq ?_
  refine W.region ?_
  refine W.q (Ev.assign .k) rfl ?_
  refine W.nil ?_
  refine W.then ?_
  refine W.seq ?_
  refine W.block ?_
  refine W.own_nil 37 4 ?_
  refine W.loop (D := []) (ι := List Int × List Nd × Value) (fun z => [(0, true, .sl 1 (z.1.map AV.int)), (1, true, .int deep), (2, true, .int (n : Int)), (8, true, .lit z.2.2)]) (fun z => [.arr z.2.2 37 4 (z.2.1.map Nd.av)]) (fun z => z.1.length ≤ l.length ∧ Nd.szs z.2.1 + 2 * z.1.length ≤ 2 * l.length ∧ Nd.wfs z.2.1 ∧ Nd.drs deep.toNat false z.2.1 ∧ z.2.1.length ≤ n) (fun z => z.1.length) (l, [], .slice none 0 0) ⟨rfl, rfl, rfl, rfl, trivial⟩ (.refl _) ⟨Nat.le_refl _, by simp [Nd.szs], trivial, trivial, Nat.zero_le _⟩ ?_
  rintro ⟨r, out, v⟩ ⟨hi1, hi2, hi3, hi4, hi5⟩
  dsimp only at hi1 hi2 hi3 hi4 hi5 ⊢
  refine W.seq ?_
  refine W.seq ?_
  refine W.region ?_
  refine W.q (Ev.move (.t rfl)) rfl ?_
  first | refine W.q (Ev.lensl (.t rfl) Tryz.underlying22) rfl ?_ | refine W.q (Ev.lenar (i := 0) (.t rfl) rfl Tryz.underlying22) rfl ?_ | refine W.q (Ev.lenar (i := 1) (.t rfl) rfl Tryz.underlying22) rfl ?_ | refine W.q (Ev.lenar (i := 2) (.t rfl) rfl Tryz.underlying22) rfl ?_ | refine W.q (Ev.lenar (i := 3) (.t rfl) rfl Tryz.underlying22) rfl ?_
  refine W.q (Ev.gti (.t rfl) .k) rfl ?_
  refine W.q (Ev.move (.t rfl)) rfl ?_
  refine W.qgT rfl rfl (Ev.move (.t rfl)) rfl ?_
  first | refine W.qgT rfl rfl (Ev.lensl (.c rfl) Tryz.underlying24) rfl ?_ | refine W.qgT rfl rfl (Ev.lenar (i := 0) (.c rfl) rfl Tryz.underlying24) rfl ?_ | refine W.qgT rfl rfl (Ev.lenar (i := 1) (.c rfl) rfl Tryz.underlying24) rfl ?_ | refine W.qgT rfl rfl (Ev.lenar (i := 2) (.c rfl) rfl Tryz.underlying24) rfl ?_ | refine W.qgT rfl rfl (Ev.lenar (i := 3) (.c rfl) rfl Tryz.underlying24) rfl ?_
  refine W.qgT rfl rfl (Ev.move (.t rfl)) rfl ?_
  refine W.qgT rfl rfl (Ev.lti (.c rfl) (.c rfl)) rfl ?_
  refine W.q (Ev.and (.t rfl) ⟨_, _, rfl, rfl, by first | (simp; done) | (intro hg_ hp_; simp [hp_]; done) | (simp <;> omega; done) | (simp_all; done) | grind⟩) rfl ?_
  refine W.nil ?_
  refine W.then ?_
  refine W.cond (.t rfl) (fun hc_t21 => ?_) (fun hc_t21 => ?_)
  · have h21 := hc_t21
    simp only [Bool.and_eq_true, decide_eq_true_eq] at h21
    obtain ⟨x, r2, rfl⟩ : ∃ x r2, r = x :: r2 := List.exists_cons_of_ne_nil (by intro h; rw [h] at h21; simp at h21)
    have hrl : ((x :: r2).map AV.int).length = r2.length + 1 := by simp
    have hg0 : ((x :: r2).map AV.int)[0]? = some (AV.int x) := rfl
    have hol : (out.map Nd.av).length = out.length := List.length_map ..
    have hos := Nd.szs_len out
    rw [List.length_cons] at hi1 hi2
    refine W.skip ?_
    refine W.then ?_
    refine W.block ?_
    refine W.seq ?_
    refine W.region ?_
    refine W.q (Ev.move (.t rfl)) rfl ?_
    refine W.q (Ev.at (E := 3) (.t rfl) .k Tryz.underlying22 ty3 (fun _ => ⟨by omega, hg0⟩) rfl rfl) rfl ?_
    first | refine W.q (Ev.lde1 (.t rfl) ag3) rfl ?_ | refine W.q (Ev.ldb1 0 (.t rfl) rfl ag3 rfl) rfl ?_ | refine W.q (Ev.ldb1 1 (.t rfl) rfl ag3 rfl) rfl ?_ | refine W.q (Ev.ldb1 2 (.t rfl) rfl ag3 rfl) rfl ?_ | refine W.q (Ev.ldb1 3 (.t rfl) rfl ag3 rfl) rfl ?_
    refine W.q (Ev.assign (.t rfl)) rfl ?_
    refine W.nil ?_
    refine W.then ?_
    refine W.seq ?_
    refine W.region ?_
    refine W.q (Ev.move (.t rfl)) rfl ?_
    refine W.q (Ev.subsl (lo := some (.const (.int .i64 1))) (hi := none) (.t rfl) Tryz.underlying22 ty3 (Ov.k (g := true) (L := [])) rfl (fun _ => by first | omega | (simp; omega))) rfl ?_
    refine W.q (Ev.assign (.t rfl)) rfl ?_
    refine W.nil ?_
    refine W.is (t := 0) (g := true) (av' := .sl 1 (r2.map AV.int)) rfl (congrArg (AV.sl 1) (by rw [List.take_of_length_le (by omega)]; rfl)) ?_
    refine W.then ?_
    refine W.seq ?_
    refine W.region ?_
    refine W.q (Ev.move (.t rfl)) rfl ?_
    refine W.callp (Base.c_Picked x 6 (by decide) (by decide)) ⟨(.t rfl), .k, trivial⟩ rfl ?_
    refine W.q (Ev.assign (.t rfl)) rfl ?_
    refine W.nil ?_
    refine W.then ?_
    refine W.block ?_
    refine W.seq ?_
    refine W.region ?_
    refine W.q (Ev.move (.t rfl)) rfl ?_
    refine W.q (Ev.eqi (.t rfl) .k) rfl ?_
    refine W.q (Ev.assign (.t rfl)) rfl ?_
    refine W.nil ?_
    refine W.then ?_
    refine W.cond (.t rfl) (fun hc_t29 => ?_) (fun hc_t29 => ?_)
    · refine W.seq ?_
      refine W.region ?_
      refine W.q (Ev.move (.t rfl)) rfl ?_
      refine W.q (Ev.move (.t rfl)) rfl ?_
      refine W.q (Ev.assign (.t rfl)) rfl ?_
      refine W.q (Ev.assign (.t rfl)) rfl ?_
      refine W.nil ?_
      refine W.then ?_
      refine W.ret ?_
      refine W.blk_ret ?_
      refine W.blk_ret ?_
      refine W.then_ret ?_
      refine W.blk_ret ?_
      refine W.then_ret ?_
      refine W.retn (M' := [.arr v 37 4 _]) (rs := [.tmp 6, .tmp 7]) (avs := [_, _]) Tryz.results4 ⟨rfl, rfl, trivial⟩ rfl (.refl _) ?_
      exact ⟨v, out, _, rfl, rfl, by omega, by omega, hi3, hi4, hi5⟩
    · refine W.seq ?_
      refine W.region ?_
      refine W.q (Ev.move (.t rfl)) rfl ?_
      refine W.q (Ev.eqi (.t rfl) .k) rfl ?_
      refine W.q (Ev.assign (.t rfl)) rfl ?_
      refine W.nil ?_
      refine W.then ?_
      refine W.cond (.t rfl) (fun hc_t34 => ?_) (fun hc_t34 => ?_)
      · refine W.seq ?_
        refine W.seq ?_
        refine W.region ?_
        refine W.q (Ev.move (.t rfl)) rfl ?_
        first | refine W.q (Ev.lensl (.t rfl) Tryz.underlying24) rfl ?_ | refine W.q (Ev.lenar (i := 0) (.t rfl) rfl Tryz.underlying24) rfl ?_ | refine W.q (Ev.lenar (i := 1) (.t rfl) rfl Tryz.underlying24) rfl ?_ | refine W.q (Ev.lenar (i := 2) (.t rfl) rfl Tryz.underlying24) rfl ?_ | refine W.q (Ev.lenar (i := 3) (.t rfl) rfl Tryz.underlying24) rfl ?_
        refine W.q (Ev.assign (.t rfl)) rfl ?_
        refine W.nil ?_
        refine W.then ?_
        refine W.seq ?_
        refine W.region ?_
        refine W.q (Ev.move (.t rfl)) rfl ?_
        refine W.q (Ev.gti (.t rfl) .k) rfl ?_
        refine W.q (Ev.move (.t rfl)) rfl ?_
        refine W.qgT rfl rfl (Ev.move (.t rfl)) rfl ?_
        refine W.qgT rfl rfl (Ev.move (.t rfl)) rfl ?_
        first | refine W.qgT rfl rfl (Ev.sub (.c rfl) .k (fun _ => by omega)) rfl ?_ | refine W.qgT rfl rfl (Ev.subw (.c rfl) .k) rfl ?_
        refine W.qgT rfl rfl (Ev.ata 0 (.c rfl) rfl (.c rfl) Tryz.underlying24 ty37 (fun hg => by have h := of_decide_eq_true hg; omega)) rfl ?_
        first | refine W.qgT rfl rfl (Ev.fae (.c rfl) fa37_0 rfl) rfl ?_ | refine W.qgT rfl rfl (Ev.fab (.c rfl) fa37_0) rfl ?_ | refine W.qgT rfl rfl (Ev.faa (.c rfl) fa37_0) rfl ?_
        refine W.qgT rfl rfl (Ev.lda1g 0 (out.length - 1) 0 (e := Nd.avx (out.getD (out.length - 1) Nd.dflt)) (.c rfl) rfl (fun hg => Nd.at_av out _ (by have h := of_decide_eq_true hg; omega)) (fun hg => by have h := of_decide_eq_true hg; omega) rfl rfl rfl ag9) rfl ?_
        refine W.qgT rfl rfl (Ev.eqs (.c rfl) .k) rfl ?_
        refine W.q (Ev.and (.t rfl) ⟨_, _, rfl, rfl, by first | (simp; done) | (intro hg_ hp_; simp [hp_]; done) | (simp <;> omega; done) | (simp_all; done) | grind⟩) rfl ?_
        refine W.nil ?_
        refine W.then ?_
        refine W.cond (.t rfl) (fun hc_t49 => ?_) (fun hc_t49 => ?_)
        · refine W.exit ?_
          refine W.then_exit ?_
          refine W.blk_miss rfl ?_
          refine W.blk_hit ?_
          refine W.then ?_
          first
          | (refine W.reach (D := []) (r2, out, v) ⟨rfl, rfl, rfl, rfl, trivial⟩ (.refl _) ⟨⟨?_, ?_, ?_, ?_, ?_⟩, ?_⟩
             · show List.length r2 ≤ l.length; omega
             · show Nd.szs out + 2 * r2.length ≤ 2 * l.length; omega
             · exact hi3
             · exact hi4
             · exact hi5
             · show List.length r2 < List.length (x :: r2); simp only [List.length_cons]; omega)
          | (refine W.reach (D := []) (r2, out ++ [Nd.mk [] [] s55 []], v59) ⟨rfl, rfl, rfl, rfl, trivial⟩ (by rw [Nd.map_snoc]; exact .refl _) ⟨⟨?_, ?_, ?_, ?_, ?_⟩, ?_⟩
             · show List.length r2 ≤ l.length; omega
             · show Nd.szs (out ++ [_]) + 2 * _ ≤ _; rw [Nd.szs_append, Nd.szs_one, Nd.sz_eq]; simp only [Nd.attrs, Nd.parts, List.length_nil, List.length_cons, Nd.szs] at *; omega
             · exact Nd.wfs_append hi3 ⟨(Nd.wf_eq _).2 ⟨fun _ => rfl, trivial⟩, trivial⟩
             · exact Nd.drs_snoc hi4 (fun _ => Nd.lastT_of out hc_t49) (Nd.dr_text _ _ m55)
             · show List.length (out ++ [_]) ≤ n; rw [List.length_append, List.length_singleton]; omega
             · show List.length r2 < List.length (x :: r2); simp only [List.length_cons]; omega)
          | (refine W.reach (D := []) (r2, out ++ [Nd.mk s68 [] [] []], v72) ⟨rfl, rfl, rfl, rfl, trivial⟩ (by rw [Nd.map_snoc]; exact .refl _) ⟨⟨?_, ?_, ?_, ?_, ?_⟩, ?_⟩
             · show List.length r2 ≤ l.length; omega
             · show Nd.szs (out ++ [_]) + 2 * _ ≤ _; rw [Nd.szs_append, Nd.szs_one, Nd.sz_eq]; simp only [Nd.attrs, Nd.parts, List.length_nil, List.length_cons, Nd.szs] at *; omega
             · exact Nd.wfs_append hi3 ⟨(Nd.wf_eq _).2 ⟨fun _ => rfl, trivial⟩, trivial⟩
             · exact Nd.drs_snoc hi4 (fun h => absurd h (Nd.ne_vd2 _ m68)) (Nd.dr_void _ _ m68)
             · show List.length (out ++ [_]) ≤ n; rw [List.length_append, List.length_singleton]; omega
             · show List.length r2 < List.length (x :: r2); simp only [List.length_cons]; omega)
          | (refine W.reach (D := [_]) (rest2, out ++ [Nd.mk s80 [([104, 114, 101, 102], s91)] [] ns2], v107) ⟨rfl, rfl, rfl, rfl, trivial⟩ (by rw [Nd.map_snoc]; exact List.Perm.swap _ _ []) ⟨⟨?_, ?_, ?_, ?_, ?_⟩, ?_⟩
             · show List.length rest2 ≤ l.length; omega
             · show Nd.szs (out ++ [_]) + 2 * _ ≤ _; rw [Nd.szs_append, Nd.szs_one, Nd.sz_eq]; simp only [Nd.attrs, Nd.parts, List.length_nil, List.length_cons, Nd.szs] at *; omega
             · exact Nd.wfs_append hi3 ⟨(Nd.wf_eq _).2 ⟨fun h => absurd h n80, hn3⟩, trivial⟩
             · exact Nd.drs_snoc hi4 (fun h => absurd h n80) (Nd.dr_el _ _ _ _ m80 (.inr ⟨s91, m91, rfl⟩) (by simp at hc_t73; omega) (by rw [← hdk]; exact hn4) hn5)
             · show List.length (out ++ [_]) ≤ n; rw [List.length_append, List.length_singleton]; omega
             · show List.length rest2 < List.length (x :: r2); simp only [List.length_cons]; omega)
          | (refine W.reach (D := [_]) (rest2, out ++ [Nd.mk s80 [] [] ns2], v107) ⟨rfl, rfl, rfl, rfl, trivial⟩ (by rw [Nd.map_snoc]; exact List.Perm.swap _ _ []) ⟨⟨?_, ?_, ?_, ?_, ?_⟩, ?_⟩
             · show List.length rest2 ≤ l.length; omega
             · show Nd.szs (out ++ [_]) + 2 * _ ≤ _; rw [Nd.szs_append, Nd.szs_one, Nd.sz_eq]; simp only [Nd.attrs, Nd.parts, List.length_nil, List.length_cons, Nd.szs] at *; omega
             · exact Nd.wfs_append hi3 ⟨(Nd.wf_eq _).2 ⟨fun h => absurd h n80, hn3⟩, trivial⟩
             · exact Nd.drs_snoc hi4 (fun h => absurd h n80) (Nd.dr_el _ _ _ _ m80 (.inl rfl) (by simp at hc_t73; omega) (by rw [← hdk]; exact hn4) hn5)
             · show List.length (out ++ [_]) ≤ n; rw [List.length_append, List.length_singleton]; omega
             · show List.length rest2 < List.length (x :: r2); simp only [List.length_cons]; omega)
        · refine W.skip ?_
          refine W.then ?_
          refine W.region ?_
          obtain ⟨s55, m55, h55⟩ := pick_mod [[120], [97, 60, 98], [38, 97, 109, 112, 59], [121, 32, 122], [32], [60, 112, 62]] (IntKind.i64.wrap (x.tdiv 6)) 6 rfl (by decide)
          refine W.q (Ev.move (.t rfl)) rfl ?_
          refine W.bs (es := [_, _, _, _, _, _]) Tryz.underlying23 ty9 ⟨rfl, .k, rfl, rfl, rfl, .k, rfl, rfl, rfl, .k, rfl, rfl, rfl, .k, rfl, rfl, rfl, .k, rfl, rfl, rfl, .k, rfl, rfl, trivial⟩ rfl (by decide) rfl rfl ?_
          refine W.q (Ev.move (.t rfl)) rfl ?_
          first | refine W.q (Ev.quo (.t rfl) .k (fun _ => by decide)) rfl ?_ | refine W.q (Ev.quo (.t rfl) .k (fun _ => by omega)) rfl ?_
          refine W.callp (Base.c_Picked (IntKind.i64.wrap (x.tdiv 6)) 6 (by decide) (by decide)) ⟨(.t rfl), .k, trivial⟩ rfl ?_
          refine W.q (Ev.at (E := 9) (.t rfl) (.t rfl) Tryz.underlying23 ty9 (fun _ => ⟨Int.emod_nonneg _ (by decide), h55⟩) rfl rfl) rfl ?_
          first | refine W.q (Ev.lde1 (.t rfl) ag9) rfl ?_ | refine W.q (Ev.ldb1 0 (.t rfl) rfl ag9 rfl) rfl ?_ | refine W.q (Ev.ldb1 1 (.t rfl) rfl ag9 rfl) rfl ?_ | refine W.q (Ev.ldb1 2 (.t rfl) rfl ag9 rfl) rfl ?_ | refine W.q (Ev.ldb1 3 (.t rfl) rfl ag9 rfl) rfl ?_
          refine W.q (Ev.build ty37 st37 rfl (fun hg => ⟨_, _, _, rfl, (.t rfl), rfl, rfl, rfl, rfl⟩)) rfl ?_
          refine W.nils (t := 57) (g := true) (cs' := [.str [], .sl 2 [], .str s55, .sl 4 []]) rfl ⟨.inl rfl, .inr ⟨rfl, 2, rfl⟩, .inl rfl, .inr ⟨rfl, 4, rfl⟩, trivial⟩ ?_
          refine W.bs (es := [_]) Tryz.underlying24 ty37 ⟨rfl, (.t rfl), rfl, rfl, trivial⟩ rfl (by decide) rfl rfl ?_
          first | refine W.app 0 (.t rfl) rfl (.sl (.t rfl) (by first | (simp [AV.okc, shV]; done) | (intro e he; rw [List.mem_singleton.1 he]; rfl))) Tryz.underlying24 ni24 ty37 rfl rfl (by simp only [List.length_map, List.length_cons, List.length_nil]; omega) rfl ?_ | refine W.app 1 (.t rfl) rfl (.sl (.t rfl) (by first | (simp [AV.okc, shV]; done) | (intro e he; rw [List.mem_singleton.1 he]; rfl))) Tryz.underlying24 ni24 ty37 rfl rfl (by simp only [List.length_map, List.length_cons, List.length_nil]; omega) rfl ?_ | refine W.app 2 (.t rfl) rfl (.sl (.t rfl) (by first | (simp [AV.okc, shV]; done) | (intro e he; rw [List.mem_singleton.1 he]; rfl))) Tryz.underlying24 ni24 ty37 rfl rfl (by simp only [List.length_map, List.length_cons, List.length_nil]; omega) rfl ?_ | refine W.app 3 (.t rfl) rfl (.sl (.t rfl) (by first | (simp [AV.okc, shV]; done) | (intro e he; rw [List.mem_singleton.1 he]; rfl))) Tryz.underlying24 ni24 ty37 rfl rfl (by simp only [List.length_map, List.length_cons, List.length_nil]; omega) rfl ?_ | refine W.app 0 (.t rfl) rfl (.arr 0 (.t rfl) rfl (by first | (simp [AV.okc, shV]; done) | (intro e he; rw [List.mem_singleton.1 he]; rfl))) Tryz.underlying24 ni24 ty37 rfl rfl (by simp only [List.length_map, List.length_cons, List.length_nil]; omega) rfl ?_ | refine W.app 0 (.t rfl) rfl (.arr 1 (.t rfl) rfl (by first | (simp [AV.okc, shV]; done) | (intro e he; rw [List.mem_singleton.1 he]; rfl))) Tryz.underlying24 ni24 ty37 rfl rfl (by simp only [List.length_map, List.length_cons, List.length_nil]; omega) rfl ?_ | refine W.app 0 (.t rfl) rfl (.arr 2 (.t rfl) rfl (by first | (simp [AV.okc, shV]; done) | (intro e he; rw [List.mem_singleton.1 he]; rfl))) Tryz.underlying24 ni24 ty37 rfl rfl (by simp only [List.length_map, List.length_cons, List.length_nil]; omega) rfl ?_ | refine W.app 0 (.t rfl) rfl (.arr 3 (.t rfl) rfl (by first | (simp [AV.okc, shV]; done) | (intro e he; rw [List.mem_singleton.1 he]; rfl))) Tryz.underlying24 ni24 ty37 rfl rfl (by simp only [List.length_map, List.length_cons, List.length_nil]; omega) rfl ?_ | refine W.app 1 (.t rfl) rfl (.arr 0 (.t rfl) rfl (by first | (simp [AV.okc, shV]; done) | (intro e he; rw [List.mem_singleton.1 he]; rfl))) Tryz.underlying24 ni24 ty37 rfl rfl (by simp only [List.length_map, List.length_cons, List.length_nil]; omega) rfl ?_ | refine W.app 1 (.t rfl) rfl (.arr 1 (.t rfl) rfl (by first | (simp [AV.okc, shV]; done) | (intro e he; rw [List.mem_singleton.1 he]; rfl))) Tryz.underlying24 ni24 ty37 rfl rfl (by simp only [List.length_map, List.length_cons, List.length_nil]; omega) rfl ?_ | refine W.app 1 (.t rfl) rfl (.arr 2 (.t rfl) rfl (by first | (simp [AV.okc, shV]; done) | (intro e he; rw [List.mem_singleton.1 he]; rfl))) Tryz.underlying24 ni24 ty37 rfl rfl (by simp only [List.length_map, List.length_cons, List.length_nil]; omega) rfl ?_ | refine W.app 1 (.t rfl) rfl (.arr 3 (.t rfl) rfl (by first | (simp [AV.okc, shV]; done) | (intro e he; rw [List.mem_singleton.1 he]; rfl))) Tryz.underlying24 ni24 ty37 rfl rfl (by simp only [List.length_map, List.length_cons, List.length_nil]; omega) rfl ?_ | refine W.app 2 (.t rfl) rfl (.arr 0 (.t rfl) rfl (by first | (simp [AV.okc, shV]; done) | (intro e he; rw [List.mem_singleton.1 he]; rfl))) Tryz.underlying24 ni24 ty37 rfl rfl (by simp only [List.length_map, List.length_cons, List.length_nil]; omega) rfl ?_ | refine W.app 2 (.t rfl) rfl (.arr 1 (.t rfl) rfl (by first | (simp [AV.okc, shV]; done) | (intro e he; rw [List.mem_singleton.1 he]; rfl))) Tryz.underlying24 ni24 ty37 rfl rfl (by simp only [List.length_map, List.length_cons, List.length_nil]; omega) rfl ?_ | refine W.app 2 (.t rfl) rfl (.arr 2 (.t rfl) rfl (by first | (simp [AV.okc, shV]; done) | (intro e he; rw [List.mem_singleton.1 he]; rfl))) Tryz.underlying24 ni24 ty37 rfl rfl (by simp only [List.length_map, List.length_cons, List.length_nil]; omega) rfl ?_ | refine W.app 2 (.t rfl) rfl (.arr 3 (.t rfl) rfl (by first | (simp [AV.okc, shV]; done) | (intro e he; rw [List.mem_singleton.1 he]; rfl))) Tryz.underlying24 ni24 ty37 rfl rfl (by simp only [List.length_map, List.length_cons, List.length_nil]; omega) rfl ?_ | refine W.app 3 (.t rfl) rfl (.arr 0 (.t rfl) rfl (by first | (simp [AV.okc, shV]; done) | (intro e he; rw [List.mem_singleton.1 he]; rfl))) Tryz.underlying24 ni24 ty37 rfl rfl (by simp only [List.length_map, List.length_cons, List.length_nil]; omega) rfl ?_ | refine W.app 3 (.t rfl) rfl (.arr 1 (.t rfl) rfl (by first | (simp [AV.okc, shV]; done) | (intro e he; rw [List.mem_singleton.1 he]; rfl))) Tryz.underlying24 ni24 ty37 rfl rfl (by simp only [List.length_map, List.length_cons, List.length_nil]; omega) rfl ?_ | refine W.app 3 (.t rfl) rfl (.arr 2 (.t rfl) rfl (by first | (simp [AV.okc, shV]; done) | (intro e he; rw [List.mem_singleton.1 he]; rfl))) Tryz.underlying24 ni24 ty37 rfl rfl (by simp only [List.length_map, List.length_cons, List.length_nil]; omega) rfl ?_ | refine W.app 3 (.t rfl) rfl (.arr 3 (.t rfl) rfl (by first | (simp [AV.okc, shV]; done) | (intro e he; rw [List.mem_singleton.1 he]; rfl))) Tryz.underlying24 ni24 ty37 rfl rfl (by simp only [List.length_map, List.length_cons, List.length_nil]; omega) rfl ?_
          intro v59
          refine W.q (Ev.assign (.t rfl)) rfl ?_
          refine W.nil ?_
          refine W.blk_normal ?_
          refine W.blk_normal ?_
          refine W.then ?_
          first
          | (refine W.reach (D := []) (r2, out, v) ⟨rfl, rfl, rfl, rfl, trivial⟩ (.refl _) ⟨⟨?_, ?_, ?_, ?_, ?_⟩, ?_⟩
             · show List.length r2 ≤ l.length; omega
             · show Nd.szs out + 2 * r2.length ≤ 2 * l.length; omega
             · exact hi3
             · exact hi4
             · exact hi5
             · show List.length r2 < List.length (x :: r2); simp only [List.length_cons]; omega)
          | (refine W.reach (D := []) (r2, out ++ [Nd.mk [] [] s55 []], v59) ⟨rfl, rfl, rfl, rfl, trivial⟩ (by rw [Nd.map_snoc]; exact .refl _) ⟨⟨?_, ?_, ?_, ?_, ?_⟩, ?_⟩
             · show List.length r2 ≤ l.length; omega
             · show Nd.szs (out ++ [_]) + 2 * _ ≤ _; rw [Nd.szs_append, Nd.szs_one, Nd.sz_eq]; simp only [Nd.attrs, Nd.parts, List.length_nil, List.length_cons, Nd.szs] at *; omega
             · exact Nd.wfs_append hi3 ⟨(Nd.wf_eq _).2 ⟨fun _ => rfl, trivial⟩, trivial⟩
             · exact Nd.drs_snoc hi4 (fun _ => Nd.lastT_of out hc_t49) (Nd.dr_text _ _ m55)
             · show List.length (out ++ [_]) ≤ n; rw [List.length_append, List.length_singleton]; omega
             · show List.length r2 < List.length (x :: r2); simp only [List.length_cons]; omega)
          | (refine W.reach (D := []) (r2, out ++ [Nd.mk s68 [] [] []], v72) ⟨rfl, rfl, rfl, rfl, trivial⟩ (by rw [Nd.map_snoc]; exact .refl _) ⟨⟨?_, ?_, ?_, ?_, ?_⟩, ?_⟩
             · show List.length r2 ≤ l.length; omega
             · show Nd.szs (out ++ [_]) + 2 * _ ≤ _; rw [Nd.szs_append, Nd.szs_one, Nd.sz_eq]; simp only [Nd.attrs, Nd.parts, List.length_nil, List.length_cons, Nd.szs] at *; omega
             · exact Nd.wfs_append hi3 ⟨(Nd.wf_eq _).2 ⟨fun _ => rfl, trivial⟩, trivial⟩
             · exact Nd.drs_snoc hi4 (fun h => absurd h (Nd.ne_vd2 _ m68)) (Nd.dr_void _ _ m68)
             · show List.length (out ++ [_]) ≤ n; rw [List.length_append, List.length_singleton]; omega
             · show List.length r2 < List.length (x :: r2); simp only [List.length_cons]; omega)
          | (refine W.reach (D := [_]) (rest2, out ++ [Nd.mk s80 [([104, 114, 101, 102], s91)] [] ns2], v107) ⟨rfl, rfl, rfl, rfl, trivial⟩ (by rw [Nd.map_snoc]; exact List.Perm.swap _ _ []) ⟨⟨?_, ?_, ?_, ?_, ?_⟩, ?_⟩
             · show List.length rest2 ≤ l.length; omega
             · show Nd.szs (out ++ [_]) + 2 * _ ≤ _; rw [Nd.szs_append, Nd.szs_one, Nd.sz_eq]; simp only [Nd.attrs, Nd.parts, List.length_nil, List.length_cons, Nd.szs] at *; omega
             · exact Nd.wfs_append hi3 ⟨(Nd.wf_eq _).2 ⟨fun h => absurd h n80, hn3⟩, trivial⟩
             · exact Nd.drs_snoc hi4 (fun h => absurd h n80) (Nd.dr_el _ _ _ _ m80 (.inr ⟨s91, m91, rfl⟩) (by simp at hc_t73; omega) (by rw [← hdk]; exact hn4) hn5)
             · show List.length (out ++ [_]) ≤ n; rw [List.length_append, List.length_singleton]; omega
             · show List.length rest2 < List.length (x :: r2); simp only [List.length_cons]; omega)
          | (refine W.reach (D := [_]) (rest2, out ++ [Nd.mk s80 [] [] ns2], v107) ⟨rfl, rfl, rfl, rfl, trivial⟩ (by rw [Nd.map_snoc]; exact List.Perm.swap _ _ []) ⟨⟨?_, ?_, ?_, ?_, ?_⟩, ?_⟩
             · show List.length rest2 ≤ l.length; omega
             · show Nd.szs (out ++ [_]) + 2 * _ ≤ _; rw [Nd.szs_append, Nd.szs_one, Nd.sz_eq]; simp only [Nd.attrs, Nd.parts, List.length_nil, List.length_cons, Nd.szs] at *; omega
             · exact Nd.wfs_append hi3 ⟨(Nd.wf_eq _).2 ⟨fun h => absurd h n80, hn3⟩, trivial⟩
             · exact Nd.drs_snoc hi4 (fun h => absurd h n80) (Nd.dr_el _ _ _ _ m80 (.inl rfl) (by simp at hc_t73; omega) (by rw [← hdk]; exact hn4) hn5)
             · show List.length (out ++ [_]) ≤ n; rw [List.length_append, List.length_singleton]; omega
             · show List.length rest2 < List.length (x :: r2); simp only [List.length_cons]; omega)
      · refine W.seq ?_
        refine W.region ?_
        refine W.q (Ev.move (.t rfl)) rfl ?_
        refine W.q (Ev.eqi (.t rfl) .k) rfl ?_
        refine W.q (Ev.assign (.t rfl)) rfl ?_
        refine W.nil ?_
        refine W.then ?_
        refine W.cond (.t rfl) (fun hc_t60 => ?_) (fun hc_t60 => ?_)
        · refine W.region ?_
          obtain ⟨s68, m68, h68⟩ := pick_mod [[98, 114], [105, 109, 103]] (IntKind.i64.wrap (x.tdiv 6)) 2 rfl (by decide)
          refine W.q (Ev.move (.t rfl)) rfl ?_
          refine W.bs (es := [_, _]) Tryz.underlying23 ty9 ⟨rfl, .k, rfl, rfl, rfl, .k, rfl, rfl, trivial⟩ rfl (by decide) rfl rfl ?_
          refine W.q (Ev.move (.t rfl)) rfl ?_
          first | refine W.q (Ev.quo (.t rfl) .k (fun _ => by decide)) rfl ?_ | refine W.q (Ev.quo (.t rfl) .k (fun _ => by omega)) rfl ?_
          refine W.callp (Base.c_Picked (IntKind.i64.wrap (x.tdiv 6)) 2 (by decide) (by decide)) ⟨(.t rfl), .k, trivial⟩ rfl ?_
          refine W.q (Ev.at (E := 9) (.t rfl) (.t rfl) Tryz.underlying23 ty9 (fun _ => ⟨Int.emod_nonneg _ (by decide), h68⟩) rfl rfl) rfl ?_
          first | refine W.q (Ev.lde1 (.t rfl) ag9) rfl ?_ | refine W.q (Ev.ldb1 0 (.t rfl) rfl ag9 rfl) rfl ?_ | refine W.q (Ev.ldb1 1 (.t rfl) rfl ag9 rfl) rfl ?_ | refine W.q (Ev.ldb1 2 (.t rfl) rfl ag9 rfl) rfl ?_ | refine W.q (Ev.ldb1 3 (.t rfl) rfl ag9 rfl) rfl ?_
          refine W.q (Ev.build ty37 st37 rfl (fun hg => ⟨_, _, _, rfl, (.t rfl), rfl, rfl, rfl, rfl⟩)) rfl ?_
          refine W.nils (t := 70) (g := true) (cs' := [.str s68, .sl 2 [], .str [], .sl 4 []]) rfl ⟨.inl rfl, .inr ⟨rfl, 2, rfl⟩, .inl rfl, .inr ⟨rfl, 4, rfl⟩, trivial⟩ ?_
          refine W.bs (es := [_]) Tryz.underlying24 ty37 ⟨rfl, (.t rfl), rfl, rfl, trivial⟩ rfl (by decide) rfl rfl ?_
          first | refine W.app 0 (.t rfl) rfl (.sl (.t rfl) (by first | (simp [AV.okc, shV]; done) | (intro e he; rw [List.mem_singleton.1 he]; rfl))) Tryz.underlying24 ni24 ty37 rfl rfl (by simp only [List.length_map, List.length_cons, List.length_nil]; omega) rfl ?_ | refine W.app 1 (.t rfl) rfl (.sl (.t rfl) (by first | (simp [AV.okc, shV]; done) | (intro e he; rw [List.mem_singleton.1 he]; rfl))) Tryz.underlying24 ni24 ty37 rfl rfl (by simp only [List.length_map, List.length_cons, List.length_nil]; omega) rfl ?_ | refine W.app 2 (.t rfl) rfl (.sl (.t rfl) (by first | (simp [AV.okc, shV]; done) | (intro e he; rw [List.mem_singleton.1 he]; rfl))) Tryz.underlying24 ni24 ty37 rfl rfl (by simp only [List.length_map, List.length_cons, List.length_nil]; omega) rfl ?_ | refine W.app 3 (.t rfl) rfl (.sl (.t rfl) (by first | (simp [AV.okc, shV]; done) | (intro e he; rw [List.mem_singleton.1 he]; rfl))) Tryz.underlying24 ni24 ty37 rfl rfl (by simp only [List.length_map, List.length_cons, List.length_nil]; omega) rfl ?_ | refine W.app 0 (.t rfl) rfl (.arr 0 (.t rfl) rfl (by first | (simp [AV.okc, shV]; done) | (intro e he; rw [List.mem_singleton.1 he]; rfl))) Tryz.underlying24 ni24 ty37 rfl rfl (by simp only [List.length_map, List.length_cons, List.length_nil]; omega) rfl ?_ | refine W.app 0 (.t rfl) rfl (.arr 1 (.t rfl) rfl (by first | (simp [AV.okc, shV]; done) | (intro e he; rw [List.mem_singleton.1 he]; rfl))) Tryz.underlying24 ni24 ty37 rfl rfl (by simp only [List.length_map, List.length_cons, List.length_nil]; omega) rfl ?_ | refine W.app 0 (.t rfl) rfl (.arr 2 (.t rfl) rfl (by first | (simp [AV.okc, shV]; done) | (intro e he; rw [List.mem_singleton.1 he]; rfl))) Tryz.underlying24 ni24 ty37 rfl rfl (by simp only [List.length_map, List.length_cons, List.length_nil]; omega) rfl ?_ | refine W.app 0 (.t rfl) rfl (.arr 3 (.t rfl) rfl (by first | (simp [AV.okc, shV]; done) | (intro e he; rw [List.mem_singleton.1 he]; rfl))) Tryz.underlying24 ni24 ty37 rfl rfl (by simp only [List.length_map, List.length_cons, List.length_nil]; omega) rfl ?_ | refine W.app 1 (.t rfl) rfl (.arr 0 (.t rfl) rfl (by first | (simp [AV.okc, shV]; done) | (intro e he; rw [List.mem_singleton.1 he]; rfl))) Tryz.underlying24 ni24 ty37 rfl rfl (by simp only [List.length_map, List.length_cons, List.length_nil]; omega) rfl ?_ | refine W.app 1 (.t rfl) rfl (.arr 1 (.t rfl) rfl (by first | (simp [AV.okc, shV]; done) | (intro e he; rw [List.mem_singleton.1 he]; rfl))) Tryz.underlying24 ni24 ty37 rfl rfl (by simp only [List.length_map, List.length_cons, List.length_nil]; omega) rfl ?_ | refine W.app 1 (.t rfl) rfl (.arr 2 (.t rfl) rfl (by first | (simp [AV.okc, shV]; done) | (intro e he; rw [List.mem_singleton.1 he]; rfl))) Tryz.underlying24 ni24 ty37 rfl rfl (by simp only [List.length_map, List.length_cons, List.length_nil]; omega) rfl ?_ | refine W.app 1 (.t rfl) rfl (.arr 3 (.t rfl) rfl (by first | (simp [AV.okc, shV]; done) | (intro e he; rw [List.mem_singleton.1 he]; rfl))) Tryz.underlying24 ni24 ty37 rfl rfl (by simp only [List.length_map, List.length_cons, List.length_nil]; omega) rfl ?_ | refine W.app 2 (.t rfl) rfl (.arr 0 (.t rfl) rfl (by first | (simp [AV.okc, shV]; done) | (intro e he; rw [List.mem_singleton.1 he]; rfl))) Tryz.underlying24 ni24 ty37 rfl rfl (by simp only [List.length_map, List.length_cons, List.length_nil]; omega) rfl ?_ | refine W.app 2 (.t rfl) rfl (.arr 1 (.t rfl) rfl (by first | (simp [AV.okc, shV]; done) | (intro e he; rw [List.mem_singleton.1 he]; rfl))) Tryz.underlying24 ni24 ty37 rfl rfl (by simp only [List.length_map, List.length_cons, List.length_nil]; omega) rfl ?_ | refine W.app 2 (.t rfl) rfl (.arr 2 (.t rfl) rfl (by first | (simp [AV.okc, shV]; done) | (intro e he; rw [List.mem_singleton.1 he]; rfl))) Tryz.underlying24 ni24 ty37 rfl rfl (by simp only [List.length_map, List.length_cons, List.length_nil]; omega) rfl ?_ | refine W.app 2 (.t rfl) rfl (.arr 3 (.t rfl) rfl (by first | (simp [AV.okc, shV]; done) | (intro e he; rw [List.mem_singleton.1 he]; rfl))) Tryz.underlying24 ni24 ty37 rfl rfl (by simp only [List.length_map, List.length_cons, List.length_nil]; omega) rfl ?_ | refine W.app 3 (.t rfl) rfl (.arr 0 (.t rfl) rfl (by first | (simp [AV.okc, shV]; done) | (intro e he; rw [List.mem_singleton.1 he]; rfl))) Tryz.underlying24 ni24 ty37 rfl rfl (by simp only [List.length_map, List.length_cons, List.length_nil]; omega) rfl ?_ | refine W.app 3 (.t rfl) rfl (.arr 1 (.t rfl) rfl (by first | (simp [AV.okc, shV]; done) | (intro e he; rw [List.mem_singleton.1 he]; rfl))) Tryz.underlying24 ni24 ty37 rfl rfl (by simp only [List.length_map, List.length_cons, List.length_nil]; omega) rfl ?_ | refine W.app 3 (.t rfl) rfl (.arr 2 (.t rfl) rfl (by first | (simp [AV.okc, shV]; done) | (intro e he; rw [List.mem_singleton.1 he]; rfl))) Tryz.underlying24 ni24 ty37 rfl rfl (by simp only [List.length_map, List.length_cons, List.length_nil]; omega) rfl ?_ | refine W.app 3 (.t rfl) rfl (.arr 3 (.t rfl) rfl (by first | (simp [AV.okc, shV]; done) | (intro e he; rw [List.mem_singleton.1 he]; rfl))) Tryz.underlying24 ni24 ty37 rfl rfl (by simp only [List.length_map, List.length_cons, List.length_nil]; omega) rfl ?_
          intro v72
          refine W.q (Ev.assign (.t rfl)) rfl ?_
          refine W.nil ?_
          refine W.blk_normal ?_
          refine W.blk_normal ?_
          refine W.then ?_
          first
          | (refine W.reach (D := []) (r2, out, v) ⟨rfl, rfl, rfl, rfl, trivial⟩ (.refl _) ⟨⟨?_, ?_, ?_, ?_, ?_⟩, ?_⟩
             · show List.length r2 ≤ l.length; omega
             · show Nd.szs out + 2 * r2.length ≤ 2 * l.length; omega
             · exact hi3
             · exact hi4
             · exact hi5
             · show List.length r2 < List.length (x :: r2); simp only [List.length_cons]; omega)
          | (refine W.reach (D := []) (r2, out ++ [Nd.mk [] [] s55 []], v59) ⟨rfl, rfl, rfl, rfl, trivial⟩ (by rw [Nd.map_snoc]; exact .refl _) ⟨⟨?_, ?_, ?_, ?_, ?_⟩, ?_⟩
             · show List.length r2 ≤ l.length; omega
             · show Nd.szs (out ++ [_]) + 2 * _ ≤ _; rw [Nd.szs_append, Nd.szs_one, Nd.sz_eq]; simp only [Nd.attrs, Nd.parts, List.length_nil, List.length_cons, Nd.szs] at *; omega
             · exact Nd.wfs_append hi3 ⟨(Nd.wf_eq _).2 ⟨fun _ => rfl, trivial⟩, trivial⟩
             · exact Nd.drs_snoc hi4 (fun _ => Nd.lastT_of out hc_t49) (Nd.dr_text _ _ m55)
             · show List.length (out ++ [_]) ≤ n; rw [List.length_append, List.length_singleton]; omega
             · show List.length r2 < List.length (x :: r2); simp only [List.length_cons]; omega)
          | (refine W.reach (D := []) (r2, out ++ [Nd.mk s68 [] [] []], v72) ⟨rfl, rfl, rfl, rfl, trivial⟩ (by rw [Nd.map_snoc]; exact .refl _) ⟨⟨?_, ?_, ?_, ?_, ?_⟩, ?_⟩
             · show List.length r2 ≤ l.length; omega
             · show Nd.szs (out ++ [_]) + 2 * _ ≤ _; rw [Nd.szs_append, Nd.szs_one, Nd.sz_eq]; simp only [Nd.attrs, Nd.parts, List.length_nil, List.length_cons, Nd.szs] at *; omega
             · exact Nd.wfs_append hi3 ⟨(Nd.wf_eq _).2 ⟨fun _ => rfl, trivial⟩, trivial⟩
             · exact Nd.drs_snoc hi4 (fun h => absurd h (Nd.ne_vd2 _ m68)) (Nd.dr_void _ _ m68)
             · show List.length (out ++ [_]) ≤ n; rw [List.length_append, List.length_singleton]; omega
             · show List.length r2 < List.length (x :: r2); simp only [List.length_cons]; omega)
          | (refine W.reach (D := [_]) (rest2, out ++ [Nd.mk s80 [([104, 114, 101, 102], s91)] [] ns2], v107) ⟨rfl, rfl, rfl, rfl, trivial⟩ (by rw [Nd.map_snoc]; exact List.Perm.swap _ _ []) ⟨⟨?_, ?_, ?_, ?_, ?_⟩, ?_⟩
             · show List.length rest2 ≤ l.length; omega
             · show Nd.szs (out ++ [_]) + 2 * _ ≤ _; rw [Nd.szs_append, Nd.szs_one, Nd.sz_eq]; simp only [Nd.attrs, Nd.parts, List.length_nil, List.length_cons, Nd.szs] at *; omega
             · exact Nd.wfs_append hi3 ⟨(Nd.wf_eq _).2 ⟨fun h => absurd h n80, hn3⟩, trivial⟩
             · exact Nd.drs_snoc hi4 (fun h => absurd h n80) (Nd.dr_el _ _ _ _ m80 (.inr ⟨s91, m91, rfl⟩) (by simp at hc_t73; omega) (by rw [← hdk]; exact hn4) hn5)
             · show List.length (out ++ [_]) ≤ n; rw [List.length_append, List.length_singleton]; omega
             · show List.length rest2 < List.length (x :: r2); simp only [List.length_cons]; omega)
          | (refine W.reach (D := [_]) (rest2, out ++ [Nd.mk s80 [] [] ns2], v107) ⟨rfl, rfl, rfl, rfl, trivial⟩ (by rw [Nd.map_snoc]; exact List.Perm.swap _ _ []) ⟨⟨?_, ?_, ?_, ?_, ?_⟩, ?_⟩
             · show List.length rest2 ≤ l.length; omega
             · show Nd.szs (out ++ [_]) + 2 * _ ≤ _; rw [Nd.szs_append, Nd.szs_one, Nd.sz_eq]; simp only [Nd.attrs, Nd.parts, List.length_nil, List.length_cons, Nd.szs] at *; omega
             · exact Nd.wfs_append hi3 ⟨(Nd.wf_eq _).2 ⟨fun h => absurd h n80, hn3⟩, trivial⟩
             · exact Nd.drs_snoc hi4 (fun h => absurd h n80) (Nd.dr_el _ _ _ _ m80 (.inl rfl) (by simp at hc_t73; omega) (by rw [← hdk]; exact hn4) hn5)
             · show List.length (out ++ [_]) ≤ n; rw [List.length_append, List.length_singleton]; omega
             · show List.length rest2 < List.length (x :: r2); simp only [List.length_cons]; omega)
        · refine W.seq ?_
          refine W.region ?_
          refine W.q (Ev.move (.t rfl)) rfl ?_
          refine W.q (Ev.gti (.t rfl) .k) rfl ?_
          refine W.q (Ev.assign (.t rfl)) rfl ?_
          refine W.nil ?_
          refine W.then ?_
          refine W.cond (.t rfl) (fun hc_t73 => ?_) (fun hc_t73 => ?_)
          · refine W.seq ?_
            refine W.region ?_
            obtain ⟨s80, m80, h80⟩ := pick_mod [[100, 105, 118], [98], [101, 109], [112], [97], [117, 108]] (IntKind.i64.wrap (x.tdiv 6)) 6 rfl (by decide)
            have n80 : s80 ≠ [] := by intro h; subst h; simp at m80
            refine W.bs (es := [_, _, _, _, _, _]) Tryz.underlying23 ty9 ⟨rfl, .k, rfl, rfl, rfl, .k, rfl, rfl, rfl, .k, rfl, rfl, rfl, .k, rfl, rfl, rfl, .k, rfl, rfl, rfl, .k, rfl, rfl, trivial⟩ rfl (by decide) rfl rfl ?_
            refine W.q (Ev.move (.t rfl)) rfl ?_
            first | refine W.q (Ev.quo (.t rfl) .k (fun _ => by decide)) rfl ?_ | refine W.q (Ev.quo (.t rfl) .k (fun _ => by omega)) rfl ?_
            refine W.callp (Base.c_Picked (IntKind.i64.wrap (x.tdiv 6)) 6 (by decide) (by decide)) ⟨(.t rfl), .k, trivial⟩ rfl ?_
            refine W.q (Ev.at (E := 9) (.t rfl) (.t rfl) Tryz.underlying23 ty9 (fun _ => ⟨Int.emod_nonneg _ (by decide), h80⟩) rfl rfl) rfl ?_
            first | refine W.q (Ev.lde1 (.t rfl) ag9) rfl ?_ | refine W.q (Ev.ldb1 0 (.t rfl) rfl ag9 rfl) rfl ?_ | refine W.q (Ev.ldb1 1 (.t rfl) rfl ag9 rfl) rfl ?_ | refine W.q (Ev.ldb1 2 (.t rfl) rfl ag9 rfl) rfl ?_ | refine W.q (Ev.ldb1 3 (.t rfl) rfl ag9 rfl) rfl ?_
            refine W.q (Ev.build ty37 st37 rfl (fun hg => ⟨_, _, _, rfl, (.t rfl), rfl, rfl, rfl, rfl⟩)) rfl ?_
            refine W.nils (t := 82) (g := true) (cs' := [.str s80, .sl 2 [], .str [], .sl 4 []]) rfl ⟨.inl rfl, .inr ⟨rfl, 2, rfl⟩, .inl rfl, .inr ⟨rfl, 4, rfl⟩, trivial⟩ ?_
            refine W.alloc ty37 rfl rfl ?_
            intro b12
            first | refine W.stb 0 (.t rfl) (.t rfl) rfl ty37 rfl rfl rfl ?_ | refine W.stb 1 (.t rfl) (.t rfl) rfl ty37 rfl rfl rfl ?_ | refine W.stb 2 (.t rfl) (.t rfl) rfl ty37 rfl rfl rfl ?_ | refine W.stb 3 (.t rfl) (.t rfl) rfl ty37 rfl rfl rfl ?_
            refine W.nil ?_
            refine W.then ?_
            refine W.seq ?_
            refine W.seq ?_
            refine W.region ?_
            refine W.q (Ev.move (.t rfl)) rfl ?_
            first | refine W.q (Ev.quo (.t rfl) .k (fun _ => by decide)) rfl ?_ | refine W.q (Ev.quo (.t rfl) .k (fun _ => by omega)) rfl ?_
            refine W.callp (Base.c_Picked (IntKind.i64.wrap (x.tdiv 36)) 3 (by decide) (by decide)) ⟨(.t rfl), .k, trivial⟩ rfl ?_
            refine W.q (Ev.eqi (.t rfl) .k) rfl ?_
            refine W.nil ?_
            refine W.then ?_
            refine W.cond (.t rfl) (fun hc_t86 => ?_) (fun hc_t86 => ?_)
            · refine W.region ?_
              obtain ⟨s91, m91, h91⟩ := pick_mod [[], [120], [97, 34, 98, 38], [60], [104, 116, 116, 112, 58, 47, 47, 121]] (IntKind.i64.wrap (x.tdiv 100)) 5 rfl (by decide)
              refine W.bs (es := [_, _, _, _, _]) Tryz.underlying23 ty9 ⟨rfl, .k, rfl, rfl, rfl, .k, rfl, rfl, rfl, .k, rfl, rfl, rfl, .k, rfl, rfl, rfl, .k, rfl, rfl, trivial⟩ rfl (by decide) rfl rfl ?_
              refine W.q (Ev.move (.t rfl)) rfl ?_
              first | refine W.q (Ev.quo (.t rfl) .k (fun _ => by decide)) rfl ?_ | refine W.q (Ev.quo (.t rfl) .k (fun _ => by omega)) rfl ?_
              refine W.callp (Base.c_Picked (IntKind.i64.wrap (x.tdiv 100)) 5 (by decide) (by decide)) ⟨(.t rfl), .k, trivial⟩ rfl ?_
              refine W.q (Ev.at (E := 9) (.t rfl) (.t rfl) Tryz.underlying23 ty9 (fun _ => ⟨Int.emod_nonneg _ (by decide), h91⟩) rfl rfl) rfl ?_
              first | refine W.q (Ev.lde1 (.t rfl) ag9) rfl ?_ | refine W.q (Ev.ldb1 0 (.t rfl) rfl ag9 rfl) rfl ?_ | refine W.q (Ev.ldb1 1 (.t rfl) rfl ag9 rfl) rfl ?_ | refine W.q (Ev.ldb1 2 (.t rfl) rfl ag9 rfl) rfl ?_ | refine W.q (Ev.ldb1 3 (.t rfl) rfl ag9 rfl) rfl ?_
              refine W.q (Ev.build ty34 st34 rfl (fun hg => ⟨_, _, _, rfl, .k, rfl, rfl, rfl, _, _, _, rfl, (.t rfl), rfl, rfl, rfl, rfl⟩)) rfl ?_
              refine W.bs (es := [_]) Tryz.underlying35 ty34 ⟨rfl, (.t rfl), rfl, rfl, trivial⟩ rfl (by decide) rfl rfl ?_
              first | refine W.q (Ev.fae (.t rfl) fa37_1 rfl) rfl ?_ | refine W.q (Ev.fab (.t rfl) fa37_1) rfl ?_ | refine W.q (Ev.faa (.t rfl) fa37_1) rfl ?_
              first | refine W.stb 0 (.t rfl) (.t rfl) rfl ty35 rfl rfl rfl ?_ | refine W.stb 1 (.t rfl) (.t rfl) rfl ty35 rfl rfl rfl ?_ | refine W.stb 2 (.t rfl) (.t rfl) rfl ty35 rfl rfl rfl ?_ | refine W.stb 3 (.t rfl) (.t rfl) rfl ty35 rfl rfl rfl ?_
              refine W.nil ?_
              refine W.then ?_
              refine W.seq ?_
              refine W.region ?_
              refine W.q (Ev.move (.t rfl)) rfl ?_
              refine W.q (Ev.move (.t rfl)) rfl ?_
              first | refine W.q (Ev.sub (.t rfl) .k (fun _ => by omega)) rfl ?_ | refine W.q (Ev.subw (.t rfl) .k) rfl ?_
              refine W.call (ih r2 (by omega) (deep - 1) 4 (by simp at hc_t73; omega) (by omega) (by decide)) ⟨(.t rfl), (.t rfl), .k, trivial⟩ (.refl _) rfl ?_
              rintro _ _ ⟨v100, ns2, rest2, rfl, rfl, hn1, hn2, hn3, hn4, hn5⟩
              have hdk : (deep - 1).toNat = deep.toNat - 1 := by omega
              refine W.q (Ev.move (.t rfl)) rfl ?_
              refine W.q (Ev.extract (.t rfl) rfl) rfl ?_
              refine W.q (Ev.extract (.t rfl) rfl) rfl ?_
              refine W.freeze (M1 := [_, _]) (M2 := [_, _]) (D := []) (v := v100) (L' := [(101, true, .sl 4 (ns2.map Nd.av)), (102, true, .sl 1 (rest2.map AV.int)), (12, true, .lit (.pointer (some ⟨b12, 0, none⟩))), (1, true, .int deep), (2, true, .int (n : Int)), (8, true, .lit v)]) (.refl _) ⟨⟨_, rfl, .one .hit⟩, ⟨_, rfl, .one (.refl _)⟩, ⟨_, rfl, .one (.refl _)⟩, ⟨_, rfl, .one (.refl _)⟩, ⟨_, rfl, .one (.refl _)⟩, ⟨_, rfl, .one (.refl _)⟩, trivial⟩ ⟨.refl _, .refl _, trivial⟩ ?_
              first | refine W.q (Ev.fae (.t rfl) fa37_3 rfl) rfl ?_ | refine W.q (Ev.fab (.t rfl) fa37_3) rfl ?_ | refine W.q (Ev.faa (.t rfl) fa37_3) rfl ?_
              first | refine W.stb 0 (.t rfl) (.t rfl) rfl ty24 rfl rfl rfl ?_ | refine W.stb 1 (.t rfl) (.t rfl) rfl ty24 rfl rfl rfl ?_ | refine W.stb 2 (.t rfl) (.t rfl) rfl ty24 rfl rfl rfl ?_ | refine W.stb 3 (.t rfl) (.t rfl) rfl ty24 rfl rfl rfl ?_
              refine W.q (Ev.assign (.t rfl)) rfl ?_
              refine W.nil ?_
              refine W.then ?_
              refine W.region ?_
              refine W.q (Ev.move (.t rfl)) rfl ?_
              first | refine W.q (Ev.lden (.t rfl) ag37 ty37 rfl rfl) rfl ?_ | refine W.q (Ev.ldbn 0 (.t rfl) rfl ag37 ty37 rfl) rfl ?_ | refine W.q (Ev.ldbn 1 (.t rfl) rfl ag37 ty37 rfl) rfl ?_ | refine W.q (Ev.ldbn 2 (.t rfl) rfl ag37 ty37 rfl) rfl ?_ | refine W.q (Ev.ldbn 3 (.t rfl) rfl ag37 ty37 rfl) rfl ?_
              refine W.bs (es := [_]) Tryz.underlying24 ty37 ⟨rfl, (.t rfl), rfl, rfl, trivial⟩ rfl (by decide) rfl rfl ?_
              first | refine W.app 0 (.t rfl) rfl (.sl (.t rfl) (by first | (simp [AV.okc, shV]; done) | (intro e he; rw [List.mem_singleton.1 he]; rfl))) Tryz.underlying24 ni24 ty37 rfl rfl (by simp only [List.length_map, List.length_cons, List.length_nil]; omega) rfl ?_ | refine W.app 1 (.t rfl) rfl (.sl (.t rfl) (by first | (simp [AV.okc, shV]; done) | (intro e he; rw [List.mem_singleton.1 he]; rfl))) Tryz.underlying24 ni24 ty37 rfl rfl (by simp only [List.length_map, List.length_cons, List.length_nil]; omega) rfl ?_ | refine W.app 2 (.t rfl) rfl (.sl (.t rfl) (by first | (simp [AV.okc, shV]; done) | (intro e he; rw [List.mem_singleton.1 he]; rfl))) Tryz.underlying24 ni24 ty37 rfl rfl (by simp only [List.length_map, List.length_cons, List.length_nil]; omega) rfl ?_ | refine W.app 3 (.t rfl) rfl (.sl (.t rfl) (by first | (simp [AV.okc, shV]; done) | (intro e he; rw [List.mem_singleton.1 he]; rfl))) Tryz.underlying24 ni24 ty37 rfl rfl (by simp only [List.length_map, List.length_cons, List.length_nil]; omega) rfl ?_ | refine W.app 0 (.t rfl) rfl (.arr 0 (.t rfl) rfl (by first | (simp [AV.okc, shV]; done) | (intro e he; rw [List.mem_singleton.1 he]; rfl))) Tryz.underlying24 ni24 ty37 rfl rfl (by simp only [List.length_map, List.length_cons, List.length_nil]; omega) rfl ?_ | refine W.app 0 (.t rfl) rfl (.arr 1 (.t rfl) rfl (by first | (simp [AV.okc, shV]; done) | (intro e he; rw [List.mem_singleton.1 he]; rfl))) Tryz.underlying24 ni24 ty37 rfl rfl (by simp only [List.length_map, List.length_cons, List.length_nil]; omega) rfl ?_ | refine W.app 0 (.t rfl) rfl (.arr 2 (.t rfl) rfl (by first | (simp [AV.okc, shV]; done) | (intro e he; rw [List.mem_singleton.1 he]; rfl))) Tryz.underlying24 ni24 ty37 rfl rfl (by simp only [List.length_map, List.length_cons, List.length_nil]; omega) rfl ?_ | refine W.app 0 (.t rfl) rfl (.arr 3 (.t rfl) rfl (by first | (simp [AV.okc, shV]; done) | (intro e he; rw [List.mem_singleton.1 he]; rfl))) Tryz.underlying24 ni24 ty37 rfl rfl (by simp only [List.length_map, List.length_cons, List.length_nil]; omega) rfl ?_ | refine W.app 1 (.t rfl) rfl (.arr 0 (.t rfl) rfl (by first | (simp [AV.okc, shV]; done) | (intro e he; rw [List.mem_singleton.1 he]; rfl))) Tryz.underlying24 ni24 ty37 rfl rfl (by simp only [List.length_map, List.length_cons, List.length_nil]; omega) rfl ?_ | refine W.app 1 (.t rfl) rfl (.arr 1 (.t rfl) rfl (by first | (simp [AV.okc, shV]; done) | (intro e he; rw [List.mem_singleton.1 he]; rfl))) Tryz.underlying24 ni24 ty37 rfl rfl (by simp only [List.length_map, List.length_cons, List.length_nil]; omega) rfl ?_ | refine W.app 1 (.t rfl) rfl (.arr 2 (.t rfl) rfl (by first | (simp [AV.okc, shV]; done) | (intro e he; rw [List.mem_singleton.1 he]; rfl))) Tryz.underlying24 ni24 ty37 rfl rfl (by simp only [List.length_map, List.length_cons, List.length_nil]; omega) rfl ?_ | refine W.app 1 (.t rfl) rfl (.arr 3 (.t rfl) rfl (by first | (simp [AV.okc, shV]; done) | (intro e he; rw [List.mem_singleton.1 he]; rfl))) Tryz.underlying24 ni24 ty37 rfl rfl (by simp only [List.length_map, List.length_cons, List.length_nil]; omega) rfl ?_ | refine W.app 2 (.t rfl) rfl (.arr 0 (.t rfl) rfl (by first | (simp [AV.okc, shV]; done) | (intro e he; rw [List.mem_singleton.1 he]; rfl))) Tryz.underlying24 ni24 ty37 rfl rfl (by simp only [List.length_map, List.length_cons, List.length_nil]; omega) rfl ?_ | refine W.app 2 (.t rfl) rfl (.arr 1 (.t rfl) rfl (by first | (simp [AV.okc, shV]; done) | (intro e he; rw [List.mem_singleton.1 he]; rfl))) Tryz.underlying24 ni24 ty37 rfl rfl (by simp only [List.length_map, List.length_cons, List.length_nil]; omega) rfl ?_ | refine W.app 2 (.t rfl) rfl (.arr 2 (.t rfl) rfl (by first | (simp [AV.okc, shV]; done) | (intro e he; rw [List.mem_singleton.1 he]; rfl))) Tryz.underlying24 ni24 ty37 rfl rfl (by simp only [List.length_map, List.length_cons, List.length_nil]; omega) rfl ?_ | refine W.app 2 (.t rfl) rfl (.arr 3 (.t rfl) rfl (by first | (simp [AV.okc, shV]; done) | (intro e he; rw [List.mem_singleton.1 he]; rfl))) Tryz.underlying24 ni24 ty37 rfl rfl (by simp only [List.length_map, List.length_cons, List.length_nil]; omega) rfl ?_ | refine W.app 3 (.t rfl) rfl (.arr 0 (.t rfl) rfl (by first | (simp [AV.okc, shV]; done) | (intro e he; rw [List.mem_singleton.1 he]; rfl))) Tryz.underlying24 ni24 ty37 rfl rfl (by simp only [List.length_map, List.length_cons, List.length_nil]; omega) rfl ?_ | refine W.app 3 (.t rfl) rfl (.arr 1 (.t rfl) rfl (by first | (simp [AV.okc, shV]; done) | (intro e he; rw [List.mem_singleton.1 he]; rfl))) Tryz.underlying24 ni24 ty37 rfl rfl (by simp only [List.length_map, List.length_cons, List.length_nil]; omega) rfl ?_ | refine W.app 3 (.t rfl) rfl (.arr 2 (.t rfl) rfl (by first | (simp [AV.okc, shV]; done) | (intro e he; rw [List.mem_singleton.1 he]; rfl))) Tryz.underlying24 ni24 ty37 rfl rfl (by simp only [List.length_map, List.length_cons, List.length_nil]; omega) rfl ?_ | refine W.app 3 (.t rfl) rfl (.arr 3 (.t rfl) rfl (by first | (simp [AV.okc, shV]; done) | (intro e he; rw [List.mem_singleton.1 he]; rfl))) Tryz.underlying24 ni24 ty37 rfl rfl (by simp only [List.length_map, List.length_cons, List.length_nil]; omega) rfl ?_
              intro v107
              refine W.q (Ev.assign (.t rfl)) rfl ?_
              refine W.nil ?_
              refine W.blk_normal ?_
              refine W.blk_normal ?_
              refine W.then ?_
              first
              | (refine W.reach (D := []) (r2, out, v) ⟨rfl, rfl, rfl, rfl, trivial⟩ (.refl _) ⟨⟨?_, ?_, ?_, ?_, ?_⟩, ?_⟩
                 · show List.length r2 ≤ l.length; omega
                 · show Nd.szs out + 2 * r2.length ≤ 2 * l.length; omega
                 · exact hi3
                 · exact hi4
                 · exact hi5
                 · show List.length r2 < List.length (x :: r2); simp only [List.length_cons]; omega)
              | (refine W.reach (D := []) (r2, out ++ [Nd.mk [] [] s55 []], v59) ⟨rfl, rfl, rfl, rfl, trivial⟩ (by rw [Nd.map_snoc]; exact .refl _) ⟨⟨?_, ?_, ?_, ?_, ?_⟩, ?_⟩
                 · show List.length r2 ≤ l.length; omega
                 · show Nd.szs (out ++ [_]) + 2 * _ ≤ _; rw [Nd.szs_append, Nd.szs_one, Nd.sz_eq]; simp only [Nd.attrs, Nd.parts, List.length_nil, List.length_cons, Nd.szs] at *; omega
                 · exact Nd.wfs_append hi3 ⟨(Nd.wf_eq _).2 ⟨fun _ => rfl, trivial⟩, trivial⟩
                 · exact Nd.drs_snoc hi4 (fun _ => Nd.lastT_of out hc_t49) (Nd.dr_text _ _ m55)
                 · show List.length (out ++ [_]) ≤ n; rw [List.length_append, List.length_singleton]; omega
                 · show List.length r2 < List.length (x :: r2); simp only [List.length_cons]; omega)
              | (refine W.reach (D := []) (r2, out ++ [Nd.mk s68 [] [] []], v72) ⟨rfl, rfl, rfl, rfl, trivial⟩ (by rw [Nd.map_snoc]; exact .refl _) ⟨⟨?_, ?_, ?_, ?_, ?_⟩, ?_⟩
                 · show List.length r2 ≤ l.length; omega
                 · show Nd.szs (out ++ [_]) + 2 * _ ≤ _; rw [Nd.szs_append, Nd.szs_one, Nd.sz_eq]; simp only [Nd.attrs, Nd.parts, List.length_nil, List.length_cons, Nd.szs] at *; omega
                 · exact Nd.wfs_append hi3 ⟨(Nd.wf_eq _).2 ⟨fun _ => rfl, trivial⟩, trivial⟩
                 · exact Nd.drs_snoc hi4 (fun h => absurd h (Nd.ne_vd2 _ m68)) (Nd.dr_void _ _ m68)
                 · show List.length (out ++ [_]) ≤ n; rw [List.length_append, List.length_singleton]; omega
                 · show List.length r2 < List.length (x :: r2); simp only [List.length_cons]; omega)
              | (refine W.reach (D := [_]) (rest2, out ++ [Nd.mk s80 [([104, 114, 101, 102], s91)] [] ns2], v107) ⟨rfl, rfl, rfl, rfl, trivial⟩ (by rw [Nd.map_snoc]; exact List.Perm.swap _ _ []) ⟨⟨?_, ?_, ?_, ?_, ?_⟩, ?_⟩
                 · show List.length rest2 ≤ l.length; omega
                 · show Nd.szs (out ++ [_]) + 2 * _ ≤ _; rw [Nd.szs_append, Nd.szs_one, Nd.sz_eq]; simp only [Nd.attrs, Nd.parts, List.length_nil, List.length_cons, Nd.szs] at *; omega
                 · exact Nd.wfs_append hi3 ⟨(Nd.wf_eq _).2 ⟨fun h => absurd h n80, hn3⟩, trivial⟩
                 · exact Nd.drs_snoc hi4 (fun h => absurd h n80) (Nd.dr_el _ _ _ _ m80 (.inr ⟨s91, m91, rfl⟩) (by simp at hc_t73; omega) (by rw [← hdk]; exact hn4) hn5)
                 · show List.length (out ++ [_]) ≤ n; rw [List.length_append, List.length_singleton]; omega
                 · show List.length rest2 < List.length (x :: r2); simp only [List.length_cons]; omega)
              | (refine W.reach (D := [_]) (rest2, out ++ [Nd.mk s80 [] [] ns2], v107) ⟨rfl, rfl, rfl, rfl, trivial⟩ (by rw [Nd.map_snoc]; exact List.Perm.swap _ _ []) ⟨⟨?_, ?_, ?_, ?_, ?_⟩, ?_⟩
                 · show List.length rest2 ≤ l.length; omega
                 · show Nd.szs (out ++ [_]) + 2 * _ ≤ _; rw [Nd.szs_append, Nd.szs_one, Nd.sz_eq]; simp only [Nd.attrs, Nd.parts, List.length_nil, List.length_cons, Nd.szs] at *; omega
                 · exact Nd.wfs_append hi3 ⟨(Nd.wf_eq _).2 ⟨fun h => absurd h n80, hn3⟩, trivial⟩
                 · exact Nd.drs_snoc hi4 (fun h => absurd h n80) (Nd.dr_el _ _ _ _ m80 (.inl rfl) (by simp at hc_t73; omega) (by rw [← hdk]; exact hn4) hn5)
                 · show List.length (out ++ [_]) ≤ n; rw [List.length_append, List.length_singleton]; omega
                 · show List.length rest2 < List.length (x :: r2); simp only [List.length_cons]; omega)
            · refine W.skip ?_
              refine W.then ?_
              refine W.seq ?_
              refine W.region ?_
              refine W.q (Ev.move (.t rfl)) rfl ?_
              refine W.q (Ev.move (.t rfl)) rfl ?_
              first | refine W.q (Ev.sub (.t rfl) .k (fun _ => by omega)) rfl ?_ | refine W.q (Ev.subw (.t rfl) .k) rfl ?_
              refine W.call (ih r2 (by omega) (deep - 1) 4 (by simp at hc_t73; omega) (by omega) (by decide)) ⟨(.t rfl), (.t rfl), .k, trivial⟩ (.refl _) rfl ?_
              rintro _ _ ⟨v100, ns2, rest2, rfl, rfl, hn1, hn2, hn3, hn4, hn5⟩
              have hdk : (deep - 1).toNat = deep.toNat - 1 := by omega
              refine W.q (Ev.move (.t rfl)) rfl ?_
              refine W.q (Ev.extract (.t rfl) rfl) rfl ?_
              refine W.q (Ev.extract (.t rfl) rfl) rfl ?_
              refine W.freeze (M1 := [_, _]) (M2 := [_, _]) (D := []) (v := v100) (L' := [(101, true, .sl 4 (ns2.map Nd.av)), (102, true, .sl 1 (rest2.map AV.int)), (12, true, .lit (.pointer (some ⟨b12, 0, none⟩))), (1, true, .int deep), (2, true, .int (n : Int)), (8, true, .lit v)]) (.refl _) ⟨⟨_, rfl, .one .hit⟩, ⟨_, rfl, .one (.refl _)⟩, ⟨_, rfl, .one (.refl _)⟩, ⟨_, rfl, .one (.refl _)⟩, ⟨_, rfl, .one (.refl _)⟩, ⟨_, rfl, .one (.refl _)⟩, trivial⟩ ⟨.refl _, .refl _, trivial⟩ ?_
              first | refine W.q (Ev.fae (.t rfl) fa37_3 rfl) rfl ?_ | refine W.q (Ev.fab (.t rfl) fa37_3) rfl ?_ | refine W.q (Ev.faa (.t rfl) fa37_3) rfl ?_
              first | refine W.stb 0 (.t rfl) (.t rfl) rfl ty24 rfl rfl rfl ?_ | refine W.stb 1 (.t rfl) (.t rfl) rfl ty24 rfl rfl rfl ?_ | refine W.stb 2 (.t rfl) (.t rfl) rfl ty24 rfl rfl rfl ?_ | refine W.stb 3 (.t rfl) (.t rfl) rfl ty24 rfl rfl rfl ?_
              refine W.q (Ev.assign (.t rfl)) rfl ?_
              refine W.nil ?_
              refine W.then ?_
              refine W.region ?_
              refine W.q (Ev.move (.t rfl)) rfl ?_
              first | refine W.q (Ev.lden (.t rfl) ag37 ty37 rfl rfl) rfl ?_ | refine W.q (Ev.ldbn 0 (.t rfl) rfl ag37 ty37 rfl) rfl ?_ | refine W.q (Ev.ldbn 1 (.t rfl) rfl ag37 ty37 rfl) rfl ?_ | refine W.q (Ev.ldbn 2 (.t rfl) rfl ag37 ty37 rfl) rfl ?_ | refine W.q (Ev.ldbn 3 (.t rfl) rfl ag37 ty37 rfl) rfl ?_
              refine W.bs (es := [_]) Tryz.underlying24 ty37 ⟨rfl, (.t rfl), rfl, rfl, trivial⟩ rfl (by decide) rfl rfl ?_
              first | refine W.app 0 (.t rfl) rfl (.sl (.t rfl) (by first | (simp [AV.okc, shV]; done) | (intro e he; rw [List.mem_singleton.1 he]; rfl))) Tryz.underlying24 ni24 ty37 rfl rfl (by simp only [List.length_map, List.length_cons, List.length_nil]; omega) rfl ?_ | refine W.app 1 (.t rfl) rfl (.sl (.t rfl) (by first | (simp [AV.okc, shV]; done) | (intro e he; rw [List.mem_singleton.1 he]; rfl))) Tryz.underlying24 ni24 ty37 rfl rfl (by simp only [List.length_map, List.length_cons, List.length_nil]; omega) rfl ?_ | refine W.app 2 (.t rfl) rfl (.sl (.t rfl) (by first | (simp [AV.okc, shV]; done) | (intro e he; rw [List.mem_singleton.1 he]; rfl))) Tryz.underlying24 ni24 ty37 rfl rfl (by simp only [List.length_map, List.length_cons, List.length_nil]; omega) rfl ?_ | refine W.app 3 (.t rfl) rfl (.sl (.t rfl) (by first | (simp [AV.okc, shV]; done) | (intro e he; rw [List.mem_singleton.1 he]; rfl))) Tryz.underlying24 ni24 ty37 rfl rfl (by simp only [List.length_map, List.length_cons, List.length_nil]; omega) rfl ?_ | refine W.app 0 (.t rfl) rfl (.arr 0 (.t rfl) rfl (by first | (simp [AV.okc, shV]; done) | (intro e he; rw [List.mem_singleton.1 he]; rfl))) Tryz.underlying24 ni24 ty37 rfl rfl (by simp only [List.length_map, List.length_cons, List.length_nil]; omega) rfl ?_ | refine W.app 0 (.t rfl) rfl (.arr 1 (.t rfl) rfl (by first | (simp [AV.okc, shV]; done) | (intro e he; rw [List.mem_singleton.1 he]; rfl))) Tryz.underlying24 ni24 ty37 rfl rfl (by simp only [List.length_map, List.length_cons, List.length_nil]; omega) rfl ?_ | refine W.app 0 (.t rfl) rfl (.arr 2 (.t rfl) rfl (by first | (simp [AV.okc, shV]; done) | (intro e he; rw [List.mem_singleton.1 he]; rfl))) Tryz.underlying24 ni24 ty37 rfl rfl (by simp only [List.length_map, List.length_cons, List.length_nil]; omega) rfl ?_ | refine W.app 0 (.t rfl) rfl (.arr 3 (.t rfl) rfl (by first | (simp [AV.okc, shV]; done) | (intro e he; rw [List.mem_singleton.1 he]; rfl))) Tryz.underlying24 ni24 ty37 rfl rfl (by simp only [List.length_map, List.length_cons, List.length_nil]; omega) rfl ?_ | refine W.app 1 (.t rfl) rfl (.arr 0 (.t rfl) rfl (by first | (simp [AV.okc, shV]; done) | (intro e he; rw [List.mem_singleton.1 he]; rfl))) Tryz.underlying24 ni24 ty37 rfl rfl (by simp only [List.length_map, List.length_cons, List.length_nil]; omega) rfl ?_ | refine W.app 1 (.t rfl) rfl (.arr 1 (.t rfl) rfl (by first | (simp [AV.okc, shV]; done) | (intro e he; rw [List.mem_singleton.1 he]; rfl))) Tryz.underlying24 ni24 ty37 rfl rfl (by simp only [List.length_map, List.length_cons, List.length_nil]; omega) rfl ?_ | refine W.app 1 (.t rfl) rfl (.arr 2 (.t rfl) rfl (by first | (simp [AV.okc, shV]; done) | (intro e he; rw [List.mem_singleton.1 he]; rfl))) Tryz.underlying24 ni24 ty37 rfl rfl (by simp only [List.length_map, List.length_cons, List.length_nil]; omega) rfl ?_ | refine W.app 1 (.t rfl) rfl (.arr 3 (.t rfl) rfl (by first | (simp [AV.okc, shV]; done) | (intro e he; rw [List.mem_singleton.1 he]; rfl))) Tryz.underlying24 ni24 ty37 rfl rfl (by simp only [List.length_map, List.length_cons, List.length_nil]; omega) rfl ?_ | refine W.app 2 (.t rfl) rfl (.arr 0 (.t rfl) rfl (by first | (simp [AV.okc, shV]; done) | (intro e he; rw [List.mem_singleton.1 he]; rfl))) Tryz.underlying24 ni24 ty37 rfl rfl (by simp only [List.length_map, List.length_cons, List.length_nil]; omega) rfl ?_ | refine W.app 2 (.t rfl) rfl (.arr 1 (.t rfl) rfl (by first | (simp [AV.okc, shV]; done) | (intro e he; rw [List.mem_singleton.1 he]; rfl))) Tryz.underlying24 ni24 ty37 rfl rfl (by simp only [List.length_map, List.length_cons, List.length_nil]; omega) rfl ?_ | refine W.app 2 (.t rfl) rfl (.arr 2 (.t rfl) rfl (by first | (simp [AV.okc, shV]; done) | (intro e he; rw [List.mem_singleton.1 he]; rfl))) Tryz.underlying24 ni24 ty37 rfl rfl (by simp only [List.length_map, List.length_cons, List.length_nil]; omega) rfl ?_ | refine W.app 2 (.t rfl) rfl (.arr 3 (.t rfl) rfl (by first | (simp [AV.okc, shV]; done) | (intro e he; rw [List.mem_singleton.1 he]; rfl))) Tryz.underlying24 ni24 ty37 rfl rfl (by simp only [List.length_map, List.length_cons, List.length_nil]; omega) rfl ?_ | refine W.app 3 (.t rfl) rfl (.arr 0 (.t rfl) rfl (by first | (simp [AV.okc, shV]; done) | (intro e he; rw [List.mem_singleton.1 he]; rfl))) Tryz.underlying24 ni24 ty37 rfl rfl (by simp only [List.length_map, List.length_cons, List.length_nil]; omega) rfl ?_ | refine W.app 3 (.t rfl) rfl (.arr 1 (.t rfl) rfl (by first | (simp [AV.okc, shV]; done) | (intro e he; rw [List.mem_singleton.1 he]; rfl))) Tryz.underlying24 ni24 ty37 rfl rfl (by simp only [List.length_map, List.length_cons, List.length_nil]; omega) rfl ?_ | refine W.app 3 (.t rfl) rfl (.arr 2 (.t rfl) rfl (by first | (simp [AV.okc, shV]; done) | (intro e he; rw [List.mem_singleton.1 he]; rfl))) Tryz.underlying24 ni24 ty37 rfl rfl (by simp only [List.length_map, List.length_cons, List.length_nil]; omega) rfl ?_ | refine W.app 3 (.t rfl) rfl (.arr 3 (.t rfl) rfl (by first | (simp [AV.okc, shV]; done) | (intro e he; rw [List.mem_singleton.1 he]; rfl))) Tryz.underlying24 ni24 ty37 rfl rfl (by simp only [List.length_map, List.length_cons, List.length_nil]; omega) rfl ?_
              intro v107
              refine W.q (Ev.assign (.t rfl)) rfl ?_
              refine W.nil ?_
              refine W.blk_normal ?_
              refine W.blk_normal ?_
              refine W.then ?_
              first
              | (refine W.reach (D := []) (r2, out, v) ⟨rfl, rfl, rfl, rfl, trivial⟩ (.refl _) ⟨⟨?_, ?_, ?_, ?_, ?_⟩, ?_⟩
                 · show List.length r2 ≤ l.length; omega
                 · show Nd.szs out + 2 * r2.length ≤ 2 * l.length; omega
                 · exact hi3
                 · exact hi4
                 · exact hi5
                 · show List.length r2 < List.length (x :: r2); simp only [List.length_cons]; omega)
              | (refine W.reach (D := []) (r2, out ++ [Nd.mk [] [] s55 []], v59) ⟨rfl, rfl, rfl, rfl, trivial⟩ (by rw [Nd.map_snoc]; exact .refl _) ⟨⟨?_, ?_, ?_, ?_, ?_⟩, ?_⟩
                 · show List.length r2 ≤ l.length; omega
                 · show Nd.szs (out ++ [_]) + 2 * _ ≤ _; rw [Nd.szs_append, Nd.szs_one, Nd.sz_eq]; simp only [Nd.attrs, Nd.parts, List.length_nil, List.length_cons, Nd.szs] at *; omega
                 · exact Nd.wfs_append hi3 ⟨(Nd.wf_eq _).2 ⟨fun _ => rfl, trivial⟩, trivial⟩
                 · exact Nd.drs_snoc hi4 (fun _ => Nd.lastT_of out hc_t49) (Nd.dr_text _ _ m55)
                 · show List.length (out ++ [_]) ≤ n; rw [List.length_append, List.length_singleton]; omega
                 · show List.length r2 < List.length (x :: r2); simp only [List.length_cons]; omega)
              | (refine W.reach (D := []) (r2, out ++ [Nd.mk s68 [] [] []], v72) ⟨rfl, rfl, rfl, rfl, trivial⟩ (by rw [Nd.map_snoc]; exact .refl _) ⟨⟨?_, ?_, ?_, ?_, ?_⟩, ?_⟩
                 · show List.length r2 ≤ l.length; omega
                 · show Nd.szs (out ++ [_]) + 2 * _ ≤ _; rw [Nd.szs_append, Nd.szs_one, Nd.sz_eq]; simp only [Nd.attrs, Nd.parts, List.length_nil, List.length_cons, Nd.szs] at *; omega
                 · exact Nd.wfs_append hi3 ⟨(Nd.wf_eq _).2 ⟨fun _ => rfl, trivial⟩, trivial⟩
                 · exact Nd.drs_snoc hi4 (fun h => absurd h (Nd.ne_vd2 _ m68)) (Nd.dr_void _ _ m68)
                 · show List.length (out ++ [_]) ≤ n; rw [List.length_append, List.length_singleton]; omega
                 · show List.length r2 < List.length (x :: r2); simp only [List.length_cons]; omega)
              | (refine W.reach (D := [_]) (rest2, out ++ [Nd.mk s80 [([104, 114, 101, 102], s91)] [] ns2], v107) ⟨rfl, rfl, rfl, rfl, trivial⟩ (by rw [Nd.map_snoc]; exact List.Perm.swap _ _ []) ⟨⟨?_, ?_, ?_, ?_, ?_⟩, ?_⟩
                 · show List.length rest2 ≤ l.length; omega
                 · show Nd.szs (out ++ [_]) + 2 * _ ≤ _; rw [Nd.szs_append, Nd.szs_one, Nd.sz_eq]; simp only [Nd.attrs, Nd.parts, List.length_nil, List.length_cons, Nd.szs] at *; omega
                 · exact Nd.wfs_append hi3 ⟨(Nd.wf_eq _).2 ⟨fun h => absurd h n80, hn3⟩, trivial⟩
                 · exact Nd.drs_snoc hi4 (fun h => absurd h n80) (Nd.dr_el _ _ _ _ m80 (.inr ⟨s91, m91, rfl⟩) (by simp at hc_t73; omega) (by rw [← hdk]; exact hn4) hn5)
                 · show List.length (out ++ [_]) ≤ n; rw [List.length_append, List.length_singleton]; omega
                 · show List.length rest2 < List.length (x :: r2); simp only [List.length_cons]; omega)
              | (refine W.reach (D := [_]) (rest2, out ++ [Nd.mk s80 [] [] ns2], v107) ⟨rfl, rfl, rfl, rfl, trivial⟩ (by rw [Nd.map_snoc]; exact List.Perm.swap _ _ []) ⟨⟨?_, ?_, ?_, ?_, ?_⟩, ?_⟩
                 · show List.length rest2 ≤ l.length; omega
                 · show Nd.szs (out ++ [_]) + 2 * _ ≤ _; rw [Nd.szs_append, Nd.szs_one, Nd.sz_eq]; simp only [Nd.attrs, Nd.parts, List.length_nil, List.length_cons, Nd.szs] at *; omega
                 · exact Nd.wfs_append hi3 ⟨(Nd.wf_eq _).2 ⟨fun h => absurd h n80, hn3⟩, trivial⟩
                 · exact Nd.drs_snoc hi4 (fun h => absurd h n80) (Nd.dr_el _ _ _ _ m80 (.inl rfl) (by simp at hc_t73; omega) (by rw [← hdk]; exact hn4) hn5)
                 · show List.length (out ++ [_]) ≤ n; rw [List.length_append, List.length_singleton]; omega
                 · show List.length rest2 < List.length (x :: r2); simp only [List.length_cons]; omega)
          · refine W.skip ?_
            refine W.blk_normal ?_
            refine W.blk_normal ?_
            refine W.then ?_
            first
            | (refine W.reach (D := []) (r2, out, v) ⟨rfl, rfl, rfl, rfl, trivial⟩ (.refl _) ⟨⟨?_, ?_, ?_, ?_, ?_⟩, ?_⟩
               · show List.length r2 ≤ l.length; omega
               · show Nd.szs out + 2 * r2.length ≤ 2 * l.length; omega
               · exact hi3
               · exact hi4
               · exact hi5
               · show List.length r2 < List.length (x :: r2); simp only [List.length_cons]; omega)
            | (refine W.reach (D := []) (r2, out ++ [Nd.mk [] [] s55 []], v59) ⟨rfl, rfl, rfl, rfl, trivial⟩ (by rw [Nd.map_snoc]; exact .refl _) ⟨⟨?_, ?_, ?_, ?_, ?_⟩, ?_⟩
               · show List.length r2 ≤ l.length; omega
               · show Nd.szs (out ++ [_]) + 2 * _ ≤ _; rw [Nd.szs_append, Nd.szs_one, Nd.sz_eq]; simp only [Nd.attrs, Nd.parts, List.length_nil, List.length_cons, Nd.szs] at *; omega
               · exact Nd.wfs_append hi3 ⟨(Nd.wf_eq _).2 ⟨fun _ => rfl, trivial⟩, trivial⟩
               · exact Nd.drs_snoc hi4 (fun _ => Nd.lastT_of out hc_t49) (Nd.dr_text _ _ m55)
               · show List.length (out ++ [_]) ≤ n; rw [List.length_append, List.length_singleton]; omega
               · show List.length r2 < List.length (x :: r2); simp only [List.length_cons]; omega)
            | (refine W.reach (D := []) (r2, out ++ [Nd.mk s68 [] [] []], v72) ⟨rfl, rfl, rfl, rfl, trivial⟩ (by rw [Nd.map_snoc]; exact .refl _) ⟨⟨?_, ?_, ?_, ?_, ?_⟩, ?_⟩
               · show List.length r2 ≤ l.length; omega
               · show Nd.szs (out ++ [_]) + 2 * _ ≤ _; rw [Nd.szs_append, Nd.szs_one, Nd.sz_eq]; simp only [Nd.attrs, Nd.parts, List.length_nil, List.length_cons, Nd.szs] at *; omega
               · exact Nd.wfs_append hi3 ⟨(Nd.wf_eq _).2 ⟨fun _ => rfl, trivial⟩, trivial⟩
               · exact Nd.drs_snoc hi4 (fun h => absurd h (Nd.ne_vd2 _ m68)) (Nd.dr_void _ _ m68)
               · show List.length (out ++ [_]) ≤ n; rw [List.length_append, List.length_singleton]; omega
               · show List.length r2 < List.length (x :: r2); simp only [List.length_cons]; omega)
            | (refine W.reach (D := [_]) (rest2, out ++ [Nd.mk s80 [([104, 114, 101, 102], s91)] [] ns2], v107) ⟨rfl, rfl, rfl, rfl, trivial⟩ (by rw [Nd.map_snoc]; exact List.Perm.swap _ _ []) ⟨⟨?_, ?_, ?_, ?_, ?_⟩, ?_⟩
               · show List.length rest2 ≤ l.length; omega
               · show Nd.szs (out ++ [_]) + 2 * _ ≤ _; rw [Nd.szs_append, Nd.szs_one, Nd.sz_eq]; simp only [Nd.attrs, Nd.parts, List.length_nil, List.length_cons, Nd.szs] at *; omega
               · exact Nd.wfs_append hi3 ⟨(Nd.wf_eq _).2 ⟨fun h => absurd h n80, hn3⟩, trivial⟩
               · exact Nd.drs_snoc hi4 (fun h => absurd h n80) (Nd.dr_el _ _ _ _ m80 (.inr ⟨s91, m91, rfl⟩) (by simp at hc_t73; omega) (by rw [← hdk]; exact hn4) hn5)
               · show List.length (out ++ [_]) ≤ n; rw [List.length_append, List.length_singleton]; omega
               · show List.length rest2 < List.length (x :: r2); simp only [List.length_cons]; omega)
            | (refine W.reach (D := [_]) (rest2, out ++ [Nd.mk s80 [] [] ns2], v107) ⟨rfl, rfl, rfl, rfl, trivial⟩ (by rw [Nd.map_snoc]; exact List.Perm.swap _ _ []) ⟨⟨?_, ?_, ?_, ?_, ?_⟩, ?_⟩
               · show List.length rest2 ≤ l.length; omega
               · show Nd.szs (out ++ [_]) + 2 * _ ≤ _; rw [Nd.szs_append, Nd.szs_one, Nd.sz_eq]; simp only [Nd.attrs, Nd.parts, List.length_nil, List.length_cons, Nd.szs] at *; omega
               · exact Nd.wfs_append hi3 ⟨(Nd.wf_eq _).2 ⟨fun h => absurd h n80, hn3⟩, trivial⟩
               · exact Nd.drs_snoc hi4 (fun h => absurd h n80) (Nd.dr_el _ _ _ _ m80 (.inl rfl) (by simp at hc_t73; omega) (by rw [← hdk]; exact hn4) hn5)
               · show List.length (out ++ [_]) ≤ n; rw [List.length_append, List.length_singleton]; omega
               · show List.length rest2 < List.length (x :: r2); simp only [List.length_cons]; omega)
  · refine W.exit ?_
    refine W.then_exit ?_
    refine W.then_exit ?_
    refine W.blk_hit ?_
    refine W.then ?_
    refine W.seq ?_
    refine W.region ?_
    refine W.q (Ev.move (.t rfl)) rfl ?_
    refine W.q (Ev.move (.t rfl)) rfl ?_
    refine W.q (Ev.assign (.t rfl)) rfl ?_
    refine W.q (Ev.assign (.t rfl)) rfl ?_
    refine W.nil ?_
    refine W.then ?_
    refine W.ret ?_
    refine W.retn (M' := [.arr v 37 4 _]) (rs := [.tmp 6, .tmp 7]) (avs := [_, _]) Tryz.results4 ⟨rfl, rfl, trivial⟩ rfl (.refl _) ?_
    exact ⟨v, out, _, rfl, rfl, by omega, by omega, hi3, hi4, hi5⟩

theorem c_Nodes (l : List Int) (hl : l.length ≤ 1048576) (deep : Int) (n : Nat) (hd0 : 0 ≤ deep) (hd1 : deep ≤ 1000) (hn : n ≤ 1000) : FnC Tryz.prog 4 [.sl 1 (l.map AV.int), .int deep, .int (n : Int)] [] (fun r M => ∃ (v : Value) (ns : List Nd) (rest : List Int), r = .tup [.lit v, .sl 1 (rest.map AV.int)] ∧ M = [.arr v 37 4 (ns.map Nd.av)] ∧ Nd.szs ns + 2 * rest.length ≤ 2 * l.length ∧ rest.length ≤ l.length ∧ Nd.wfs ns ∧ Nd.drs deep.toNat false ns ∧ ns.length ≤ n) := by
  suffices H : ∀ m, m ≤ 1048576 → ∀ l : List Int, l.length = m → ∀ (deep : Int) (n : Nat), 0 ≤ deep → deep ≤ 1000 → n ≤ 1000 → FnC Tryz.prog 4 [.sl 1 (l.map AV.int), .int deep, .int (n : Int)] [] (fun r M => ∃ (v : Value) (ns : List Nd) (rest : List Int), r = .tup [.lit v, .sl 1 (rest.map AV.int)] ∧ M = [.arr v 37 4 (ns.map Nd.av)] ∧ Nd.szs ns + 2 * rest.length ≤ 2 * l.length ∧ rest.length ≤ l.length ∧ Nd.wfs ns ∧ Nd.drs deep.toNat false ns ∧ ns.length ≤ n) from H _ hl l rfl deep n hd0 hd1 hn
  intro m
  induction m using Nat.strongRecOn with
  | _ m ih => exact fun hm l hl' deep n h0 h1 h2 => c_Nodes_step l (by omega) (fun l' h' => ih l'.length (by omega) (by omega) l' rfl) deep n h0 h1 h2

end WNodes

end Go.Proofs.YtgjndpgcpohnoaaGreatDoor
end

section
set_option linter.unusedVariables false
set_option linter.unusedSimpArgs false
set_option maxRecDepth 100000
namespace Go.Proofs.YtgjndpgcpohnoaaGreatDoor
open Go.Vl

namespace WCopied
theorem ty24 : Ty Tryz.prog 24 1 24 (.slice none 0 0) := Ty.of (by kernel_rfl)
theorem ty34 : Ty Tryz.prog 34 2 32 (.agg #[.string ⟨#[]⟩, .string ⟨#[]⟩]) := Ty.of (by kernel_rfl)
theorem ty35 : Ty Tryz.prog 35 1 24 (.slice none 0 0) := Ty.of (by kernel_rfl)
theorem ty37 : Ty Tryz.prog 37 4 80 (.agg #[.string ⟨#[]⟩, .slice none 0 0, .string ⟨#[]⟩, .slice none 0 0]) := Ty.of (by kernel_rfl)
theorem ag24 : IsAgg Tryz.prog 24 false := ⟨_, Tryz.underlying24, rfl⟩
theorem ag35 : IsAgg Tryz.prog 35 false := ⟨_, Tryz.underlying35, rfl⟩
theorem ag37 : IsAgg Tryz.prog 37 true := ⟨_, Tryz.underlying37, rfl⟩
theorem fa37_1 : FieldAt Tryz.prog 37 1 1 1 false := ⟨_, _, Tryz.underlying37, rfl, rfl, ty35.size, ag35, by decide⟩
theorem fa37_3 : FieldAt Tryz.prog 37 3 3 1 false := ⟨_, _, Tryz.underlying37, rfl, rfl, ty24.size, ag24, by decide⟩
theorem ni24 : NotInt Tryz.prog 24 := .inl ⟨_, Tryz.underlying24⟩
theorem ni35 : NotInt Tryz.prog 35 := .inl ⟨_, Tryz.underlying35⟩
theorem c_copied_step (n : Nat) (hn : n ≤ 16777216) (ih : ∀ l, Nd.szs l < n → FnP Tryz.prog 5 [.sl 4 (l.map Nd.av)] (.sl 4 (l.map Nd.av))) (l : List Nd) (hl : Nd.szs l = n) : FnP Tryz.prog 5 [.sl 4 (l.map Nd.av)] (.sl 4 (l.map Nd.av)) :=  by
  refine FnC.mk Tryz.func5 (by kernel_rfl) rfl Tryz.ntmps5 rfl (fun w0 F => ?_)
  have hll : (l.map Nd.av).length = l.length := List.length_map ..
  have hsl := Nd.szs_len l
  refine W.seq ?_
  refine W.region ?_
  refine W.q (Ev.assign .k) rfl ?_
  refine W.nil ?_
  refine W.then ?_
  refine W.seq ?_
  refine W.region ?_
  refine W.q (Ev.assign .k) rfl ?_
  refine W.nil ?_
  refine W.then ?_
  refine W.seq ?_
  refine W.seq ?_
  refine W.region ?_
  refine W.q (Ev.assign .k) rfl ?_
  refine W.nil ?_
  refine W.then ?_
  refine W.block ?_
  refine W.own_nil 37 4 ?_
  refine W.loop (D := []) (ι := Nat × Value) (fun z => [(4, true, .int (z.1 : Int)), (0, true, .sl 4 (l.map Nd.av)), (3, true, .lit z.2)]) (fun z => [.arr z.2 37 4 ((l.take z.1).map Nd.av)]) (fun z => z.1 ≤ l.length) (fun z => l.length - z.1) (0, .slice none 0 0) ⟨rfl, rfl, rfl, trivial⟩ (.refl _) (Nat.zero_le _) ?_
  rintro ⟨i, v⟩ hi
  dsimp only at hi ⊢
  rcases (show i < l.length ∨ i = l.length from by omega) with hlt | hend
  · have hga := Nd.at_av l i hlt
    have hsz := Nd.at_sz l i hlt
    generalize hd : l.getD i Nd.dflt = d at hga hsz
    have hse := Nd.sz_eq d
    have hsp := Nd.szs_len d.parts
    have hat : (d.attrs.map dav).length = d.attrs.length := List.length_map ..
    have hsn := Nd.take_snoc l i hlt
    rw [hd] at hsn
    refine W.seq ?_
    refine W.seq ?_
    refine W.region ?_
    refine W.q (Ev.move (.t rfl)) rfl ?_
    refine W.q (Ev.move (.t rfl)) rfl ?_
    first | refine W.q (Ev.lensl (.t rfl) Tryz.underlying24) rfl ?_ | refine W.q (Ev.lenar (i := 0) (.t rfl) rfl Tryz.underlying24) rfl ?_ | refine W.q (Ev.lenar (i := 1) (.t rfl) rfl Tryz.underlying24) rfl ?_ | refine W.q (Ev.lenar (i := 2) (.t rfl) rfl Tryz.underlying24) rfl ?_ | refine W.q (Ev.lenar (i := 3) (.t rfl) rfl Tryz.underlying24) rfl ?_
    refine W.q (Ev.lti (.t rfl) (.t rfl)) rfl ?_
    refine W.nil ?_
    refine W.then ?_
    refine W.is (t := 9) (g := true) (av' := .lit (.bool true)) rfl (congrArg (fun b => AV.lit (.bool b)) (by simp; omega)) ?_
    refine W.condT (.t rfl) ?_
    refine W.skip ?_
    refine W.then ?_
    refine W.seq ?_
    refine W.block ?_
    refine W.seq ?_
    refine W.region ?_
    refine W.q (Ev.move (.t rfl)) rfl ?_
    refine W.q (Ev.move (.t rfl)) rfl ?_
    refine W.q (Ev.at (E := 37) (.t rfl) (.t rfl) Tryz.underlying24 ty37 (fun _ => ⟨by omega, hga⟩) rfl rfl) rfl ?_
    first | refine W.q (Ev.lden (.t rfl) ag37 ty37 rfl rfl) rfl ?_ | refine W.q (Ev.ldbn 0 (.t rfl) rfl ag37 ty37 rfl) rfl ?_ | refine W.q (Ev.ldbn 1 (.t rfl) rfl ag37 ty37 rfl) rfl ?_ | refine W.q (Ev.ldbn 2 (.t rfl) rfl ag37 ty37 rfl) rfl ?_ | refine W.q (Ev.ldbn 3 (.t rfl) rfl ag37 ty37 rfl) rfl ?_
    refine W.alloc ty37 rfl rfl ?_
    intro b5
    first | refine W.stb 0 (.t rfl) (.t rfl) rfl ty37 rfl rfl rfl ?_ | refine W.stb 1 (.t rfl) (.t rfl) rfl ty37 rfl rfl rfl ?_ | refine W.stb 2 (.t rfl) (.t rfl) rfl ty37 rfl rfl rfl ?_ | refine W.stb 3 (.t rfl) (.t rfl) rfl ty37 rfl rfl rfl ?_
    refine W.nil ?_
    refine W.then ?_
    refine W.seq ?_
    refine W.region ?_
    first | refine W.q (Ev.fae (.t rfl) fa37_1 rfl) rfl ?_ | refine W.q (Ev.fab (.t rfl) fa37_1) rfl ?_ | refine W.q (Ev.faa (.t rfl) fa37_1) rfl ?_
    first | refine W.q (Ev.lde1 (.t rfl) ag35) rfl ?_ | refine W.q (Ev.ldb1 0 (.t rfl) rfl ag35 rfl) rfl ?_ | refine W.q (Ev.ldb1 1 (.t rfl) rfl ag35 rfl) rfl ?_ | refine W.q (Ev.ldb1 2 (.t rfl) rfl ag35 rfl) rfl ?_ | refine W.q (Ev.ldb1 3 (.t rfl) rfl ag35 rfl) rfl ?_
    first | refine W.appn .k (.sl (.t rfl) (okc_davs d.attrs)) Tryz.underlying35 ni35 ty34 rfl rfl (by omega) rfl ?_ | refine W.appn .k (.arr 0 (.t rfl) rfl (okc_davs d.attrs)) Tryz.underlying35 ni35 ty34 rfl rfl (by omega) rfl ?_ | refine W.appn .k (.arr 1 (.t rfl) rfl (okc_davs d.attrs)) Tryz.underlying35 ni35 ty34 rfl rfl (by omega) rfl ?_ | refine W.appn .k (.arr 2 (.t rfl) rfl (okc_davs d.attrs)) Tryz.underlying35 ni35 ty34 rfl rfl (by omega) rfl ?_ | refine W.appn .k (.arr 3 (.t rfl) rfl (okc_davs d.attrs)) Tryz.underlying35 ni35 ty34 rfl rfl (by omega) rfl ?_
    intro v18
    refine W.arr_inv 0 rfl (fun a18 n18 c18 h18 => ?_)
    subst h18
    first | refine W.q (Ev.fae (.t rfl) fa37_1 rfl) rfl ?_ | refine W.q (Ev.fab (.t rfl) fa37_1) rfl ?_ | refine W.q (Ev.faa (.t rfl) fa37_1) rfl ?_
    first | refine W.stb 0 (.t rfl) (.t rfl) rfl ty35 rfl rfl rfl ?_ | refine W.stb 1 (.t rfl) (.t rfl) rfl ty35 rfl rfl rfl ?_ | refine W.stb 2 (.t rfl) (.t rfl) rfl ty35 rfl rfl rfl ?_ | refine W.stb 3 (.t rfl) (.t rfl) rfl ty35 rfl rfl rfl ?_
    refine W.nil ?_
    refine W.then ?_
    refine W.seq ?_
    refine W.region ?_
    refine W.freeze (M1 := [.box b5 37 _, .arr v 37 4 _]) (M2 := [.box b5 37 [.str d.name, .sl 2 (d.attrs.map dav), .str d.text, .sl 4 (d.parts.map Nd.av)], .arr v 37 4 ((l.take i).map Nd.av)]) (D := []) (L' := [(5, true, .lit (.pointer (some ⟨b5, 0, none⟩))), (4, true, .int (i : Int)), (0, true, .sl 4 (l.map Nd.av)), (3, true, .lit v)]) (.refl _) ⟨⟨_, rfl, .one (.refl _)⟩, ⟨_, rfl, .one (.refl _)⟩, ⟨_, rfl, .one (.refl _)⟩, ⟨_, rfl, .one (.refl _)⟩, trivial⟩ ⟨.box ⟨.refl _, .hit, .refl _, .refl _, trivial⟩, .refl _, trivial⟩ ?_
    first | refine W.q (Ev.fae (.t rfl) fa37_3 rfl) rfl ?_ | refine W.q (Ev.fab (.t rfl) fa37_3) rfl ?_ | refine W.q (Ev.faa (.t rfl) fa37_3) rfl ?_
    first | refine W.q (Ev.lde1 (.t rfl) ag24) rfl ?_ | refine W.q (Ev.ldb1 0 (.t rfl) rfl ag24 rfl) rfl ?_ | refine W.q (Ev.ldb1 1 (.t rfl) rfl ag24 rfl) rfl ?_ | refine W.q (Ev.ldb1 2 (.t rfl) rfl ag24 rfl) rfl ?_ | refine W.q (Ev.ldb1 3 (.t rfl) rfl ag24 rfl) rfl ?_
    refine W.callp (ih d.parts (by omega)) ⟨(.t rfl), trivial⟩ rfl ?_
    first | refine W.q (Ev.fae (.t rfl) fa37_3 rfl) rfl ?_ | refine W.q (Ev.fab (.t rfl) fa37_3) rfl ?_ | refine W.q (Ev.faa (.t rfl) fa37_3) rfl ?_
    first | refine W.stb 0 (.t rfl) (.t rfl) rfl ty24 rfl rfl rfl ?_ | refine W.stb 1 (.t rfl) (.t rfl) rfl ty24 rfl rfl rfl ?_ | refine W.stb 2 (.t rfl) (.t rfl) rfl ty24 rfl rfl rfl ?_ | refine W.stb 3 (.t rfl) (.t rfl) rfl ty24 rfl rfl rfl ?_
    refine W.nil ?_
    refine W.then ?_
    refine W.region ?_
    refine W.q (Ev.move (.t rfl)) rfl ?_
    first | refine W.q (Ev.lden (.t rfl) ag37 ty37 rfl rfl) rfl ?_ | refine W.q (Ev.ldbn 0 (.t rfl) rfl ag37 ty37 rfl) rfl ?_ | refine W.q (Ev.ldbn 1 (.t rfl) rfl ag37 ty37 rfl) rfl ?_ | refine W.q (Ev.ldbn 2 (.t rfl) rfl ag37 ty37 rfl) rfl ?_ | refine W.q (Ev.ldbn 3 (.t rfl) rfl ag37 ty37 rfl) rfl ?_
    refine W.bs (es := [_]) Tryz.underlying24 ty37 ⟨rfl, (.t rfl), rfl, rfl, trivial⟩ rfl (by decide) rfl rfl ?_
    first | refine W.app 0 (.t rfl) rfl (.sl (.t rfl) (by simp [AV.okc, shV])) Tryz.underlying24 ni24 ty37 rfl rfl (by simp; omega) rfl ?_ | refine W.app 1 (.t rfl) rfl (.sl (.t rfl) (by simp [AV.okc, shV])) Tryz.underlying24 ni24 ty37 rfl rfl (by simp; omega) rfl ?_ | refine W.app 2 (.t rfl) rfl (.sl (.t rfl) (by simp [AV.okc, shV])) Tryz.underlying24 ni24 ty37 rfl rfl (by simp; omega) rfl ?_ | refine W.app 3 (.t rfl) rfl (.sl (.t rfl) (by simp [AV.okc, shV])) Tryz.underlying24 ni24 ty37 rfl rfl (by simp; omega) rfl ?_ | refine W.app 0 (.t rfl) rfl (.arr 0 (.t rfl) rfl (by simp [AV.okc, shV])) Tryz.underlying24 ni24 ty37 rfl rfl (by simp; omega) rfl ?_ | refine W.app 0 (.t rfl) rfl (.arr 1 (.t rfl) rfl (by simp [AV.okc, shV])) Tryz.underlying24 ni24 ty37 rfl rfl (by simp; omega) rfl ?_ | refine W.app 0 (.t rfl) rfl (.arr 2 (.t rfl) rfl (by simp [AV.okc, shV])) Tryz.underlying24 ni24 ty37 rfl rfl (by simp; omega) rfl ?_ | refine W.app 0 (.t rfl) rfl (.arr 3 (.t rfl) rfl (by simp [AV.okc, shV])) Tryz.underlying24 ni24 ty37 rfl rfl (by simp; omega) rfl ?_ | refine W.app 1 (.t rfl) rfl (.arr 0 (.t rfl) rfl (by simp [AV.okc, shV])) Tryz.underlying24 ni24 ty37 rfl rfl (by simp; omega) rfl ?_ | refine W.app 1 (.t rfl) rfl (.arr 1 (.t rfl) rfl (by simp [AV.okc, shV])) Tryz.underlying24 ni24 ty37 rfl rfl (by simp; omega) rfl ?_ | refine W.app 1 (.t rfl) rfl (.arr 2 (.t rfl) rfl (by simp [AV.okc, shV])) Tryz.underlying24 ni24 ty37 rfl rfl (by simp; omega) rfl ?_ | refine W.app 1 (.t rfl) rfl (.arr 3 (.t rfl) rfl (by simp [AV.okc, shV])) Tryz.underlying24 ni24 ty37 rfl rfl (by simp; omega) rfl ?_ | refine W.app 2 (.t rfl) rfl (.arr 0 (.t rfl) rfl (by simp [AV.okc, shV])) Tryz.underlying24 ni24 ty37 rfl rfl (by simp; omega) rfl ?_ | refine W.app 2 (.t rfl) rfl (.arr 1 (.t rfl) rfl (by simp [AV.okc, shV])) Tryz.underlying24 ni24 ty37 rfl rfl (by simp; omega) rfl ?_ | refine W.app 2 (.t rfl) rfl (.arr 2 (.t rfl) rfl (by simp [AV.okc, shV])) Tryz.underlying24 ni24 ty37 rfl rfl (by simp; omega) rfl ?_ | refine W.app 2 (.t rfl) rfl (.arr 3 (.t rfl) rfl (by simp [AV.okc, shV])) Tryz.underlying24 ni24 ty37 rfl rfl (by simp; omega) rfl ?_ | refine W.app 3 (.t rfl) rfl (.arr 0 (.t rfl) rfl (by simp [AV.okc, shV])) Tryz.underlying24 ni24 ty37 rfl rfl (by simp; omega) rfl ?_ | refine W.app 3 (.t rfl) rfl (.arr 1 (.t rfl) rfl (by simp [AV.okc, shV])) Tryz.underlying24 ni24 ty37 rfl rfl (by simp; omega) rfl ?_ | refine W.app 3 (.t rfl) rfl (.arr 2 (.t rfl) rfl (by simp [AV.okc, shV])) Tryz.underlying24 ni24 ty37 rfl rfl (by simp; omega) rfl ?_ | refine W.app 3 (.t rfl) rfl (.arr 3 (.t rfl) rfl (by simp [AV.okc, shV])) Tryz.underlying24 ni24 ty37 rfl rfl (by simp; omega) rfl ?_
    intro v27
    refine W.q (Ev.assign (.t rfl)) rfl ?_
    refine W.nil ?_
    refine W.blk_normal ?_
    refine W.then ?_
    refine W.region ?_
    refine W.q (Ev.move (.t rfl)) rfl ?_
    first | refine W.q (Ev.add (.t rfl) .k (fun _ => by omega)) rfl ?_ | refine W.q (Ev.addw (.t rfl) .k) rfl ?_
    refine W.q (Ev.assign (.t rfl)) rfl ?_
    refine W.nil ?_
    refine W.then ?_
    refine W.reach (D := [_]) (i + 1, v27) ⟨rfl, rfl, rfl, trivial⟩ (by rw [hsn]; exact List.Perm.swap _ _ []) ⟨by show i + 1 ≤ _; omega, by show _ - (i + 1) < _; omega⟩
  · have he : l.take i = l := List.take_of_length_le (by omega)
    rw [he]
    refine W.seq ?_
    refine W.seq ?_
    refine W.region ?_
    refine W.q (Ev.move (.t rfl)) rfl ?_
    refine W.q (Ev.move (.t rfl)) rfl ?_
    first | refine W.q (Ev.lensl (.t rfl) Tryz.underlying24) rfl ?_ | refine W.q (Ev.lenar (i := 0) (.t rfl) rfl Tryz.underlying24) rfl ?_ | refine W.q (Ev.lenar (i := 1) (.t rfl) rfl Tryz.underlying24) rfl ?_ | refine W.q (Ev.lenar (i := 2) (.t rfl) rfl Tryz.underlying24) rfl ?_ | refine W.q (Ev.lenar (i := 3) (.t rfl) rfl Tryz.underlying24) rfl ?_
    refine W.q (Ev.lti (.t rfl) (.t rfl)) rfl ?_
    refine W.nil ?_
    refine W.then ?_
    refine W.is (t := 9) (g := true) (av' := .lit (.bool false)) rfl (congrArg (fun b => AV.lit (.bool b)) (by simp; omega)) ?_
    refine W.condF (.t rfl) ?_
    refine W.exit ?_
    refine W.then_exit ?_
    refine W.then_exit ?_
    refine W.blk_hit ?_
    refine W.then ?_
    refine W.seq ?_
    refine W.region ?_
    refine W.q (Ev.move (.t rfl)) rfl ?_
    refine W.q (Ev.assign (.t rfl)) rfl ?_
    refine W.nil ?_
    refine W.then ?_
    refine W.ret ?_
    refine W.freeze (M1 := []) (M2 := []) (D := _) (v := v) (L' := [(2, true, .sl 4 (l.map Nd.av))]) (.refl _) ⟨⟨_, rfl, .one .hit⟩, trivial⟩ trivial ?_
    refine W.retn (M' := []) (rs := [.tmp 2]) (avs := [_]) Tryz.results5 ⟨rfl, trivial⟩ rfl (.refl _) ?_
    exact ⟨rfl, rfl⟩

theorem c_copied (l : List Nd) (hl : Nd.szs l ≤ 16777216) : FnP Tryz.prog 5 [.sl 4 (l.map Nd.av)] (.sl 4 (l.map Nd.av)) := by
  suffices H : ∀ n, n ≤ 16777216 → ∀ l, Nd.szs l = n → FnP Tryz.prog 5 [.sl 4 (l.map Nd.av)] (.sl 4 (l.map Nd.av)) from H _ hl l rfl
  intro n
  induction n using Nat.strongRecOn with
  | _ n ih => exact fun hn l hl => c_copied_step n hn (fun l' h' => ih _ h' (by omega) l' rfl) l hl

end WCopied

end Go.Proofs.YtgjndpgcpohnoaaGreatDoor
end

section
set_option linter.unusedVariables false
set_option linter.unusedSimpArgs false
set_option maxRecDepth 100000
namespace Go.Proofs.YtgjndpgcpohnoaaGreatDoor
open Go.Vl

namespace WSame
theorem ty9 : Ty Tryz.prog 9 1 16 (.string ⟨#[]⟩) := Ty.of (by kernel_rfl)
theorem ty24 : Ty Tryz.prog 24 1 24 (.slice none 0 0) := Ty.of (by kernel_rfl)
theorem ty34 : Ty Tryz.prog 34 2 32 (.agg #[.string ⟨#[]⟩, .string ⟨#[]⟩]) := Ty.of (by kernel_rfl)
theorem ty35 : Ty Tryz.prog 35 1 24 (.slice none 0 0) := Ty.of (by kernel_rfl)
theorem ty37 : Ty Tryz.prog 37 4 80 (.agg #[.string ⟨#[]⟩, .slice none 0 0, .string ⟨#[]⟩, .slice none 0 0]) := Ty.of (by kernel_rfl)
theorem ag9 : IsAgg Tryz.prog 9 false := ⟨_, Tryz.underlying9, rfl⟩
theorem ag24 : IsAgg Tryz.prog 24 false := ⟨_, Tryz.underlying24, rfl⟩
theorem ag34 : IsAgg Tryz.prog 34 true := ⟨_, Tryz.underlying34, rfl⟩
theorem ag35 : IsAgg Tryz.prog 35 false := ⟨_, Tryz.underlying35, rfl⟩
theorem fa37_0 : FieldAt Tryz.prog 37 0 0 1 false := ⟨_, _, Tryz.underlying37, rfl, rfl, ty9.size, ag9, by decide⟩
theorem fa37_1 : FieldAt Tryz.prog 37 1 1 1 false := ⟨_, _, Tryz.underlying37, rfl, rfl, ty35.size, ag35, by decide⟩
theorem fa37_2 : FieldAt Tryz.prog 37 2 2 1 false := ⟨_, _, Tryz.underlying37, rfl, rfl, ty9.size, ag9, by decide⟩
theorem fa37_3 : FieldAt Tryz.prog 37 3 3 1 false := ⟨_, _, Tryz.underlying37, rfl, rfl, ty24.size, ag24, by decide⟩
theorem s2_34 : Str2 Tryz.prog 34 := Str2.of Tryz.underlying34 (by kernel_rfl) (by kernel_rfl) (by decide) (by decide) rfl rfl Tryz.underlying9 Tryz.underlying9
theorem c_same_step (n : Nat) (hn : n ≤ 16777216) (ih : ∀ l, Nd.szs l < n → FnP Tryz.prog 8 [.sl 4 (l.map Nd.av), .sl 4 (l.map Nd.av)] (.bool true)) (l : List Nd) (hl : Nd.szs l = n) : FnP Tryz.prog 8 [.sl 4 (l.map Nd.av), .sl 4 (l.map Nd.av)] (.bool true) :=  by
  refine FnC.mk Tryz.func8 (by kernel_rfl) rfl Tryz.ntmps8 rfl (fun w0 F => ?_)
  have hll : (l.map Nd.av).length = l.length := List.length_map ..
  have hsl := Nd.szs_len l
  refine W.seq ?_
  refine W.region ?_
  refine W.q (Ev.assign .k) rfl ?_
  refine W.nil ?_
  refine W.then ?_
  refine W.seq ?_
  refine W.seq ?_
  refine W.region ?_
  refine W.q (Ev.move (.t rfl)) rfl ?_
  first | refine W.q (Ev.lensl (.t rfl) Tryz.underlying24) rfl ?_ | refine W.q (Ev.lenar (i := 0) (.t rfl) rfl Tryz.underlying24) rfl ?_ | refine W.q (Ev.lenar (i := 1) (.t rfl) rfl Tryz.underlying24) rfl ?_ | refine W.q (Ev.lenar (i := 2) (.t rfl) rfl Tryz.underlying24) rfl ?_ | refine W.q (Ev.lenar (i := 3) (.t rfl) rfl Tryz.underlying24) rfl ?_
  refine W.q (Ev.move (.t rfl)) rfl ?_
  first | refine W.q (Ev.lensl (.t rfl) Tryz.underlying24) rfl ?_ | refine W.q (Ev.lenar (i := 0) (.t rfl) rfl Tryz.underlying24) rfl ?_ | refine W.q (Ev.lenar (i := 1) (.t rfl) rfl Tryz.underlying24) rfl ?_ | refine W.q (Ev.lenar (i := 2) (.t rfl) rfl Tryz.underlying24) rfl ?_ | refine W.q (Ev.lenar (i := 3) (.t rfl) rfl Tryz.underlying24) rfl ?_
  refine W.q (Ev.nei (.t rfl) (.t rfl)) rfl ?_
  refine W.nil ?_
  refine W.then ?_
  refine W.is (t := 11) (g := true) (av' := .lit (.bool false)) rfl (congrArg (fun b => AV.lit (.bool b)) (by simp)) ?_
  refine W.condF (.t rfl) ?_
  refine W.skip ?_
  refine W.then ?_
  refine W.seq ?_
  refine W.seq ?_
  refine W.region ?_
  refine W.q (Ev.assign .k) rfl ?_
  refine W.nil ?_
  refine W.then ?_
  refine W.block ?_
  refine W.loop (D := []) (ι := Nat) (fun i => [(5, true, .int (i : Int)), (0, true, .sl 4 (l.map Nd.av)), (1, true, .sl 4 (l.map Nd.av))]) (fun _ => []) (fun i => i ≤ l.length) (fun i => l.length - i) 0 ⟨rfl, rfl, rfl, trivial⟩ (.refl _) (Nat.zero_le _) ?_
  intro i hi
  dsimp only at hi ⊢
  rcases (show i < l.length ∨ i = l.length from by omega) with hlt | hend
  · have hga := Nd.at_av l i hlt
    have hsz := Nd.at_sz l i hlt
    generalize hd : l.getD i Nd.dflt = d at hga hsz
    have hse := Nd.sz_eq d
    have hsp := Nd.szs_len d.parts
    have hat : (d.attrs.map dav).length = d.attrs.length := List.length_map ..
    refine W.seq ?_
    refine W.seq ?_
    refine W.region ?_
    refine W.q (Ev.move (.t rfl)) rfl ?_
    refine W.q (Ev.move (.t rfl)) rfl ?_
    first | refine W.q (Ev.lensl (.t rfl) Tryz.underlying24) rfl ?_ | refine W.q (Ev.lenar (i := 0) (.t rfl) rfl Tryz.underlying24) rfl ?_ | refine W.q (Ev.lenar (i := 1) (.t rfl) rfl Tryz.underlying24) rfl ?_ | refine W.q (Ev.lenar (i := 2) (.t rfl) rfl Tryz.underlying24) rfl ?_ | refine W.q (Ev.lenar (i := 3) (.t rfl) rfl Tryz.underlying24) rfl ?_
    refine W.q (Ev.lti (.t rfl) (.t rfl)) rfl ?_
    refine W.nil ?_
    refine W.then ?_
    refine W.is (t := 15) (g := true) (av' := .lit (.bool true)) rfl (congrArg (fun b => AV.lit (.bool b)) (by simp; omega)) ?_
    refine W.condT (.t rfl) ?_
    refine W.skip ?_
    refine W.then ?_
    refine W.seq ?_
    refine W.block ?_
    refine W.seq ?_
    refine W.seq ?_
    refine W.drawnE (ι := Unit) (fun _ _ => _) 53 () (by kernel_rfl) (by kernel_rfl) rfl ?_
    refine DE.q (fun e c hk => (Ev.move (.t rfl))) rfl (fun _ _ => rfl) (by first | exact .inr (fun _ _ => rfl) | exact .inl (by kernel_rfl)) ?_
    refine DE.q (fun e c hk => (Ev.move (.t rfl))) rfl (fun _ _ => rfl) (by first | exact .inr (fun _ _ => rfl) | exact .inl (by kernel_rfl)) ?_
    refine DE.q (fun e c hk => Ev.at (E := 37) (.t rfl) (.t rfl) Tryz.underlying24 ty37 (fun _ => ⟨by omega, hga⟩) rfl rfl) rfl (fun _ _ => rfl) (by first | exact .inr (fun _ _ => rfl) | exact .inl (by kernel_rfl)) ?_
    first | refine DE.q (fun e c hk => (Ev.fae (.t rfl) fa37_0 rfl)) rfl (fun _ _ => rfl) (by first | exact .inr (fun _ _ => rfl) | exact .inl (by kernel_rfl)) ?_ | refine DE.q (fun e c hk => (Ev.fab (.t rfl) fa37_0)) rfl (fun _ _ => rfl) (by first | exact .inr (fun _ _ => rfl) | exact .inl (by kernel_rfl)) ?_ | refine DE.q (fun e c hk => (Ev.faa (.t rfl) fa37_0)) rfl (fun _ _ => rfl) (by first | exact .inr (fun _ _ => rfl) | exact .inl (by kernel_rfl)) ?_
    first | refine DE.q (fun e c hk => (Ev.lde1 (.t rfl) ag9)) rfl (fun _ _ => rfl) (by first | exact .inr (fun _ _ => rfl) | exact .inl (by kernel_rfl)) ?_ | refine DE.q (fun e c hk => (Ev.ldb1 0 (.t rfl) rfl ag9 rfl)) rfl (fun _ _ => rfl) (by first | exact .inr (fun _ _ => rfl) | exact .inl (by kernel_rfl)) ?_ | refine DE.q (fun e c hk => (Ev.ldb1 1 (.t rfl) rfl ag9 rfl)) rfl (fun _ _ => rfl) (by first | exact .inr (fun _ _ => rfl) | exact .inl (by kernel_rfl)) ?_ | refine DE.q (fun e c hk => (Ev.ldb1 2 (.t rfl) rfl ag9 rfl)) rfl (fun _ _ => rfl) (by first | exact .inr (fun _ _ => rfl) | exact .inl (by kernel_rfl)) ?_ | refine DE.q (fun e c hk => (Ev.ldb1 3 (.t rfl) rfl ag9 rfl)) rfl (fun _ _ => rfl) (by first | exact .inr (fun _ _ => rfl) | exact .inl (by kernel_rfl)) ?_
    refine DE.q (fun e c hk => (Ev.move (.t rfl))) rfl (fun _ _ => rfl) (by first | exact .inr (fun _ _ => rfl) | exact .inl (by kernel_rfl)) ?_
    refine DE.q (fun e c hk => (Ev.move (.t rfl))) rfl (fun _ _ => rfl) (by first | exact .inr (fun _ _ => rfl) | exact .inl (by kernel_rfl)) ?_
    refine DE.q (fun e c hk => Ev.at (E := 37) (.t rfl) (.t rfl) Tryz.underlying24 ty37 (fun _ => ⟨by omega, hga⟩) rfl rfl) rfl (fun _ _ => rfl) (by first | exact .inr (fun _ _ => rfl) | exact .inl (by kernel_rfl)) ?_
    first | refine DE.q (fun e c hk => (Ev.fae (.t rfl) fa37_0 rfl)) rfl (fun _ _ => rfl) (by first | exact .inr (fun _ _ => rfl) | exact .inl (by kernel_rfl)) ?_ | refine DE.q (fun e c hk => (Ev.fab (.t rfl) fa37_0)) rfl (fun _ _ => rfl) (by first | exact .inr (fun _ _ => rfl) | exact .inl (by kernel_rfl)) ?_ | refine DE.q (fun e c hk => (Ev.faa (.t rfl) fa37_0)) rfl (fun _ _ => rfl) (by first | exact .inr (fun _ _ => rfl) | exact .inl (by kernel_rfl)) ?_
    first | refine DE.q (fun e c hk => (Ev.lde1 (.t rfl) ag9)) rfl (fun _ _ => rfl) (by first | exact .inr (fun _ _ => rfl) | exact .inl (by kernel_rfl)) ?_ | refine DE.q (fun e c hk => (Ev.ldb1 0 (.t rfl) rfl ag9 rfl)) rfl (fun _ _ => rfl) (by first | exact .inr (fun _ _ => rfl) | exact .inl (by kernel_rfl)) ?_ | refine DE.q (fun e c hk => (Ev.ldb1 1 (.t rfl) rfl ag9 rfl)) rfl (fun _ _ => rfl) (by first | exact .inr (fun _ _ => rfl) | exact .inl (by kernel_rfl)) ?_ | refine DE.q (fun e c hk => (Ev.ldb1 2 (.t rfl) rfl ag9 rfl)) rfl (fun _ _ => rfl) (by first | exact .inr (fun _ _ => rfl) | exact .inl (by kernel_rfl)) ?_ | refine DE.q (fun e c hk => (Ev.ldb1 3 (.t rfl) rfl ag9 rfl)) rfl (fun _ _ => rfl) (by first | exact .inr (fun _ _ => rfl) | exact .inl (by kernel_rfl)) ?_
    refine DE.q (fun e c hk => (Ev.nes (.t rfl) (.t rfl))) rfl (fun _ _ => rfl) (by first | exact .inr (fun _ _ => rfl) | exact .inl (by kernel_rfl)) ?_
    refine DE.q (fun e c hk => (Ev.move (.t rfl))) rfl (fun _ _ => rfl) (by first | exact .inr (fun _ _ => rfl) | exact .inl (by kernel_rfl)) ?_
    refine DE.qg rfl (fun _ => rfl) (fun e c hk => (Ev.move (.t rfl))) rfl (fun _ _ => rfl) (by first | exact .inr (fun _ _ => rfl) | exact .inl (by kernel_rfl)) ?_
    refine DE.qg rfl (fun _ => rfl) (fun e c hk => (Ev.move (.t rfl))) rfl (fun _ _ => rfl) (by first | exact .inr (fun _ _ => rfl) | exact .inl (by kernel_rfl)) ?_
    refine DE.qg rfl (fun _ => rfl) (fun e c hk => Ev.at (E := 37) (.c rfl) (.c rfl) Tryz.underlying24 ty37 (fun _ => ⟨by omega, hga⟩) rfl rfl) rfl (fun _ _ => rfl) (by first | exact .inr (fun _ _ => rfl) | exact .inl (by kernel_rfl)) ?_
    first | refine DE.qg rfl (fun _ => rfl) (fun e c hk => (Ev.fae (.c rfl) fa37_2 rfl)) rfl (fun _ _ => rfl) (by first | exact .inr (fun _ _ => rfl) | exact .inl (by kernel_rfl)) ?_ | refine DE.qg rfl (fun _ => rfl) (fun e c hk => (Ev.fab (.c rfl) fa37_2)) rfl (fun _ _ => rfl) (by first | exact .inr (fun _ _ => rfl) | exact .inl (by kernel_rfl)) ?_ | refine DE.qg rfl (fun _ => rfl) (fun e c hk => (Ev.faa (.c rfl) fa37_2)) rfl (fun _ _ => rfl) (by first | exact .inr (fun _ _ => rfl) | exact .inl (by kernel_rfl)) ?_
    first | refine DE.qg rfl (fun _ => rfl) (fun e c hk => (Ev.lde1 (.c rfl) ag9)) rfl (fun _ _ => rfl) (by first | exact .inr (fun _ _ => rfl) | exact .inl (by kernel_rfl)) ?_ | refine DE.qg rfl (fun _ => rfl) (fun e c hk => (Ev.ldb1 0 (.c rfl) rfl ag9 rfl)) rfl (fun _ _ => rfl) (by first | exact .inr (fun _ _ => rfl) | exact .inl (by kernel_rfl)) ?_ | refine DE.qg rfl (fun _ => rfl) (fun e c hk => (Ev.ldb1 1 (.c rfl) rfl ag9 rfl)) rfl (fun _ _ => rfl) (by first | exact .inr (fun _ _ => rfl) | exact .inl (by kernel_rfl)) ?_ | refine DE.qg rfl (fun _ => rfl) (fun e c hk => (Ev.ldb1 2 (.c rfl) rfl ag9 rfl)) rfl (fun _ _ => rfl) (by first | exact .inr (fun _ _ => rfl) | exact .inl (by kernel_rfl)) ?_ | refine DE.qg rfl (fun _ => rfl) (fun e c hk => (Ev.ldb1 3 (.c rfl) rfl ag9 rfl)) rfl (fun _ _ => rfl) (by first | exact .inr (fun _ _ => rfl) | exact .inl (by kernel_rfl)) ?_
    refine DE.qg rfl (fun _ => rfl) (fun e c hk => (Ev.move (.t rfl))) rfl (fun _ _ => rfl) (by first | exact .inr (fun _ _ => rfl) | exact .inl (by kernel_rfl)) ?_
    refine DE.qg rfl (fun _ => rfl) (fun e c hk => (Ev.move (.t rfl))) rfl (fun _ _ => rfl) (by first | exact .inr (fun _ _ => rfl) | exact .inl (by kernel_rfl)) ?_
    refine DE.qg rfl (fun _ => rfl) (fun e c hk => Ev.at (E := 37) (.c rfl) (.c rfl) Tryz.underlying24 ty37 (fun _ => ⟨by omega, hga⟩) rfl rfl) rfl (fun _ _ => rfl) (by first | exact .inr (fun _ _ => rfl) | exact .inl (by kernel_rfl)) ?_
    first | refine DE.qg rfl (fun _ => rfl) (fun e c hk => (Ev.fae (.c rfl) fa37_2 rfl)) rfl (fun _ _ => rfl) (by first | exact .inr (fun _ _ => rfl) | exact .inl (by kernel_rfl)) ?_ | refine DE.qg rfl (fun _ => rfl) (fun e c hk => (Ev.fab (.c rfl) fa37_2)) rfl (fun _ _ => rfl) (by first | exact .inr (fun _ _ => rfl) | exact .inl (by kernel_rfl)) ?_ | refine DE.qg rfl (fun _ => rfl) (fun e c hk => (Ev.faa (.c rfl) fa37_2)) rfl (fun _ _ => rfl) (by first | exact .inr (fun _ _ => rfl) | exact .inl (by kernel_rfl)) ?_
    first | refine DE.qg rfl (fun _ => rfl) (fun e c hk => (Ev.lde1 (.c rfl) ag9)) rfl (fun _ _ => rfl) (by first | exact .inr (fun _ _ => rfl) | exact .inl (by kernel_rfl)) ?_ | refine DE.qg rfl (fun _ => rfl) (fun e c hk => (Ev.ldb1 0 (.c rfl) rfl ag9 rfl)) rfl (fun _ _ => rfl) (by first | exact .inr (fun _ _ => rfl) | exact .inl (by kernel_rfl)) ?_ | refine DE.qg rfl (fun _ => rfl) (fun e c hk => (Ev.ldb1 1 (.c rfl) rfl ag9 rfl)) rfl (fun _ _ => rfl) (by first | exact .inr (fun _ _ => rfl) | exact .inl (by kernel_rfl)) ?_ | refine DE.qg rfl (fun _ => rfl) (fun e c hk => (Ev.ldb1 2 (.c rfl) rfl ag9 rfl)) rfl (fun _ _ => rfl) (by first | exact .inr (fun _ _ => rfl) | exact .inl (by kernel_rfl)) ?_ | refine DE.qg rfl (fun _ => rfl) (fun e c hk => (Ev.ldb1 3 (.c rfl) rfl ag9 rfl)) rfl (fun _ _ => rfl) (by first | exact .inr (fun _ _ => rfl) | exact .inl (by kernel_rfl)) ?_
    refine DE.qg rfl (fun _ => rfl) (fun e c hk => (Ev.nes (.c rfl) (.c rfl))) rfl (fun _ _ => rfl) (by first | exact .inr (fun _ _ => rfl) | exact .inl (by kernel_rfl)) ?_
    refine DE.q (fun e c hk => (Ev.or (.t rfl) ⟨_, _, rfl, rfl, by first | (simp; done) | (intro hg_ hp_; simp [hp_]; done) | (simp <;> omega; done) | (simp_all; done) | grind⟩)) rfl (fun _ _ => rfl) (by first | exact .inr (fun _ _ => rfl) | exact .inl (by kernel_rfl)) ?_
    refine DE.q (fun e c hk => (Ev.move (.t rfl))) rfl (fun _ _ => rfl) (by first | exact .inr (fun _ _ => rfl) | exact .inl (by kernel_rfl)) ?_
    refine DE.qg rfl (fun _ => rfl) (fun e c hk => (Ev.move (.t rfl))) rfl (fun _ _ => rfl) (by first | exact .inr (fun _ _ => rfl) | exact .inl (by kernel_rfl)) ?_
    refine DE.qg rfl (fun _ => rfl) (fun e c hk => (Ev.move (.t rfl))) rfl (fun _ _ => rfl) (by first | exact .inr (fun _ _ => rfl) | exact .inl (by kernel_rfl)) ?_
    refine DE.qg rfl (fun _ => rfl) (fun e c hk => Ev.at (E := 37) (.c rfl) (.c rfl) Tryz.underlying24 ty37 (fun _ => ⟨by omega, hga⟩) rfl rfl) rfl (fun _ _ => rfl) (by first | exact .inr (fun _ _ => rfl) | exact .inl (by kernel_rfl)) ?_
    first | refine DE.qg rfl (fun _ => rfl) (fun e c hk => (Ev.fae (.c rfl) fa37_1 rfl)) rfl (fun _ _ => rfl) (by first | exact .inr (fun _ _ => rfl) | exact .inl (by kernel_rfl)) ?_ | refine DE.qg rfl (fun _ => rfl) (fun e c hk => (Ev.fab (.c rfl) fa37_1)) rfl (fun _ _ => rfl) (by first | exact .inr (fun _ _ => rfl) | exact .inl (by kernel_rfl)) ?_ | refine DE.qg rfl (fun _ => rfl) (fun e c hk => (Ev.faa (.c rfl) fa37_1)) rfl (fun _ _ => rfl) (by first | exact .inr (fun _ _ => rfl) | exact .inl (by kernel_rfl)) ?_
    first | refine DE.qg rfl (fun _ => rfl) (fun e c hk => (Ev.lde1 (.c rfl) ag35)) rfl (fun _ _ => rfl) (by first | exact .inr (fun _ _ => rfl) | exact .inl (by kernel_rfl)) ?_ | refine DE.qg rfl (fun _ => rfl) (fun e c hk => (Ev.ldb1 0 (.c rfl) rfl ag35 rfl)) rfl (fun _ _ => rfl) (by first | exact .inr (fun _ _ => rfl) | exact .inl (by kernel_rfl)) ?_ | refine DE.qg rfl (fun _ => rfl) (fun e c hk => (Ev.ldb1 1 (.c rfl) rfl ag35 rfl)) rfl (fun _ _ => rfl) (by first | exact .inr (fun _ _ => rfl) | exact .inl (by kernel_rfl)) ?_ | refine DE.qg rfl (fun _ => rfl) (fun e c hk => (Ev.ldb1 2 (.c rfl) rfl ag35 rfl)) rfl (fun _ _ => rfl) (by first | exact .inr (fun _ _ => rfl) | exact .inl (by kernel_rfl)) ?_ | refine DE.qg rfl (fun _ => rfl) (fun e c hk => (Ev.ldb1 3 (.c rfl) rfl ag35 rfl)) rfl (fun _ _ => rfl) (by first | exact .inr (fun _ _ => rfl) | exact .inl (by kernel_rfl)) ?_
    first | refine DE.qg rfl (fun _ => rfl) (fun e c hk => (Ev.lensl (.c rfl) Tryz.underlying35)) rfl (fun _ _ => rfl) (by first | exact .inr (fun _ _ => rfl) | exact .inl (by kernel_rfl)) ?_ | refine DE.qg rfl (fun _ => rfl) (fun e c hk => (Ev.lenar (i := 0) (.c rfl) rfl Tryz.underlying35)) rfl (fun _ _ => rfl) (by first | exact .inr (fun _ _ => rfl) | exact .inl (by kernel_rfl)) ?_ | refine DE.qg rfl (fun _ => rfl) (fun e c hk => (Ev.lenar (i := 1) (.c rfl) rfl Tryz.underlying35)) rfl (fun _ _ => rfl) (by first | exact .inr (fun _ _ => rfl) | exact .inl (by kernel_rfl)) ?_ | refine DE.qg rfl (fun _ => rfl) (fun e c hk => (Ev.lenar (i := 2) (.c rfl) rfl Tryz.underlying35)) rfl (fun _ _ => rfl) (by first | exact .inr (fun _ _ => rfl) | exact .inl (by kernel_rfl)) ?_ | refine DE.qg rfl (fun _ => rfl) (fun e c hk => (Ev.lenar (i := 3) (.c rfl) rfl Tryz.underlying35)) rfl (fun _ _ => rfl) (by first | exact .inr (fun _ _ => rfl) | exact .inl (by kernel_rfl)) ?_
    refine DE.qg rfl (fun _ => rfl) (fun e c hk => (Ev.move (.t rfl))) rfl (fun _ _ => rfl) (by first | exact .inr (fun _ _ => rfl) | exact .inl (by kernel_rfl)) ?_
    refine DE.qg rfl (fun _ => rfl) (fun e c hk => (Ev.move (.t rfl))) rfl (fun _ _ => rfl) (by first | exact .inr (fun _ _ => rfl) | exact .inl (by kernel_rfl)) ?_
    refine DE.qg rfl (fun _ => rfl) (fun e c hk => Ev.at (E := 37) (.c rfl) (.c rfl) Tryz.underlying24 ty37 (fun _ => ⟨by omega, hga⟩) rfl rfl) rfl (fun _ _ => rfl) (by first | exact .inr (fun _ _ => rfl) | exact .inl (by kernel_rfl)) ?_
    first | refine DE.qg rfl (fun _ => rfl) (fun e c hk => (Ev.fae (.c rfl) fa37_1 rfl)) rfl (fun _ _ => rfl) (by first | exact .inr (fun _ _ => rfl) | exact .inl (by kernel_rfl)) ?_ | refine DE.qg rfl (fun _ => rfl) (fun e c hk => (Ev.fab (.c rfl) fa37_1)) rfl (fun _ _ => rfl) (by first | exact .inr (fun _ _ => rfl) | exact .inl (by kernel_rfl)) ?_ | refine DE.qg rfl (fun _ => rfl) (fun e c hk => (Ev.faa (.c rfl) fa37_1)) rfl (fun _ _ => rfl) (by first | exact .inr (fun _ _ => rfl) | exact .inl (by kernel_rfl)) ?_
    first | refine DE.qg rfl (fun _ => rfl) (fun e c hk => (Ev.lde1 (.c rfl) ag35)) rfl (fun _ _ => rfl) (by first | exact .inr (fun _ _ => rfl) | exact .inl (by kernel_rfl)) ?_ | refine DE.qg rfl (fun _ => rfl) (fun e c hk => (Ev.ldb1 0 (.c rfl) rfl ag35 rfl)) rfl (fun _ _ => rfl) (by first | exact .inr (fun _ _ => rfl) | exact .inl (by kernel_rfl)) ?_ | refine DE.qg rfl (fun _ => rfl) (fun e c hk => (Ev.ldb1 1 (.c rfl) rfl ag35 rfl)) rfl (fun _ _ => rfl) (by first | exact .inr (fun _ _ => rfl) | exact .inl (by kernel_rfl)) ?_ | refine DE.qg rfl (fun _ => rfl) (fun e c hk => (Ev.ldb1 2 (.c rfl) rfl ag35 rfl)) rfl (fun _ _ => rfl) (by first | exact .inr (fun _ _ => rfl) | exact .inl (by kernel_rfl)) ?_ | refine DE.qg rfl (fun _ => rfl) (fun e c hk => (Ev.ldb1 3 (.c rfl) rfl ag35 rfl)) rfl (fun _ _ => rfl) (by first | exact .inr (fun _ _ => rfl) | exact .inl (by kernel_rfl)) ?_
    first | refine DE.qg rfl (fun _ => rfl) (fun e c hk => (Ev.lensl (.c rfl) Tryz.underlying35)) rfl (fun _ _ => rfl) (by first | exact .inr (fun _ _ => rfl) | exact .inl (by kernel_rfl)) ?_ | refine DE.qg rfl (fun _ => rfl) (fun e c hk => (Ev.lenar (i := 0) (.c rfl) rfl Tryz.underlying35)) rfl (fun _ _ => rfl) (by first | exact .inr (fun _ _ => rfl) | exact .inl (by kernel_rfl)) ?_ | refine DE.qg rfl (fun _ => rfl) (fun e c hk => (Ev.lenar (i := 1) (.c rfl) rfl Tryz.underlying35)) rfl (fun _ _ => rfl) (by first | exact .inr (fun _ _ => rfl) | exact .inl (by kernel_rfl)) ?_ | refine DE.qg rfl (fun _ => rfl) (fun e c hk => (Ev.lenar (i := 2) (.c rfl) rfl Tryz.underlying35)) rfl (fun _ _ => rfl) (by first | exact .inr (fun _ _ => rfl) | exact .inl (by kernel_rfl)) ?_ | refine DE.qg rfl (fun _ => rfl) (fun e c hk => (Ev.lenar (i := 3) (.c rfl) rfl Tryz.underlying35)) rfl (fun _ _ => rfl) (by first | exact .inr (fun _ _ => rfl) | exact .inl (by kernel_rfl)) ?_
    refine DE.qg rfl (fun _ => rfl) (fun e c hk => (Ev.nei (.c rfl) (.c rfl))) rfl (fun _ _ => rfl) (by first | exact .inr (fun _ _ => rfl) | exact .inl (by kernel_rfl)) ?_
    refine DE.q (fun e c hk => (Ev.or (.t rfl) ⟨_, _, rfl, rfl, by first | (simp; done) | (intro hg_ hp_; simp [hp_]; done) | (simp <;> omega; done) | (simp_all; done) | grind⟩)) rfl (fun _ _ => rfl) (by first | exact .inr (fun _ _ => rfl) | exact .inl (by kernel_rfl)) ?_
    refine DE.q (fun e c hk => (Ev.move (.t rfl))) rfl (fun _ _ => rfl) (by first | exact .inr (fun _ _ => rfl) | exact .inl (by kernel_rfl)) ?_
    refine DE.qg rfl (fun _ => rfl) (fun e c hk => (Ev.move (.t rfl))) rfl (fun _ _ => rfl) (by first | exact .inr (fun _ _ => rfl) | exact .inl (by kernel_rfl)) ?_
    refine DE.qg rfl (fun _ => rfl) (fun e c hk => (Ev.move (.t rfl))) rfl (fun _ _ => rfl) (by first | exact .inr (fun _ _ => rfl) | exact .inl (by kernel_rfl)) ?_
    refine DE.qg rfl (fun _ => rfl) (fun e c hk => Ev.at (E := 37) (.c rfl) (.c rfl) Tryz.underlying24 ty37 (fun _ => ⟨by omega, hga⟩) rfl rfl) rfl (fun _ _ => rfl) (by first | exact .inr (fun _ _ => rfl) | exact .inl (by kernel_rfl)) ?_
    first | refine DE.qg rfl (fun _ => rfl) (fun e c hk => (Ev.fae (.c rfl) fa37_3 rfl)) rfl (fun _ _ => rfl) (by first | exact .inr (fun _ _ => rfl) | exact .inl (by kernel_rfl)) ?_ | refine DE.qg rfl (fun _ => rfl) (fun e c hk => (Ev.fab (.c rfl) fa37_3)) rfl (fun _ _ => rfl) (by first | exact .inr (fun _ _ => rfl) | exact .inl (by kernel_rfl)) ?_ | refine DE.qg rfl (fun _ => rfl) (fun e c hk => (Ev.faa (.c rfl) fa37_3)) rfl (fun _ _ => rfl) (by first | exact .inr (fun _ _ => rfl) | exact .inl (by kernel_rfl)) ?_
    first | refine DE.qg rfl (fun _ => rfl) (fun e c hk => (Ev.lde1 (.c rfl) ag24)) rfl (fun _ _ => rfl) (by first | exact .inr (fun _ _ => rfl) | exact .inl (by kernel_rfl)) ?_ | refine DE.qg rfl (fun _ => rfl) (fun e c hk => (Ev.ldb1 0 (.c rfl) rfl ag24 rfl)) rfl (fun _ _ => rfl) (by first | exact .inr (fun _ _ => rfl) | exact .inl (by kernel_rfl)) ?_ | refine DE.qg rfl (fun _ => rfl) (fun e c hk => (Ev.ldb1 1 (.c rfl) rfl ag24 rfl)) rfl (fun _ _ => rfl) (by first | exact .inr (fun _ _ => rfl) | exact .inl (by kernel_rfl)) ?_ | refine DE.qg rfl (fun _ => rfl) (fun e c hk => (Ev.ldb1 2 (.c rfl) rfl ag24 rfl)) rfl (fun _ _ => rfl) (by first | exact .inr (fun _ _ => rfl) | exact .inl (by kernel_rfl)) ?_ | refine DE.qg rfl (fun _ => rfl) (fun e c hk => (Ev.ldb1 3 (.c rfl) rfl ag24 rfl)) rfl (fun _ _ => rfl) (by first | exact .inr (fun _ _ => rfl) | exact .inl (by kernel_rfl)) ?_
    refine DE.qg rfl (fun _ => rfl) (fun e c hk => (Ev.move (.t rfl))) rfl (fun _ _ => rfl) (by first | exact .inr (fun _ _ => rfl) | exact .inl (by kernel_rfl)) ?_
    refine DE.qg rfl (fun _ => rfl) (fun e c hk => (Ev.move (.t rfl))) rfl (fun _ _ => rfl) (by first | exact .inr (fun _ _ => rfl) | exact .inl (by kernel_rfl)) ?_
    refine DE.qg rfl (fun _ => rfl) (fun e c hk => Ev.at (E := 37) (.c rfl) (.c rfl) Tryz.underlying24 ty37 (fun _ => ⟨by omega, hga⟩) rfl rfl) rfl (fun _ _ => rfl) (by first | exact .inr (fun _ _ => rfl) | exact .inl (by kernel_rfl)) ?_
    first | refine DE.qg rfl (fun _ => rfl) (fun e c hk => (Ev.fae (.c rfl) fa37_3 rfl)) rfl (fun _ _ => rfl) (by first | exact .inr (fun _ _ => rfl) | exact .inl (by kernel_rfl)) ?_ | refine DE.qg rfl (fun _ => rfl) (fun e c hk => (Ev.fab (.c rfl) fa37_3)) rfl (fun _ _ => rfl) (by first | exact .inr (fun _ _ => rfl) | exact .inl (by kernel_rfl)) ?_ | refine DE.qg rfl (fun _ => rfl) (fun e c hk => (Ev.faa (.c rfl) fa37_3)) rfl (fun _ _ => rfl) (by first | exact .inr (fun _ _ => rfl) | exact .inl (by kernel_rfl)) ?_
    first | refine DE.qg rfl (fun _ => rfl) (fun e c hk => (Ev.lde1 (.c rfl) ag24)) rfl (fun _ _ => rfl) (by first | exact .inr (fun _ _ => rfl) | exact .inl (by kernel_rfl)) ?_ | refine DE.qg rfl (fun _ => rfl) (fun e c hk => (Ev.ldb1 0 (.c rfl) rfl ag24 rfl)) rfl (fun _ _ => rfl) (by first | exact .inr (fun _ _ => rfl) | exact .inl (by kernel_rfl)) ?_ | refine DE.qg rfl (fun _ => rfl) (fun e c hk => (Ev.ldb1 1 (.c rfl) rfl ag24 rfl)) rfl (fun _ _ => rfl) (by first | exact .inr (fun _ _ => rfl) | exact .inl (by kernel_rfl)) ?_ | refine DE.qg rfl (fun _ => rfl) (fun e c hk => (Ev.ldb1 2 (.c rfl) rfl ag24 rfl)) rfl (fun _ _ => rfl) (by first | exact .inr (fun _ _ => rfl) | exact .inl (by kernel_rfl)) ?_ | refine DE.qg rfl (fun _ => rfl) (fun e c hk => (Ev.ldb1 3 (.c rfl) rfl ag24 rfl)) rfl (fun _ _ => rfl) (by first | exact .inr (fun _ _ => rfl) | exact .inl (by kernel_rfl)) ?_
    refine DE.callg rfl (fun _ => rfl) (fun c hg => ih d.parts (by omega)) (fun c hg => ⟨(.i rfl (fun _ => hg)), (.i rfl (fun _ => hg)), trivial⟩) rfl (fun _ _ => rfl) (by first | exact .inr (fun _ _ => rfl) | exact .inl (by kernel_rfl)) ?_
    refine DE.qg rfl (fun _ => rfl) (fun e c hk => (Ev.not (.c rfl))) rfl (fun _ _ => rfl) (by first | exact .inr (fun _ _ => rfl) | exact .inl (by kernel_rfl)) ?_
    refine DE.q (fun e c hk => (Ev.or (.t rfl) ⟨_, _, rfl, rfl, by first | (simp; done) | (intro hg_ hp_; simp [hp_]; done) | (simp <;> omega; done) | (simp_all; done) | grind⟩)) rfl (fun _ _ => rfl) (by first | exact .inr (fun _ _ => rfl) | exact .inl (by kernel_rfl)) ?_
    refine DE.nil (fun c_ e_ he_ => ?_)
    dsimp only
    refine W.then ?_
    refine W.is (t := 70) (g := true) (av' := .lit (.bool false)) rfl (congrArg (fun b => AV.lit (.bool b)) (by simp)) ?_
    refine W.condF (.t rfl) ?_
    refine W.skip ?_
    refine W.then ?_
    refine W.seq ?_
    refine W.region ?_
    refine W.q (Ev.assign .k) rfl ?_
    refine W.nil ?_
    refine W.then ?_
    refine W.block ?_
    refine W.loop (D := []) (ι := Nat) (fun k => [(6, true, .int (k : Int)), (5, true, .int (i : Int)), (0, true, .sl 4 (l.map Nd.av)), (1, true, .sl 4 (l.map Nd.av))]) (fun _ => []) (fun k => k ≤ d.attrs.length) (fun k => d.attrs.length - k) 0 ⟨rfl, rfl, rfl, rfl, trivial⟩ (.refl _) (Nat.zero_le _) ?_
    intro k hk
    dsimp only at hk ⊢
    rcases (show k < d.attrs.length ∨ k = d.attrs.length from by omega) with hltk | hendk
    · have hgk := getD_mapG dav ([], []) d.attrs k hltk
      refine W.seq ?_
      refine W.seq ?_
      refine W.region ?_
      refine W.q (Ev.move (.t rfl)) rfl ?_
      refine W.q (Ev.move (.t rfl)) rfl ?_
      refine W.q (Ev.move (.t rfl)) rfl ?_
      refine W.q (Ev.at (E := 37) (.t rfl) (.t rfl) Tryz.underlying24 ty37 (fun _ => ⟨by omega, hga⟩) rfl rfl) rfl ?_
      first | refine W.q (Ev.fae (.t rfl) fa37_1 rfl) rfl ?_ | refine W.q (Ev.fab (.t rfl) fa37_1) rfl ?_ | refine W.q (Ev.faa (.t rfl) fa37_1) rfl ?_
      first | refine W.q (Ev.lde1 (.t rfl) ag35) rfl ?_ | refine W.q (Ev.ldb1 0 (.t rfl) rfl ag35 rfl) rfl ?_ | refine W.q (Ev.ldb1 1 (.t rfl) rfl ag35 rfl) rfl ?_ | refine W.q (Ev.ldb1 2 (.t rfl) rfl ag35 rfl) rfl ?_ | refine W.q (Ev.ldb1 3 (.t rfl) rfl ag35 rfl) rfl ?_
      first | refine W.q (Ev.lensl (.t rfl) Tryz.underlying35) rfl ?_ | refine W.q (Ev.lenar (i := 0) (.t rfl) rfl Tryz.underlying35) rfl ?_ | refine W.q (Ev.lenar (i := 1) (.t rfl) rfl Tryz.underlying35) rfl ?_ | refine W.q (Ev.lenar (i := 2) (.t rfl) rfl Tryz.underlying35) rfl ?_ | refine W.q (Ev.lenar (i := 3) (.t rfl) rfl Tryz.underlying35) rfl ?_
      refine W.q (Ev.lti (.t rfl) (.t rfl)) rfl ?_
      refine W.nil ?_
      refine W.then ?_
      refine W.is (t := 78) (g := true) (av' := .lit (.bool true)) rfl (congrArg (fun b => AV.lit (.bool b)) (by simp; omega)) ?_
      refine W.condT (.t rfl) ?_
      refine W.skip ?_
      refine W.then ?_
      refine W.seq ?_
      refine W.block ?_
      refine W.seq ?_
      refine W.drawn (by kernel_rfl) (by kernel_rfl) ?_
      refine DP.q (Ev.move (.t rfl)) rfl ?_
      refine DP.q (Ev.move (.t rfl)) rfl ?_
      refine DP.q (Ev.at (E := 37) (.t rfl) (.t rfl) Tryz.underlying24 ty37 (fun _ => ⟨by omega, hga⟩) rfl rfl) rfl ?_
      first | refine DP.q (Ev.fae (.t rfl) fa37_1 rfl) rfl ?_ | refine DP.q (Ev.fab (.t rfl) fa37_1) rfl ?_ | refine DP.q (Ev.faa (.t rfl) fa37_1) rfl ?_
      first | refine DP.q (Ev.lde1 (.t rfl) ag35) rfl ?_ | refine DP.q (Ev.ldb1 0 (.t rfl) rfl ag35 rfl) rfl ?_ | refine DP.q (Ev.ldb1 1 (.t rfl) rfl ag35 rfl) rfl ?_ | refine DP.q (Ev.ldb1 2 (.t rfl) rfl ag35 rfl) rfl ?_ | refine DP.q (Ev.ldb1 3 (.t rfl) rfl ag35 rfl) rfl ?_
      refine DP.q (Ev.move (.t rfl)) rfl ?_
      refine DP.q (Ev.at (E := 34) (.t rfl) (.t rfl) Tryz.underlying35 ty34 (fun _ => ⟨by omega, hgk⟩) rfl rfl) rfl ?_
      first | refine DP.q (Ev.lden (.t rfl) ag34 ty34 rfl rfl) rfl ?_ | refine DP.q (Ev.ldbn 0 (.t rfl) rfl ag34 ty34 rfl) rfl ?_ | refine DP.q (Ev.ldbn 1 (.t rfl) rfl ag34 ty34 rfl) rfl ?_ | refine DP.q (Ev.ldbn 2 (.t rfl) rfl ag34 ty34 rfl) rfl ?_ | refine DP.q (Ev.ldbn 3 (.t rfl) rfl ag34 ty34 rfl) rfl ?_
      refine DP.q (Ev.move (.t rfl)) rfl ?_
      refine DP.q (Ev.move (.t rfl)) rfl ?_
      refine DP.q (Ev.at (E := 37) (.t rfl) (.t rfl) Tryz.underlying24 ty37 (fun _ => ⟨by omega, hga⟩) rfl rfl) rfl ?_
      first | refine DP.q (Ev.fae (.t rfl) fa37_1 rfl) rfl ?_ | refine DP.q (Ev.fab (.t rfl) fa37_1) rfl ?_ | refine DP.q (Ev.faa (.t rfl) fa37_1) rfl ?_
      first | refine DP.q (Ev.lde1 (.t rfl) ag35) rfl ?_ | refine DP.q (Ev.ldb1 0 (.t rfl) rfl ag35 rfl) rfl ?_ | refine DP.q (Ev.ldb1 1 (.t rfl) rfl ag35 rfl) rfl ?_ | refine DP.q (Ev.ldb1 2 (.t rfl) rfl ag35 rfl) rfl ?_ | refine DP.q (Ev.ldb1 3 (.t rfl) rfl ag35 rfl) rfl ?_
      refine DP.q (Ev.move (.t rfl)) rfl ?_
      refine DP.q (Ev.at (E := 34) (.t rfl) (.t rfl) Tryz.underlying35 ty34 (fun _ => ⟨by omega, hgk⟩) rfl rfl) rfl ?_
      first | refine DP.q (Ev.lden (.t rfl) ag34 ty34 rfl rfl) rfl ?_ | refine DP.q (Ev.ldbn 0 (.t rfl) rfl ag34 ty34 rfl) rfl ?_ | refine DP.q (Ev.ldbn 1 (.t rfl) rfl ag34 ty34 rfl) rfl ?_ | refine DP.q (Ev.ldbn 2 (.t rfl) rfl ag34 ty34 rfl) rfl ?_ | refine DP.q (Ev.ldbn 3 (.t rfl) rfl ag34 ty34 rfl) rfl ?_
      refine DP.q (Ev.ne2 s2_34 (.t rfl) (.t rfl)) rfl ?_
      refine DP.nil ?_
      refine W.then ?_
      refine W.is (t := 97) (g := true) (av' := .lit (.bool false)) rfl (congrArg (fun b => AV.lit (.bool b)) (by simp)) ?_
      refine W.condF (.t rfl) ?_
      refine W.skip ?_
      refine W.blk_normal ?_
      refine W.then ?_
      refine W.region ?_
      refine W.q (Ev.move (.t rfl)) rfl ?_
      first | refine W.q (Ev.add (.t rfl) .k (fun _ => by omega)) rfl ?_ | refine W.q (Ev.addw (.t rfl) .k) rfl ?_
      refine W.q (Ev.assign (.t rfl)) rfl ?_
      refine W.nil ?_
      refine W.then ?_
      refine W.reach (D := []) (k + 1) ⟨rfl, rfl, rfl, rfl, trivial⟩ (.refl _) ⟨by show k + 1 ≤ _; omega, by show _ - (k + 1) < _; omega⟩
    · skip
      refine W.seq ?_
      refine W.seq ?_
      refine W.region ?_
      refine W.q (Ev.move (.t rfl)) rfl ?_
      refine W.q (Ev.move (.t rfl)) rfl ?_
      refine W.q (Ev.move (.t rfl)) rfl ?_
      refine W.q (Ev.at (E := 37) (.t rfl) (.t rfl) Tryz.underlying24 ty37 (fun _ => ⟨by omega, hga⟩) rfl rfl) rfl ?_
      first | refine W.q (Ev.fae (.t rfl) fa37_1 rfl) rfl ?_ | refine W.q (Ev.fab (.t rfl) fa37_1) rfl ?_ | refine W.q (Ev.faa (.t rfl) fa37_1) rfl ?_
      first | refine W.q (Ev.lde1 (.t rfl) ag35) rfl ?_ | refine W.q (Ev.ldb1 0 (.t rfl) rfl ag35 rfl) rfl ?_ | refine W.q (Ev.ldb1 1 (.t rfl) rfl ag35 rfl) rfl ?_ | refine W.q (Ev.ldb1 2 (.t rfl) rfl ag35 rfl) rfl ?_ | refine W.q (Ev.ldb1 3 (.t rfl) rfl ag35 rfl) rfl ?_
      first | refine W.q (Ev.lensl (.t rfl) Tryz.underlying35) rfl ?_ | refine W.q (Ev.lenar (i := 0) (.t rfl) rfl Tryz.underlying35) rfl ?_ | refine W.q (Ev.lenar (i := 1) (.t rfl) rfl Tryz.underlying35) rfl ?_ | refine W.q (Ev.lenar (i := 2) (.t rfl) rfl Tryz.underlying35) rfl ?_ | refine W.q (Ev.lenar (i := 3) (.t rfl) rfl Tryz.underlying35) rfl ?_
      refine W.q (Ev.lti (.t rfl) (.t rfl)) rfl ?_
      refine W.nil ?_
      refine W.then ?_
      refine W.is (t := 78) (g := true) (av' := .lit (.bool false)) rfl (congrArg (fun b => AV.lit (.bool b)) (by simp; omega)) ?_
      refine W.condF (.t rfl) ?_
      refine W.exit ?_
      refine W.then_exit ?_
      refine W.then_exit ?_
      refine W.blk_hit ?_
      refine W.blk_normal ?_
      refine W.then ?_
      refine W.region ?_
      refine W.q (Ev.move (.t rfl)) rfl ?_
      first | refine W.q (Ev.add (.t rfl) .k (fun _ => by omega)) rfl ?_ | refine W.q (Ev.addw (.t rfl) .k) rfl ?_
      refine W.q (Ev.assign (.t rfl)) rfl ?_
      refine W.nil ?_
      refine W.then ?_
      refine W.reach (D := []) (i + 1) ⟨rfl, rfl, rfl, trivial⟩ (.refl _) ⟨by show i + 1 ≤ _; omega, by show _ - (i + 1) < _; omega⟩
  · skip
    refine W.seq ?_
    refine W.seq ?_
    refine W.region ?_
    refine W.q (Ev.move (.t rfl)) rfl ?_
    refine W.q (Ev.move (.t rfl)) rfl ?_
    first | refine W.q (Ev.lensl (.t rfl) Tryz.underlying24) rfl ?_ | refine W.q (Ev.lenar (i := 0) (.t rfl) rfl Tryz.underlying24) rfl ?_ | refine W.q (Ev.lenar (i := 1) (.t rfl) rfl Tryz.underlying24) rfl ?_ | refine W.q (Ev.lenar (i := 2) (.t rfl) rfl Tryz.underlying24) rfl ?_ | refine W.q (Ev.lenar (i := 3) (.t rfl) rfl Tryz.underlying24) rfl ?_
    refine W.q (Ev.lti (.t rfl) (.t rfl)) rfl ?_
    refine W.nil ?_
    refine W.then ?_
    refine W.is (t := 15) (g := true) (av' := .lit (.bool false)) rfl (congrArg (fun b => AV.lit (.bool b)) (by simp; omega)) ?_
    refine W.condF (.t rfl) ?_
    refine W.exit ?_
    refine W.then_exit ?_
    refine W.then_exit ?_
    refine W.blk_hit ?_
    refine W.then ?_
    refine W.seq ?_
    refine W.region ?_
    refine W.q (Ev.assign .k) rfl ?_
    refine W.nil ?_
    refine W.then ?_
    refine W.ret ?_
    refine W.retn (M' := []) (rs := [.tmp 4]) (avs := [_]) Tryz.results8 ⟨rfl, trivial⟩ rfl (.refl _) ?_
    exact ⟨rfl, rfl⟩

theorem c_same (l : List Nd) (hl : Nd.szs l ≤ 16777216) : FnP Tryz.prog 8 [.sl 4 (l.map Nd.av), .sl 4 (l.map Nd.av)] (.bool true) := by
  suffices H : ∀ n, n ≤ 16777216 → ∀ l, Nd.szs l = n → FnP Tryz.prog 8 [.sl 4 (l.map Nd.av), .sl 4 (l.map Nd.av)] (.bool true) from H _ hl l rfl
  intro n
  induction n using Nat.strongRecOn with
  | _ n ih => exact fun hn l hl => c_same_step n hn (fun l' h' => ih _ h' (by omega) l' rfl) l hl

end WSame

end Go.Proofs.YtgjndpgcpohnoaaGreatDoor
end

section
set_option linter.unusedVariables false
set_option linter.unusedSimpArgs false
set_option maxRecDepth 100000
namespace Go.Proofs.YtgjndpgcpohnoaaGreatDoor
open Go.Vl

namespace WWords
theorem ty9 : Ty Tryz.prog 9 1 16 (.string ⟨#[]⟩) := Ty.of (by kernel_rfl)
theorem ty24 : Ty Tryz.prog 24 1 24 (.slice none 0 0) := Ty.of (by kernel_rfl)
theorem ty37 : Ty Tryz.prog 37 4 80 (.agg #[.string ⟨#[]⟩, .slice none 0 0, .string ⟨#[]⟩, .slice none 0 0]) := Ty.of (by kernel_rfl)
theorem ag9 : IsAgg Tryz.prog 9 false := ⟨_, Tryz.underlying9, rfl⟩
theorem ag24 : IsAgg Tryz.prog 24 false := ⟨_, Tryz.underlying24, rfl⟩
theorem fa37_2 : FieldAt Tryz.prog 37 2 2 1 false := ⟨_, _, Tryz.underlying37, rfl, rfl, ty9.size, ag9, by decide⟩
theorem fa37_3 : FieldAt Tryz.prog 37 3 3 1 false := ⟨_, _, Tryz.underlying37, rfl, rfl, ty24.size, ag24, by decide⟩
theorem c_words_step (n : Nat) (hn : n ≤ 16777216) (ih : ∀ l, Nd.szs l < n → Nd.tszs l ≤ 1073741824 → FnP Tryz.prog 9 [.sl 4 (l.map Nd.av)] (.str (Nd.wds l))) (l : List Nd) (hl : Nd.szs l = n) (ht : Nd.tszs l ≤ 1073741824) : FnP Tryz.prog 9 [.sl 4 (l.map Nd.av)] (.str (Nd.wds l)) :=  by
  refine FnC.mk Tryz.func9 (by kernel_rfl) rfl Tryz.ntmps9 rfl (fun w0 F => ?_)
  have hll : (l.map Nd.av).length = l.length := List.length_map ..
  have hsl := Nd.szs_len l
  refine W.seq ?_
  refine W.region ?_
  refine W.q (Ev.assign .k) rfl ?_
  refine W.nil ?_
  refine W.then ?_
  refine W.seq ?_
  refine W.region ?_
  refine W.q (Ev.assign .k) rfl ?_
  refine W.nil ?_
  refine W.then ?_
  refine W.seq ?_
  refine W.seq ?_
  refine W.region ?_
  refine W.q (Ev.assign .k) rfl ?_
  refine W.nil ?_
  refine W.then ?_
  refine W.block ?_
  refine W.loop (D := []) (ι := Nat) (fun i => [(4, true, .int (i : Int)), (3, true, .str (Nd.wds (l.take i))), (0, true, .sl 4 (l.map Nd.av))]) (fun _ => []) (fun i => i ≤ l.length) (fun i => l.length - i) 0 ⟨rfl, rfl, rfl, trivial⟩ (.refl _) (Nat.zero_le _) ?_
  intro i hi
  dsimp only at hi ⊢
  rcases (show i < l.length ∨ i = l.length from by omega) with hlt | hend
  · have hga := Nd.at_av l i hlt
    have hsz := Nd.at_sz l i hlt
    generalize hd : l.getD i Nd.dflt = d at hga hsz
    have hse := Nd.sz_eq d
    have hsp := Nd.szs_len d.parts
    have hat : (d.attrs.map dav).length = d.attrs.length := List.length_map ..
    have hsn := Nd.wds_snoc l i hlt
    have htm := Nd.at_tsz l i hlt
    rw [hd] at hsn htm
    have htd := Nd.tsz_eq d
    have hw1 := Nd.wds_len (l.take i)
    have hw2 := Nd.wds_len d.parts
    have htt := Nd.tszs_take l i
    refine W.seq ?_
    refine W.seq ?_
    refine W.region ?_
    refine W.q (Ev.move (.t rfl)) rfl ?_
    refine W.q (Ev.move (.t rfl)) rfl ?_
    first | refine W.q (Ev.lensl (.t rfl) Tryz.underlying24) rfl ?_ | refine W.q (Ev.lenar (i := 0) (.t rfl) rfl Tryz.underlying24) rfl ?_ | refine W.q (Ev.lenar (i := 1) (.t rfl) rfl Tryz.underlying24) rfl ?_ | refine W.q (Ev.lenar (i := 2) (.t rfl) rfl Tryz.underlying24) rfl ?_ | refine W.q (Ev.lenar (i := 3) (.t rfl) rfl Tryz.underlying24) rfl ?_
    refine W.q (Ev.lti (.t rfl) (.t rfl)) rfl ?_
    refine W.nil ?_
    refine W.then ?_
    refine W.is (t := 8) (g := true) (av' := .lit (.bool true)) rfl (congrArg (fun b => AV.lit (.bool b)) (by exact decide_eq_true (by omega))) ?_
    refine W.condT (.t rfl) ?_
    refine W.skip ?_
    refine W.then ?_
    refine W.seq ?_
    refine W.block ?_
    refine W.drawn (by kernel_rfl) (by kernel_rfl) ?_
    refine DP.q (Ev.move (.t rfl)) rfl ?_
    refine DP.q (Ev.move (.t rfl)) rfl ?_
    refine DP.q (Ev.move (.t rfl)) rfl ?_
    refine DP.q (Ev.at (E := 37) (.t rfl) (.t rfl) Tryz.underlying24 ty37 (fun _ => ⟨by omega, hga⟩) rfl rfl) rfl ?_
    first | refine DP.q (Ev.fae (.t rfl) fa37_2 rfl) rfl ?_ | refine DP.q (Ev.fab (.t rfl) fa37_2) rfl ?_ | refine DP.q (Ev.faa (.t rfl) fa37_2) rfl ?_
    first | refine DP.q (Ev.lde1 (.t rfl) ag9) rfl ?_ | refine DP.q (Ev.ldb1 0 (.t rfl) rfl ag9 rfl) rfl ?_ | refine DP.q (Ev.ldb1 1 (.t rfl) rfl ag9 rfl) rfl ?_ | refine DP.q (Ev.ldb1 2 (.t rfl) rfl ag9 rfl) rfl ?_ | refine DP.q (Ev.ldb1 3 (.t rfl) rfl ag9 rfl) rfl ?_
    refine DP.q (Ev.move (.t rfl)) rfl ?_
    refine DP.q (Ev.move (.t rfl)) rfl ?_
    refine DP.q (Ev.at (E := 37) (.t rfl) (.t rfl) Tryz.underlying24 ty37 (fun _ => ⟨by omega, hga⟩) rfl rfl) rfl ?_
    first | refine DP.q (Ev.fae (.t rfl) fa37_3 rfl) rfl ?_ | refine DP.q (Ev.fab (.t rfl) fa37_3) rfl ?_ | refine DP.q (Ev.faa (.t rfl) fa37_3) rfl ?_
    first | refine DP.q (Ev.lde1 (.t rfl) ag24) rfl ?_ | refine DP.q (Ev.ldb1 0 (.t rfl) rfl ag24 rfl) rfl ?_ | refine DP.q (Ev.ldb1 1 (.t rfl) rfl ag24 rfl) rfl ?_ | refine DP.q (Ev.ldb1 2 (.t rfl) rfl ag24 rfl) rfl ?_ | refine DP.q (Ev.ldb1 3 (.t rfl) rfl ag24 rfl) rfl ?_
    refine DP.callp (ih d.parts (by omega) (by omega)) ⟨(.t rfl), trivial⟩ rfl ?_
    refine DP.q (Ev.cat (.t rfl) (.t rfl) (fun _ => by first | omega | (simp only [List.length_append]; omega) | (simp [-List.length_flatMap]; omega) | (simp; omega))) rfl ?_
    refine DP.q (Ev.cat (.t rfl) (.t rfl) (fun _ => by first | omega | (simp only [List.length_append]; omega) | (simp [-List.length_flatMap]; omega) | (simp; omega))) rfl ?_
    refine DP.q (Ev.assign (.t rfl)) rfl ?_
    refine DP.nil ?_
    refine W.blk_normal ?_
    refine W.then ?_
    refine W.region ?_
    refine W.q (Ev.move (.t rfl)) rfl ?_
    first | refine W.q (Ev.add (.t rfl) .k (fun _ => by omega)) rfl ?_ | refine W.q (Ev.addw (.t rfl) .k) rfl ?_
    refine W.q (Ev.assign (.t rfl)) rfl ?_
    refine W.nil ?_
    refine W.then ?_
    refine W.is (t := 3) (g := true) (av' := .str (Nd.wds (l.take (i + 1)))) rfl (congrArg AV.str hsn.symm) ?_
    refine W.reach (D := []) (i + 1) ⟨rfl, rfl, rfl, trivial⟩ (.refl _) ⟨by show i + 1 ≤ _; omega, by show _ - (i + 1) < _; omega⟩
  · have he : l.take i = l := List.take_of_length_le (by omega)
    rw [he]
    refine W.seq ?_
    refine W.seq ?_
    refine W.region ?_
    refine W.q (Ev.move (.t rfl)) rfl ?_
    refine W.q (Ev.move (.t rfl)) rfl ?_
    first | refine W.q (Ev.lensl (.t rfl) Tryz.underlying24) rfl ?_ | refine W.q (Ev.lenar (i := 0) (.t rfl) rfl Tryz.underlying24) rfl ?_ | refine W.q (Ev.lenar (i := 1) (.t rfl) rfl Tryz.underlying24) rfl ?_ | refine W.q (Ev.lenar (i := 2) (.t rfl) rfl Tryz.underlying24) rfl ?_ | refine W.q (Ev.lenar (i := 3) (.t rfl) rfl Tryz.underlying24) rfl ?_
    refine W.q (Ev.lti (.t rfl) (.t rfl)) rfl ?_
    refine W.nil ?_
    refine W.then ?_
    refine W.is (t := 8) (g := true) (av' := .lit (.bool false)) rfl (congrArg (fun b => AV.lit (.bool b)) (by exact decide_eq_false (by omega))) ?_
    refine W.condF (.t rfl) ?_
    refine W.exit ?_
    refine W.then_exit ?_
    refine W.then_exit ?_
    refine W.blk_hit ?_
    refine W.then ?_
    refine W.seq ?_
    refine W.region ?_
    refine W.q (Ev.move (.t rfl)) rfl ?_
    refine W.q (Ev.assign (.t rfl)) rfl ?_
    refine W.nil ?_
    refine W.then ?_
    refine W.ret ?_
    refine W.retn (M' := []) (rs := [.tmp 2]) (avs := [_]) Tryz.results9 ⟨rfl, trivial⟩ rfl (.refl _) ?_
    exact ⟨rfl, rfl⟩

theorem c_words (l : List Nd) (hl : Nd.szs l ≤ 16777216) (ht : Nd.tszs l ≤ 1073741824) : FnP Tryz.prog 9 [.sl 4 (l.map Nd.av)] (.str (Nd.wds l)) := by
  suffices H : ∀ n, n ≤ 16777216 → ∀ l, Nd.szs l = n → Nd.tszs l ≤ 1073741824 → FnP Tryz.prog 9 [.sl 4 (l.map Nd.av)] (.str (Nd.wds l)) from H _ hl l rfl ht
  intro n
  induction n using Nat.strongRecOn with
  | _ n ih => exact fun hn l hl ht => c_words_step n hn (fun l' h' ht' => ih _ h' (by omega) l' rfl ht') l hl ht

end WWords

end Go.Proofs.YtgjndpgcpohnoaaGreatDoor
end

section
set_option linter.unusedVariables false
set_option linter.unusedSimpArgs false
namespace Go.Vl
structure Pk where
  name : List UInt8
  attr : List UInt8
  deep : Bool
namespace Pk
abbrev dfl : Pk := ⟨[], [], false⟩
def fits (p : Pk) (d : Nd) : Bool := !(d.name == [] || (p.name != [] && p.name != d.name)) && (p.attr == [] || d.attrs.any fun a => a.1 == p.attr)
abbrev Fl := Nat → Bool
abbrev row (n : Nat) (f : Fl) : AV := .sl 1 ((List.range n).map fun k => AV.bool (f k))
def ahead (ps : List Pk) (r w : Fl) (k : Nat) : Bool := (k == 0 || ((ps.getD k dfl).deep && w (k - 1))) || (!(ps.getD k dfl).deep && r (k - 1))
def ends (ps : List Pk) (r w : Fl) (d : Nd) (k : Nat) : Bool := ahead ps r w k && fits (ps.getD k dfl) d
def far (ps : List Pk) (r w : Fl) (d : Nd) (k : Nat) : Bool := w k || ends ps r w d k
mutual
/-- the paths that are found within a node, among nodes -/
def fnd (ps : List Pk) : Nd → List Int → Fl → Fl → List (List Int)
  | .mk n a t q, path, r, w => fnds ps 0 q path r w
def fnds (ps : List Pk) : Nat → List Nd → List Int → Fl → Fl → List (List Int)
  | _, [], _, _, _ => []
  | i, d :: l, path, r, w =>
    (if d.name = [] then [] else (if ends ps r w d (ps.length - 1) then [path ++ [(i : Int)]] else []) ++ fnd ps d (path ++ [(i : Int)]) (ends ps r w d) (far ps r w d)) ++ fnds ps (i + 1) l path r w
end
theorem fnd_eq (ps : List Pk) (d : Nd) (path : List Int) (r w : Fl) : fnd ps d path r w = fnds ps 0 d.parts path r w := by cases d; rfl
mutual
theorem fnd_len (ps : List Pk) : ∀ (d : Nd) (path : List Int) (r w : Fl), (fnd ps d path r w).length + 1 ≤ d.sz
  | .mk n a t q, path, r, w => by have := fnds_len ps q 0 path r w; simp only [fnd, Nd.sz]; omega
theorem fnds_len (ps : List Pk) : ∀ (l : List Nd) (i : Nat) (path : List Int) (r w : Fl), (fnds ps i l path r w).length ≤ Nd.szs l
  | [], _, _, _, _ => Nat.zero_le _
  | d :: l, i, path, r, w => by
    have h1 := fnd_len ps d (path ++ [(i : Int)]) (ends ps r w d) (far ps r w d)
    have h2 := fnds_len ps l (i + 1) path r w
    rw [fnds, List.length_append, Nd.szs]
    split
    · simp only [List.length_nil]; omega
    · rw [List.length_append]
      split <;> simp only [List.length_nil, List.length_cons] <;> omega
end
mutual
/-- what looser picks find -/
theorem fnd_sub (ps ps' : List Pk) (Rel : Fl → Fl → Fl → Fl → Prop)
    (hs : ∀ d r w r' w', d.name ≠ [] → Rel r w r' w' → Rel (ends ps r w d) (far ps r w d) (ends ps' r' w' d) (far ps' r' w' d) ∧ (ends ps r w d (ps.length - 1) = true → ends ps' r' w' d (ps'.length - 1) = true)) :
    ∀ (d : Nd) (path : List Int) (r w r' w' : Fl), Rel r w r' w' → ∀ q ∈ fnd ps d path r w, q ∈ fnd ps' d path r' w'
  | .mk n a t p, path, r, w, r', w', hr, q, hq => by rw [fnd] at hq ⊢; exact fnds_sub ps ps' Rel hs p 0 path r w r' w' hr q hq
theorem fnds_sub (ps ps' : List Pk) (Rel : Fl → Fl → Fl → Fl → Prop)
    (hs : ∀ d r w r' w', d.name ≠ [] → Rel r w r' w' → Rel (ends ps r w d) (far ps r w d) (ends ps' r' w' d) (far ps' r' w' d) ∧ (ends ps r w d (ps.length - 1) = true → ends ps' r' w' d (ps'.length - 1) = true)) :
    ∀ (l : List Nd) (i : Nat) (path : List Int) (r w r' w' : Fl), Rel r w r' w' → ∀ q ∈ fnds ps i l path r w, q ∈ fnds ps' i l path r' w'
  | [], _, _, _, _, _, _, _, q, hq => by simp [fnds] at hq
  | d :: l, i, path, r, w, r', w', hr, q, hq => by
    rw [fnds, List.mem_append] at hq ⊢
    rcases hq with hq | hq
    · left
      by_cases hn : d.name = []
      · simp [hn] at hq
      · rw [if_neg hn, List.mem_append] at hq ⊢
        obtain ⟨h1, h2⟩ := hs d r w r' w' hn hr
        rcases hq with hq | hq
        · left
          by_cases he : ends ps r w d (ps.length - 1) = true
          · rw [if_pos he] at hq; rw [if_pos (h2 he)]; exact hq
          · rw [if_neg he] at hq; cases hq
        · right
          exact fnd_sub ps ps' Rel hs d _ _ _ _ _ h1 q hq
    · right
      exact fnds_sub ps ps' Rel hs l _ _ _ _ _ _ hr q hq
end
mutual
theorem fnd_sl (ps : List Pk) : ∀ (d : Nd) (path : List Int) (r w : Fl), ∃ S, List.Sublist S (Nd.pths d) ∧ fnd ps d path r w = S.map (path ++ ·)
  | .mk n a t p, path, r, w => by rw [fnd, Nd.pths]; exact fnds_sl ps p 0 path r w
/-- what is found are paths, in their order -/
theorem fnds_sl (ps : List Pk) : ∀ (l : List Nd) (i : Nat) (path : List Int) (r w : Fl), ∃ S, List.Sublist S (Nd.pthsFrom i l) ∧ fnds ps i l path r w = S.map (path ++ ·)
  | [], _, _, _, _ => ⟨[], List.nil_sublist _, rfl⟩
  | d :: l, i, path, r, w => by
    obtain ⟨S1, h1, e1⟩ := fnd_sl ps d (path ++ [(i : Int)]) (ends ps r w d) (far ps r w d)
    obtain ⟨S2, h2, e2⟩ := fnds_sl ps l (i + 1) path r w
    rw [fnds, Nd.pthsFrom, e1, e2]
    have hm : List.Sublist (S1.map ((i : Int) :: ·)) (d.pths.map ((i : Int) :: ·)) := h1.map _
    have em : S1.map ((path ++ [(i : Int)]) ++ ·) = (S1.map ((i : Int) :: ·)).map (path ++ ·) := by
      rw [List.map_map]; congr 1; funext s; simp
    by_cases hn : d.name = []
    · rw [if_pos hn]
      exact ⟨S2, (h2.trans (List.sublist_append_right _ _)).trans (List.sublist_cons_self _ _), rfl⟩
    · rw [if_neg hn, em]
      split
      · exact ⟨[(i : Int)] :: (S1.map ((i : Int) :: ·) ++ S2), (hm.append h2).cons_cons _, by simp⟩
      · exact ⟨S1.map ((i : Int) :: ·) ++ S2, (hm.append h2).cons _, by simp⟩
end
mutual
theorem fnd_at (ps : List Pk) : ∀ (d : Nd) (path : List Int) (r w : Fl), ∀ q ∈ fnd ps d path r w, ∃ s e, q = path ++ s ∧ Nd.atP d.parts s e ∧ e.name ≠ [] ∧ fits (ps.getD (ps.length - 1) dfl) e = true
  | .mk n a t p, path, r, w, q, hq => by
    rw [fnd] at hq
    obtain ⟨j, s, e, h1, h2, h3⟩ := fnds_at ps p 0 path r w q hq
    exact ⟨(j : Int) :: s, e, by rw [h1, Nat.zero_add], h2, h3⟩
/-- the nodes that are found fit the last pick -/
theorem fnds_at (ps : List Pk) : ∀ (l : List Nd) (i : Nat) (path : List Int) (r w : Fl), ∀ q ∈ fnds ps i l path r w, ∃ (j : Nat) (s : List Int) (e : Nd), q = path ++ (((i + j : Nat) : Int) :: s) ∧ Nd.atP l ((j : Int) :: s) e ∧ e.name ≠ [] ∧ fits (ps.getD (ps.length - 1) dfl) e = true
  | [], _, _, _, _, q, hq => by simp [fnds] at hq
  | d :: l, i, path, r, w, q, hq => by
    rw [fnds, List.mem_append] at hq
    rcases hq with hq | hq
    · by_cases hn : d.name = []
      · simp [hn] at hq
      · rw [if_neg hn, List.mem_append] at hq
        rcases hq with hq | hq
        · by_cases he : ends ps r w d (ps.length - 1) = true
          · rw [if_pos he, List.mem_singleton] at hq
            refine ⟨0, [], d, by simpa using hq, ⟨0, rfl, by simp, .inl ⟨rfl, rfl⟩⟩, hn, ?_⟩
            simp only [ends, Bool.and_eq_true] at he; exact he.2
          · rw [if_neg he] at hq; cases hq
        · obtain ⟨s, e, h1, h3, h4⟩ := fnd_at ps d _ _ _ q hq
          refine ⟨0, s, e, by rw [h1, List.append_assoc]; rfl, ⟨0, rfl, by simp, .inr ⟨?_, by simpa using h3⟩⟩, h4⟩
          rintro rfl; exact h3.elim
    · obtain ⟨j, s, e, h1, ⟨k, hk, hlt, hx⟩, h5⟩ := fnds_at ps l (i + 1) path r w q hq
      refine ⟨j + 1, s, e, by rw [h1]; congr 3; omega, ⟨k + 1, by omega, by simp; omega, by simpa using hx⟩, h5⟩
end
/-- is a path right ahead of the other one, and part of it? -/
def around (x a : List Int) : Bool := decide (x.length < a.length) && decide (a.take x.length = x)
theorem around_miss (path s t : List Int) (i j : Int) (h : i ≠ j) : around (path ++ i :: s) (path ++ j :: t) = false := by
  cases hc : around (path ++ i :: s) (path ++ j :: t) with
  | false => rfl
  | true =>
    exfalso
    simp only [around, Bool.and_eq_true, decide_eq_true_eq] at hc
    have h1 := congrArg (·[path.length]?) hc.2
    simp at h1
    exact h h1.symm
theorem fnds_shape (ps : List Pk) (l : List Nd) (i : Nat) (path : List Int) (r w : Fl) : ∀ q ∈ fnds ps i l path r w, ∃ (j : Nat) (s : List Int), i ≤ j ∧ q = path ++ (j : Int) :: s := fun q hq => by
  obtain ⟨j, s, e, h1, _⟩ := fnds_at ps l i path r w q hq
  exact ⟨i + j, s, by omega, h1⟩
theorem fnd_shape (ps : List Pk) (d : Nd) (path : List Int) (r w : Fl) : ∀ q ∈ fnd ps d path r w, ∃ (j : Int) (s : List Int), q = path ++ j :: s := fun q hq => by
  rw [fnd_eq] at hq
  obtain ⟨j, s, _, h⟩ := fnds_shape ps _ _ _ _ _ q hq
  exact ⟨j, s, h⟩
mutual
theorem fnd_within (p q : Pk) (hq : q.deep = true) : ∀ (d : Nd) (path : List Int) (r w r1 w1 r2 w2 : Fl), fnd [p, q] d path r w = (fnd [q] d path r1 w1).filter fun a => w 0 || (fnd [p] d path r2 w2).any fun x => around x a
  | .mk _ _ _ l, path, r, w, r1, w1, r2, w2 => by rw [fnd, fnd, fnd]; exact fnds_within p q hq l 0 path r w r1 w1 r2 w2
theorem fnds_within (p q : Pk) (hq : q.deep = true) : ∀ (l : List Nd) (i : Nat) (path : List Int) (r w r1 w1 r2 w2 : Fl), fnds [p, q] i l path r w = (fnds [q] i l path r1 w1).filter fun a => w 0 || (fnds [p] i l path r2 w2).any fun x => around x a
  | [], _, _, _, _, _, _, _, _ => rfl
  | d :: l, i, path, r, w, r1, w1, r2, w2 => by
    have h2 := fnds_within p q hq l (i + 1) path r w r1 w1 r2 w2
    have h1 := fnd_within p q hq d (path ++ [(i : Int)]) (ends [p, q] r w d) (far [p, q] r w d) (ends [q] r1 w1 d) (far [q] r1 w1 d) (ends [p] r2 w2 d) (far [p] r2 w2 d)
    rw [fnds, fnds, fnds, h1, h2]
    rw [List.filter_append]
    have hC : ∀ a ∈ fnds [q] (i + 1) l path r1 w1, (w 0 || ((if d.name = [] then [] else (if ends [p] r2 w2 d ([p].length - 1) then [path ++ [(i : Int)]] else []) ++ fnd [p] d (path ++ [(i : Int)]) (ends [p] r2 w2 d) (far [p] r2 w2 d)) ++ fnds [p] (i + 1) l path r2 w2).any fun x => around x a) =
        (w 0 || (fnds [p] (i + 1) l path r2 w2).any fun x => around x a) := by
      intro a ha
      obtain ⟨j, s, hj, rfl⟩ := fnds_shape _ _ _ _ _ _ a ha
      rw [List.any_append]
      have : ((if d.name = [] then [] else (if ends [p] r2 w2 d ([p].length - 1) then [path ++ [(i : Int)]] else []) ++ fnd [p] d (path ++ [(i : Int)]) (ends [p] r2 w2 d) (far [p] r2 w2 d)).any fun x => around x (path ++ (j : Int) :: s)) = false := by
        rw [List.any_eq_false]
        intro x hx
        split at hx
        · cases hx
        · rw [List.mem_append] at hx
          rcases hx with hx | hx
          · split at hx
            · rw [List.mem_singleton] at hx; subst hx
              rw [around_miss path [] s i j (by omega)]; simp
            · cases hx
          · obtain ⟨j', s', rfl⟩ := fnd_shape _ _ _ _ _ x hx
            have := around_miss path (j' :: s') s i j (by omega)
            simp only [List.append_assoc, List.singleton_append]
            rw [this]; simp
      rw [this, Bool.false_or]
    rw [List.filter_congr hC]
    congr 1
    by_cases hn : d.name = []
    · simp [hn]
    · rw [if_neg hn, if_neg hn, if_neg hn, List.filter_append]
      have e1 : ends [p, q] r w d ([p, q].length - 1) = (w 0 && fits q d) := by simp [ends, ahead, hq]
      have e2 : ends [q] r1 w1 d ([q].length - 1) = fits q d := by simp [ends, ahead]
      have e3 : ends [p] r2 w2 d ([p].length - 1) = fits p d := by simp [ends, ahead]
      have e4 : far [p, q] r w d 0 = (w 0 || fits p d) := by simp [far, ends, ahead]
      rw [e1, e2, e3, e4]
      have hXC : ∀ s : List Int, ((fnds [p] (i + 1) l path r2 w2).any fun x => around x (path ++ (i : Int) :: s)) = false := by
        intro s
        rw [List.any_eq_false]
        intro x hx
        obtain ⟨j, s', hj, rfl⟩ := fnds_shape _ _ _ _ _ _ x hx
        rw [around_miss path s' s j i (by omega)]; simp
      congr 1
      · cases hf : fits q d with
        | false => simp
        | true =>
          rw [Bool.and_true, if_pos rfl, List.filter_cons, List.filter_nil]
          have : (((if fits p d = true then [path ++ [(i : Int)]] else []) ++ fnd [p] d (path ++ [(i : Int)]) (ends [p] r2 w2 d) (far [p] r2 w2 d) ++ fnds [p] (i + 1) l path r2 w2).any fun x => around x (path ++ [(i : Int)])) = false := by
            rw [List.any_append, hXC [], Bool.or_false, List.any_eq_false]
            intro x hx
            rw [List.mem_append] at hx
            rcases hx with hx | hx
            · split at hx
              · rw [List.mem_singleton] at hx; subst hx; simp [around]
              · cases hx
            · obtain ⟨j', s', rfl⟩ := fnd_shape _ _ _ _ _ x hx
              simp [around]
          rw [this, Bool.or_false]
      · refine List.filter_congr ?_
        intro a ha
        obtain ⟨j, s, rfl⟩ := fnd_shape _ _ _ _ _ a ha
        have := hXC (j :: s)
        rw [List.any_append, List.append_assoc, List.singleton_append, this, Bool.or_false, List.any_append, Bool.or_assoc]
        congr 1
        congr 1
        cases fits p d with
        | false => simp
        | true => simp [around, List.take_append, List.take_of_length_le (Nat.le_succ path.length)]
end
mutual
/-- elements; those of a name -/
def els : Nd → Nat
  | .mk _ _ _ l => elss l
def elss : List Nd → Nat
  | [] => 0
  | d :: l => (if d.name = [] then 0 else 1 + els d) + elss l
end
mutual
def nms (s : List UInt8) : Nd → Nat
  | .mk _ _ _ l => nmss s l
def nmss (s : List UInt8) : List Nd → Nat
  | [] => 0
  | d :: l => (if d.name = [] then 0 else (if d.name = s then 1 else 0) + nms s d) + nmss s l
end
mutual
theorem els_le : ∀ d : Nd, els d + 1 ≤ d.sz
  | .mk _ a _ l => by have := elss_le l; simp only [els, Nd.sz]; omega
theorem elss_le : ∀ l : List Nd, elss l ≤ Nd.szs l
  | [] => Nat.le_refl _
  | d :: l => by have := els_le d; have := elss_le l; simp only [elss, Nd.szs]; split <;> omega
end
mutual
theorem nms_le (s : List UInt8) : ∀ d : Nd, nms s d + 1 ≤ d.sz
  | .mk _ a _ l => by have := nmss_le s l; simp only [nms, Nd.sz]; omega
theorem nmss_le (s : List UInt8) : ∀ l : List Nd, nmss s l ≤ Nd.szs l
  | [] => Nat.le_refl _
  | d :: l => by have := nms_le s d; have := nmss_le s l; simp only [nmss, Nd.szs]; split <;> (try split) <;> omega
end
mutual
theorem fnd_star (p : Pk) (hp : p.name = [] ∧ p.attr = []) : ∀ (d : Nd) (path : List Int) (r w : Fl), (fnd [p] d path r w).length = els d
  | .mk _ _ _ l, path, r, w => by rw [fnd, els]; exact fnds_stars p hp l 0 path r w
theorem fnds_stars (p : Pk) (hp : p.name = [] ∧ p.attr = []) : ∀ (l : List Nd) (i : Nat) (path : List Int) (r w : Fl), (fnds [p] i l path r w).length = elss l
  | [], _, _, _, _ => rfl
  | d :: l, i, path, r, w => by
    have h1 := fnd_star p hp d (path ++ [(i : Int)]) (ends [p] r w d) (far [p] r w d)
    have h2 := fnds_stars p hp l (i + 1) path r w
    rw [fnds, List.length_append, elss, h2]
    by_cases hn : d.name = []
    · rw [if_pos hn, if_pos hn]; rfl
    · have : ends [p] r w d ([p].length - 1) = true := by simp [ends, ahead, fits, hp, hn]
      rw [if_neg hn, if_neg hn, List.length_append, this, h1, if_pos rfl]; rfl
end
mutual
theorem fnd_name (p : Pk) (hp : p.name ≠ [] ∧ p.attr = []) : ∀ (d : Nd) (path : List Int) (r w : Fl), (fnd [p] d path r w).length = nms p.name d
  | .mk _ _ _ l, path, r, w => by rw [fnd, nms]; exact fnds_name p hp l 0 path r w
theorem fnds_name (p : Pk) (hp : p.name ≠ [] ∧ p.attr = []) : ∀ (l : List Nd) (i : Nat) (path : List Int) (r w : Fl), (fnds [p] i l path r w).length = nmss p.name l
  | [], _, _, _, _ => rfl
  | d :: l, i, path, r, w => by
    have h1 := fnd_name p hp d (path ++ [(i : Int)]) (ends [p] r w d) (far [p] r w d)
    have h2 := fnds_name p hp l (i + 1) path r w
    rw [fnds, List.length_append, nmss, h2]
    by_cases hn : d.name = []
    · rw [if_pos hn, if_pos hn]; rfl
    · have : ends [p] r w d ([p].length - 1) = (d.name == p.name) := by
        by_cases he : d.name = p.name
        · simp [ends, ahead, fits, hp, hn, he]
        · have he' : ¬ p.name = d.name := fun h => he h.symm
          have e : fits p d = false := by
            unfold fits
            rw [show (d.name == []) = false by simpa using hn, show (p.name != []) = true by simpa using hp.1, show (p.name != d.name) = true by simpa using he']; rfl
          have e2 : (d.name == p.name) = false := by simpa using he
          rw [e2]
          simp [ends, ahead, e]
      rw [if_neg hn, if_neg hn, List.length_append, this, h1]
      congr 1
      congr 1
      by_cases he : d.name = p.name <;> simp [he]
end
abbrev oddS (s : List UInt8) : Bool := !(s == []) && !(nameOk s)
def odd (p : Pk) : Bool := oddS p.name || oddS p.attr
/-- picks that are no fault -/
structure ok (p : Pk) : Prop where
  n : p.name.length ≤ 1000
  a : p.attr.length ≤ 1000
  o : odd p = false
abbrev dp (p : Pk) : Pk := ⟨p.name, p.attr, true⟩
mutual
theorem fnd_same' (q : Pk) : ∀ (d : Nd) (path : List Int) (r w r1 w1 : Fl), fnd [dp q] d path r w = fnd [q] d path r1 w1
  | .mk _ _ _ l, path, r, w, r1, w1 => by rw [fnd, fnd]; exact fnds_same' q l 0 path r w r1 w1
theorem fnds_same' (q : Pk) : ∀ (l : List Nd) (i : Nat) (path : List Int) (r w r1 w1 : Fl), fnds [dp q] i l path r w = fnds [q] i l path r1 w1
  | [], _, _, _, _, _, _ => rfl
  | d :: l, i, path, r, w, r1, w1 => by
    rw [fnds, fnds, fnd_same' q d _ _ _ (ends [q] r1 w1 d) (far [q] r1 w1 d), fnds_same' q l _ _ _ _ r1 w1]
    rfl
end
end Pk
def upto {α : Type} (f : α → α) (l : List α) (i : Nat) : List α := (l.take i).map f ++ l.drop i
section sl
variable {x : Cx} {g : Bool} {L : List (Tmp × Bool × AV)} {M : List ME} {ty T : TypeId} {o1 o2 : Operand}
end sl
end Go.Vl
end

section
set_option linter.unusedVariables false
set_option linter.unusedSimpArgs false
set_option maxRecDepth 100000
namespace Go.Proofs.YtgjndpgcpohnoaaGreatDoor
open Go.Vl

namespace WLinksSafe
theorem ty3 : Ty Tryz.prog 3 1 8 (.int .i64 0) := Ty.of (by kernel_rfl)
theorem ty9 : Ty Tryz.prog 9 1 16 (.string ⟨#[]⟩) := Ty.of (by kernel_rfl)
theorem ty24 : Ty Tryz.prog 24 1 24 (.slice none 0 0) := Ty.of (by kernel_rfl)
theorem ty34 : Ty Tryz.prog 34 2 32 (.agg #[.string ⟨#[]⟩, .string ⟨#[]⟩]) := Ty.of (by kernel_rfl)
theorem ty35 : Ty Tryz.prog 35 1 24 (.slice none 0 0) := Ty.of (by kernel_rfl)
theorem ty37 : Ty Tryz.prog 37 4 80 (.agg #[.string ⟨#[]⟩, .slice none 0 0, .string ⟨#[]⟩, .slice none 0 0]) := Ty.of (by kernel_rfl)
theorem ag35 : IsAgg Tryz.prog 35 false := ⟨_, Tryz.underlying35, rfl⟩
theorem fa37_1 : FieldAt Tryz.prog 37 1 1 1 false := ⟨_, _, Tryz.underlying37, rfl, rfl, ty35.size, ag35, by decide⟩
theorem st34 : StructAt Tryz.prog 34 [(0, 1), (1, 1)] := ⟨_, Tryz.underlying34, rfl, ty9.size, rfl, ty9.size, trivial⟩
theorem st37 : StructAt Tryz.prog 37 [(0, 1), (1, 1), (2, 1), (3, 1)] := ⟨_, Tryz.underlying37, rfl, ty9.size, rfl, ty35.size, rfl, ty9.size, rfl, ty24.size, trivial⟩
theorem c_LinksSafe (l : List Int) (vs : List (List UInt8)) (hl : l.length ≤ 1048576) (hv : vs.length ≤ 1048576) (hvs : ∀ s ∈ vs, s.length ≤ 4194304) : FnP Tryz.prog 3 [.sl 1 (l.map AV.int), .sl 1 (vs.map AV.str)] (.bool true) :=  by
  refine FnC.mk Tryz.func3 (by kernel_rfl) rfl Tryz.ntmps3 rfl (fun w0 F => ?_)
  have hx : ∀ x ∈ ([[104, 116, 116, 112], [109, 97, 105, 108, 116, 111]] : List (List UInt8)), x.length ≤ 1000 ∧ Url.scheme (x ++ [58]) = (x, true) := by decide
  have hb : Lk.bad [[104, 114, 101, 102]] [] ([104, 114, 101, 102], [120, 58]) = true := by decide
  have cN := WLinked.c_Links [[104, 114, 101, 102]] [] (by decide) (by decide) (fun x hx => by cases hx) [Nd.mk [97] [([104, 114, 101, 102], [120, 58])] [] []] (by decide) (by refine ⟨⟨fun x hx => ?_, trivial⟩, trivial⟩; rw [List.mem_singleton.1 hx]; show (2 : Nat) ≤ _; decide)
  rw [show Lk.lks [[104, 114, 101, 102]] [] [Nd.mk [97] [([104, 114, 101, 102], [120, 58])] [] []] = [Nd.mk [97] [] [] []] from by simp only [Lk.lks, Lk.lk, Lk.lkA]; rw [List.filter_cons_of_neg (by rw [hb]; simp), List.filter_nil]] at cN
  refine W.seq ?_
  refine W.region ?_
  refine W.q (Ev.assign .k) rfl ?_
  refine W.nil ?_
  refine W.then ?_
  refine W.seq ?_
  refine W.region ?_
  refine W.q (Ev.move (.t rfl)) rfl ?_
  refine W.call (WNodes.c_Nodes l hl 4 6 (by decide) (by decide) (by decide)) ⟨(.t rfl), .k, .k, trivial⟩ (.refl _) rfl ?_
  rintro _ _ ⟨v17, ns, rest, rfl, rfl, hn1, hn2, hn3, hn4, hn5⟩
  have hns := Nd.szs_len ns
  refine W.q (Ev.move (.t rfl)) rfl ?_
  refine W.q (Ev.extract (.t rfl) rfl) rfl ?_
  refine W.q (Ev.extract (.t rfl) rfl) rfl ?_
  refine W.q (Ev.assign (.t rfl)) rfl ?_
  refine W.q (Ev.assign (.t rfl)) rfl ?_
  refine W.nil ?_
  refine W.freezeA (M1 := []) (M2 := []) (D := []) (v := v17) (L' := [(5, true, .sl 4 (ns.map Nd.av))]) (.refl _) ⟨⟨_, rfl, .one .hit⟩, trivial⟩ (FrzMs.refl _) ?_
  refine W.then ?_
  refine W.seq ?_
  refine W.region ?_
  refine W.q (Ev.move (.t rfl)) rfl ?_
  refine W.call (WCopM.c_copiedM ns (by omega)) ⟨(.t rfl), trivial⟩ (.refl _) rfl ?_
  rintro _ _ ⟨v21, ms, rfl, hms, rfl⟩
  refine W.freezeA (M1 := Nm.mems 34 ms) (M2 := Nm.mems 34 ms) (D := []) (v := v21) (L' := [(21, true, .sl 4 (Nm.avs ms))]) (.refl _) ⟨⟨_, rfl, .one .hit⟩, trivial⟩ (FrzMs.refl _) ?_
  have hcs := Nm.cnts_szs ms
  rw [hms] at hcs
  refine W.q (Ev.assign (.t rfl)) rfl ?_
  refine W.nil ?_
  refine W.then ?_
  refine W.seq ?_
  refine W.region ?_
  refine W.alloc ty3 rfl rfl ?_
  intro b7
  first | refine W.stb 0 (.t rfl) .k rfl ty3 rfl rfl rfl ?_ | refine W.stb 1 (.t rfl) .k rfl ty3 rfl rfl rfl ?_ | refine W.stb 2 (.t rfl) .k rfl ty3 rfl rfl rfl ?_
  refine W.nil ?_
  refine W.then ?_
  refine W.seq ?_
  refine W.region ?_
  refine W.q (Ev.move (.t rfl)) rfl ?_
  refine W.q (Ev.move (.t rfl)) rfl ?_
  refine W.call (WSetL.c_setLinks vs hv b7 ms 0 (by rw [hms]; omega) (by omega)) ⟨(.t rfl), (.t rfl), (.t rfl), trivial⟩ ((List.Perm.of_eq (List.append_nil _).symm)) rfl ?_
  rintro _ _ ⟨rfl, rfl⟩
  refine W.freezeD (M' := [.box b7 3 [.int ((0 + Nm.cnts ms : Nat) : Int)]]) (t := 5) (Nm.sets vs 0 ms) (List.Perm.of_eq (List.append_nil _)) (by rw [Nm.sets_avs]; rfl) ?_
  have hs1 := Nm.sets_nds vs ms 0
  rw [hms] at hs1
  have hvk : Lk.voks 4194304 (Nm.nds (Nm.sets vs 0 ms)) := Nm.sets_voks vs 4194304 hvs ms 0 (by rw [hms]; exact Lk.drs_voks 4194304 (by decide) _ _ _ ns (Nat.le_refl _) hn4)
  obtain ⟨_, _, _, htz⟩ := Nd.drs_facts _ _ _ ns (Nat.le_refl _) hn4
  generalize Nm.nds (Nm.sets vs 0 ms) = tt at hs1 hvk ⊢
  obtain ⟨hs1, hs2⟩ := hs1
  have hX1 := Lk.lks_szs [[104, 114, 101, 102]] [[104, 116, 116, 112], [109, 97, 105, 108, 116, 111]] tt
  have hX2 := Lk.lks_tszs [[104, 114, 101, 102]] [[104, 116, 116, 112], [109, 97, 105, 108, 116, 111]] tt
  have hXv := Lk.lks_voks 4194304 [[104, 114, 101, 102]] [[104, 116, 116, 112], [109, 97, 105, 108, 116, 111]] tt hvk
  have cX := WLinked.c_Links [[104, 114, 101, 102]] [[104, 116, 116, 112], [109, 97, 105, 108, 116, 111]] (by decide) (by decide) hx tt (by omega) hvk
  have cY := WLinked.c_Links [[104, 114, 101, 102]] [[104, 116, 116, 112], [109, 97, 105, 108, 116, 111]] (by decide) (by decide) hx (Lk.lks [[104, 114, 101, 102]] [[104, 116, 116, 112], [109, 97, 105, 108, 116, 111]] tt) (by omega) hXv
  rw [Lk.lks_idem] at cY
  have cW := WWords.c_words (Lk.lks [[104, 114, 101, 102]] [[104, 116, 116, 112], [109, 97, 105, 108, 116, 111]] tt) (by omega) (by omega)
  rw [Lk.lks_wds] at cW
  have hXs := Lk.lks_sfs [[104, 114, 101, 102]] [[104, 116, 116, 112], [109, 97, 105, 108, 116, 111]] tt
  generalize (Lk.lks [[104, 114, 101, 102]] [[104, 116, 116, 112], [109, 97, 105, 108, 116, 111]] tt) = X at *
  refine W.nil ?_
  refine W.then ?_
  refine W.seq ?_
  refine W.region ?_
  refine W.bs (es := [_, _]) Tryz.underlying23 ty9 ⟨rfl, .k, rfl, rfl, rfl, .k, rfl, rfl, trivial⟩ rfl (by decide) rfl rfl ?_
  refine W.q (Ev.assign (.t rfl)) rfl ?_
  refine W.nil ?_
  refine W.then ?_
  refine W.seq ?_
  refine W.region ?_
  refine W.bs (es := [_]) Tryz.underlying23 ty9 ⟨rfl, .k, rfl, rfl, trivial⟩ rfl (by decide) rfl rfl ?_
  refine W.q (Ev.move (.t rfl)) rfl ?_
  refine W.q (Ev.move (.t rfl)) rfl ?_
  refine W.callp (WCopied.c_copied tt (by omega)) ⟨(.t rfl), trivial⟩ rfl ?_
  refine W.callp (cX) ⟨(.t rfl), (.t rfl), (.t rfl), trivial⟩ rfl ?_
  refine W.q (Ev.move (.t rfl)) rfl ?_
  refine W.q (Ev.extract (.t rfl) rfl) rfl ?_
  refine W.q (Ev.extract (.t rfl) rfl) rfl ?_
  refine W.q (Ev.assign (.t rfl)) rfl ?_
  refine W.q (Ev.assign (.t rfl)) rfl ?_
  refine W.nil ?_
  refine W.then ?_
  refine W.seq ?_
  refine W.region ?_
  refine W.bs (es := [_]) Tryz.underlying23 ty9 ⟨rfl, .k, rfl, rfl, trivial⟩ rfl (by decide) rfl rfl ?_
  refine W.q (Ev.move (.t rfl)) rfl ?_
  refine W.q (Ev.move (.t rfl)) rfl ?_
  refine W.callp (WCopied.c_copied X (by omega)) ⟨(.t rfl), trivial⟩ rfl ?_
  refine W.callp (cY) ⟨(.t rfl), (.t rfl), (.t rfl), trivial⟩ rfl ?_
  refine W.q (Ev.move (.t rfl)) rfl ?_
  refine W.q (Ev.extract (.t rfl) rfl) rfl ?_
  refine W.q (Ev.extract (.t rfl) rfl) rfl ?_
  refine W.q (Ev.assign (.t rfl)) rfl ?_
  refine W.q (Ev.assign (.t rfl)) rfl ?_
  refine W.nil ?_
  refine W.then ?_
  refine W.seq ?_
  refine W.region ?_
  refine W.bs (es := [_]) Tryz.underlying23 ty9 ⟨rfl, .k, rfl, rfl, trivial⟩ rfl (by decide) rfl rfl ?_
  refine W.q (Ev.build ty34 st34 rfl (fun hg => ⟨_, _, _, rfl, .k, rfl, rfl, rfl, _, _, _, rfl, .k, rfl, rfl, rfl, rfl⟩)) rfl ?_
  refine W.bs (es := [_]) Tryz.underlying35 ty34 ⟨rfl, (.t rfl), rfl, rfl, trivial⟩ rfl (by decide) rfl rfl ?_
  refine W.q (Ev.build ty37 st37 rfl (fun hg => ⟨_, _, _, rfl, .k, rfl, rfl, rfl, _, _, _, rfl, (.t rfl), rfl, rfl, rfl, rfl⟩)) rfl ?_
  refine W.nils (t := 46) (g := true) (cs' := [.str [97], .sl 2 [dav ([104, 114, 101, 102], [120, 58])], .str [], .sl 4 []]) rfl ⟨.inl rfl, .inl rfl, .inl rfl, .inr ⟨rfl, 4, rfl⟩, trivial⟩ ?_
  refine W.bs (es := [_]) Tryz.underlying24 ty37 ⟨rfl, (.t rfl), rfl, rfl, trivial⟩ rfl (by decide) rfl rfl ?_
  refine W.callp (cN) ⟨(.t rfl), (by first | exact .k | exact .kn), (.t rfl), trivial⟩ rfl ?_
  refine W.q (Ev.move (.t rfl)) rfl ?_
  refine W.q (Ev.extract (.t rfl) rfl) rfl ?_
  refine W.q (Ev.extract (.t rfl) rfl) rfl ?_
  refine W.q (Ev.assign (.t rfl)) rfl ?_
  refine W.q (Ev.assign (.t rfl)) rfl ?_
  refine W.nil ?_
  refine W.then ?_
  refine W.seq ?_
  refine W.region ?_
  refine W.q (Ev.move (.t rfl)) rfl ?_
  refine W.q (Ev.eqi (.t rfl) .k) rfl ?_
  refine W.q (Ev.move (.t rfl)) rfl ?_
  refine W.is (t := 53) (g := true) (av' := .bool true) rfl (rfl) ?_
  refine W.gyes rfl rfl ?_
  refine W.q (Ev.move (.t rfl)) rfl ?_
  refine W.gyes rfl rfl ?_
  refine W.q (Ev.eqi (.t rfl) .k) rfl ?_
  refine W.q (Ev.and (.t rfl) ⟨_, _, rfl, rfl, by first | (simp; done) | (intro hg_ hp_; simp [hp_]; done) | (simp <;> omega; done) | (simp_all; done) | grind⟩) rfl ?_
  refine W.q (Ev.move (.t rfl)) rfl ?_
  refine W.is (t := 57) (g := true) (av' := .bool true) rfl (rfl) ?_
  refine W.gyes rfl rfl ?_
  refine W.q (Ev.move (.t rfl)) rfl ?_
  refine W.gyes rfl rfl ?_
  refine W.q (Ev.eqi (.t rfl) .k) rfl ?_
  refine W.q (Ev.and (.t rfl) ⟨_, _, rfl, rfl, by first | (simp; done) | (intro hg_ hp_; simp [hp_]; done) | (simp <;> omega; done) | (simp_all; done) | grind⟩) rfl ?_
  refine W.q (Ev.move (.t rfl)) rfl ?_
  refine W.is (t := 61) (g := true) (av' := .bool true) rfl (rfl) ?_
  refine W.gyes rfl rfl ?_
  refine W.q (Ev.move (.t rfl)) rfl ?_
  refine W.gyes rfl rfl ?_
  first | refine W.q (Ev.lensl (.t rfl) Tryz.underlying24) rfl ?_ | refine W.q (Ev.lenar (i := 0) (.t rfl) rfl Tryz.underlying24) rfl ?_ | refine W.q (Ev.lenar (i := 1) (.t rfl) rfl Tryz.underlying24) rfl ?_ | refine W.q (Ev.lenar (i := 2) (.t rfl) rfl Tryz.underlying24) rfl ?_
  refine W.gyes rfl rfl ?_
  refine W.q (Ev.eqi (.t rfl) .k) rfl ?_
  refine W.q (Ev.and (.t rfl) ⟨_, _, rfl, rfl, by first | (simp; done) | (intro hg_ hp_; simp [hp_]; done) | (simp <;> omega; done) | (simp_all; done) | grind⟩) rfl ?_
  refine W.q (Ev.move (.t rfl)) rfl ?_
  refine W.is (t := 66) (g := true) (av' := .bool true) rfl (congrArg AV.bool (by decide)) ?_
  refine W.gyes rfl rfl ?_
  refine W.q (Ev.move (.t rfl)) rfl ?_
  refine W.gyes rfl rfl ?_
  refine W.q (Ev.at (E := 37) (e := Nd.avx (Nd.mk [97] [] [] [])) (.t rfl) .k Tryz.underlying24 ty37 (fun _ => ⟨by decide, rfl⟩) rfl rfl) rfl ?_
  refine W.gyes rfl rfl ?_
  first | refine W.q (Ev.fae (.t rfl) fa37_1 rfl) rfl ?_ | refine W.q (Ev.fab (.t rfl) fa37_1) rfl ?_ | refine W.q (Ev.faa (.t rfl) fa37_1) rfl ?_
  refine W.gyes rfl rfl ?_
  first | refine W.q (Ev.lde1 (.t rfl) ag35) rfl ?_ | refine W.q (Ev.ldb1 0 (.t rfl) rfl ag35 rfl) rfl ?_ | refine W.q (Ev.ldb1 1 (.t rfl) rfl ag35 rfl) rfl ?_ | refine W.q (Ev.ldb1 2 (.t rfl) rfl ag35 rfl) rfl ?_
  refine W.gyes rfl rfl ?_
  first | refine W.q (Ev.lensl (.t rfl) Tryz.underlying35) rfl ?_ | refine W.q (Ev.lenar (i := 0) (.t rfl) rfl Tryz.underlying35) rfl ?_ | refine W.q (Ev.lenar (i := 1) (.t rfl) rfl Tryz.underlying35) rfl ?_ | refine W.q (Ev.lenar (i := 2) (.t rfl) rfl Tryz.underlying35) rfl ?_
  refine W.gyes rfl rfl ?_
  refine W.q (Ev.eqi (.t rfl) .k) rfl ?_
  refine W.q (Ev.and (.t rfl) ⟨_, _, rfl, rfl, by first | (simp; done) | (intro hg_ hp_; simp [hp_]; done) | (simp <;> omega; done) | (simp_all; done) | grind⟩) rfl ?_
  refine W.q (Ev.move (.t rfl)) rfl ?_
  refine W.is (t := 74) (g := true) (av' := .bool true) rfl (congrArg AV.bool (by decide)) ?_
  refine W.gyes rfl rfl ?_
  refine W.q (Ev.move (.t rfl)) rfl ?_
  refine W.gyes rfl rfl ?_
  refine W.q (Ev.move (.t rfl)) rfl ?_
  refine W.gyes rfl rfl ?_
  refine W.callp (WSame.c_same X (by omega)) ⟨(.t rfl), (.t rfl), trivial⟩ rfl ?_
  refine W.q (Ev.and (.t rfl) ⟨_, _, rfl, rfl, by first | (simp; done) | (intro hg_ hp_; simp [hp_]; done) | (simp <;> omega; done) | (simp_all; done) | grind⟩) rfl ?_
  refine W.q (Ev.move (.t rfl)) rfl ?_
  refine W.is (t := 79) (g := true) (av' := .bool true) rfl (rfl) ?_
  refine W.gyes rfl rfl ?_
  refine W.q (Ev.move (.t rfl)) rfl ?_
  refine W.gyes rfl rfl ?_
  refine W.callp (cW) ⟨(.t rfl), trivial⟩ rfl ?_
  refine W.gyes rfl rfl ?_
  refine W.q (Ev.move (.t rfl)) rfl ?_
  refine W.gyes rfl rfl ?_
  refine W.callp (WWords.c_words tt (by omega) (by omega)) ⟨(.t rfl), trivial⟩ rfl ?_
  refine W.gyes rfl rfl ?_
  refine W.q (Ev.eqs (.t rfl) (.t rfl)) rfl ?_
  refine W.q (Ev.and (.t rfl) ⟨_, _, rfl, rfl, by first | (simp; done) | (intro hg_ hp_; simp [hp_]; done) | (simp <;> omega; done) | (simp_all; done) | grind⟩) rfl ?_
  refine W.q (Ev.move (.t rfl)) rfl ?_
  refine W.is (t := 86) (g := true) (av' := .bool true) rfl (congrArg AV.bool (by simp)) ?_
  refine W.gyes rfl rfl ?_
  refine W.q (Ev.move (.t rfl)) rfl ?_
  refine W.gyes rfl rfl ?_
  refine W.q (Ev.move (.t rfl)) rfl ?_
  refine W.gyes rfl rfl ?_
  refine W.callp (WLSafe.c_linksSafe [[104, 116, 116, 112], [109, 97, 105, 108, 116, 111]] (by decide) hx X (by omega) hXv hXs) ⟨(.t rfl), (.t rfl), trivial⟩ rfl ?_
  refine W.q (Ev.and (.t rfl) ⟨_, _, rfl, rfl, by first | (simp; done) | (intro hg_ hp_; simp [hp_]; done) | (simp <;> omega; done) | (simp_all; done) | grind⟩) rfl ?_
  refine W.q (Ev.assign (.t rfl)) rfl ?_
  refine W.nil ?_
  refine W.then ?_
  refine W.ret ?_
  refine W.retn (M' := []) (D := [_]) (rs := [.tmp 4]) (avs := [_]) Tryz.results3 ⟨rfl, trivial⟩ rfl (.refl _) ?_
  exact ⟨rfl, rfl⟩

end WLinksSafe

end Go.Proofs.YtgjndpgcpohnoaaGreatDoor
end

section
set_option linter.unusedVariables false
set_option linter.unusedSimpArgs false
namespace Go.Vl
open Go.RowKit (Below)
mutual
/-- the cells of a datum without pointers -/
def dcells : DataW Unit → List Value
  | .lit (.int k z) => [.int k z]
  | .agg ps => dcellsL ps
  | _ => []
def dcellsL : List (DataW Unit) → List Value
  | [] => []
  | d :: l => dcells d ++ dcellsL l
end
end Go.Vl
end
