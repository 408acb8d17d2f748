/-
  Trees that are drawn.
-/
import Derived.Test.YtpjngpegkoohgaaDrawn
import Derived.Test.YtpjngpegkoohgaaBase
set_option linter.unusedVariables false
set_option linter.unusedSimpArgs false
set_option maxRecDepth 100000
namespace Go.Proofs.Ytpjngpegkoohgaa
open Go.Vl

namespace WNodes
theorem ty3 : Ty Try.prog 3 1 8 (.int .i64 0) := Ty.of (by kernel_rfl)
theorem ty9 : Ty Try.prog 9 1 16 (.string ⟨#[]⟩) := Ty.of (by kernel_rfl)
theorem ty24 : Ty Try.prog 24 1 24 (.slice none 0 0) := Ty.of (by kernel_rfl)
theorem ty40 : Ty Try.prog 40 1 24 (.slice none 0 0) := Ty.of (by kernel_rfl)
theorem ty42 : Ty Try.prog 42 4 80 (.agg #[.string ⟨#[]⟩, .slice none 0 0, .string ⟨#[]⟩, .slice none 0 0]) := Ty.of (by kernel_rfl)
theorem ty45 : Ty Try.prog 45 2 32 (.agg #[.string ⟨#[]⟩, .string ⟨#[]⟩]) := Ty.of (by kernel_rfl)
theorem ag3 : IsAgg Try.prog 3 false := ⟨_, Try.underlying3, rfl⟩
theorem ag9 : IsAgg Try.prog 9 false := ⟨_, Try.underlying9, rfl⟩
theorem ag24 : IsAgg Try.prog 24 false := ⟨_, Try.underlying24, rfl⟩
theorem ag40 : IsAgg Try.prog 40 false := ⟨_, Try.underlying40, rfl⟩
theorem ag42 : IsAgg Try.prog 42 true := ⟨_, Try.underlying42, rfl⟩
theorem fa42_0 : FieldAt Try.prog 42 0 0 1 false := ⟨_, _, Try.underlying42, rfl, rfl, ty9.size, ag9, by decide⟩
theorem fa42_1 : FieldAt Try.prog 42 1 1 1 false := ⟨_, _, Try.underlying42, rfl, rfl, ty40.size, ag40, by decide⟩
theorem fa42_3 : FieldAt Try.prog 42 3 3 1 false := ⟨_, _, Try.underlying42, rfl, rfl, ty24.size, ag24, by decide⟩
theorem st42 : StructAt Try.prog 42 [(0, 1), (1, 1), (2, 1), (3, 1)] := ⟨_, Try.underlying42, rfl, ty9.size, rfl, ty40.size, rfl, ty9.size, rfl, ty24.size, trivial⟩
theorem st45 : StructAt Try.prog 45 [(0, 1), (1, 1)] := ⟨_, Try.underlying45, rfl, ty9.size, rfl, ty9.size, trivial⟩
theorem ni24 : NotInt Try.prog 24 := .inl ⟨_, Try.underlying24⟩
theorem c_Nodes_step (l : List Int) (hl : l.length ≤ 1048576) (ih : ∀ l' : List Int, l'.length < l.length → ∀ (deep : Int) (n : Nat), 0 ≤ deep → deep ≤ 1000 → n ≤ 1000 → FnC Try.prog 5 [.sl 1 (l'.map AV.int), .int deep, .int (n : Int)] [] (fun r M => ∃ (v : Value) (ns : List Nd) (rest : List Int), r = .tup [.lit v, .sl 1 (rest.map AV.int)] ∧ M = [.arr v 42 4 (ns.map Nd.av)] ∧ Nd.szs ns + 2 * rest.length ≤ 2 * l'.length ∧ rest.length ≤ l'.length ∧ Nd.wfs ns ∧ Nd.drs deep.toNat false ns ∧ ns.length ≤ n)) (deep : Int) (n : Nat) (hd0 : 0 ≤ deep) (hd1 : deep ≤ 1000) (hn : n ≤ 1000) : FnC Try.prog 5 [.sl 1 (l.map AV.int), .int deep, .int (n : Int)] [] (fun r M => ∃ (v : Value) (ns : List Nd) (rest : List Int), r = .tup [.lit v, .sl 1 (rest.map AV.int)] ∧ M = [.arr v 42 4 (ns.map Nd.av)] ∧ Nd.szs ns + 2 * rest.length ≤ 2 * l.length ∧ rest.length ≤ l.length ∧ Nd.wfs ns ∧ Nd.drs deep.toNat false ns ∧ ns.length ≤ n) :=  by
  refine FnC.mk Try.func5 (by kernel_rfl) rfl Try.ntmps5 rfl (fun w0 F => ?_)
  have hhref : ([104, 114, 101, 102] : List UInt8) ≠ [] := by simp
  refine W.seq ?_
  refine W.region ?_
  refine W.q (Ev.assign .k) rfl ?_
  refine W.q (Ev.assign .k) rfl ?_
  refine W.nil ?_
  refine W.then ?_
  refine W.seq ?_
  refine W.region ?_
  refine W.q (Ev.assign .k) rfl ?_
  refine W.nil ?_
  refine W.then ?_
  refine W.seq ?_
  refine W.block ?_
  refine W.own_nil 42 4 ?_
  refine W.loop (D := []) (ι := List Int × List Nd × Value) (fun z => [(0, true, .sl 1 (z.1.map AV.int)), (1, true, .int deep), (2, true, .int (n : Int)), (8, true, .lit z.2.2)]) (fun z => [.arr z.2.2 42 4 (z.2.1.map Nd.av)]) (fun z => z.1.length ≤ l.length ∧ Nd.szs z.2.1 + 2 * z.1.length ≤ 2 * l.length ∧ Nd.wfs z.2.1 ∧ Nd.drs deep.toNat false z.2.1 ∧ z.2.1.length ≤ n) (fun z => z.1.length) (l, [], .slice none 0 0) ⟨rfl, rfl, rfl, rfl, trivial⟩ (.refl _) ⟨Nat.le_refl _, by simp [Nd.szs], trivial, trivial, Nat.zero_le _⟩ ?_
  rintro ⟨r, out, v⟩ ⟨hi1, hi2, hi3, hi4, hi5⟩
  dsimp only at hi1 hi2 hi3 hi4 hi5 ⊢
  refine W.seq ?_
  refine W.seq ?_
  refine W.region ?_
  refine W.q (Ev.move (.t rfl)) rfl ?_
  first | refine W.q (Ev.lensl (.t rfl) Try.underlying22) rfl ?_ | refine W.q (Ev.lenar (i := 0) (.t rfl) rfl Try.underlying22) rfl ?_ | refine W.q (Ev.lenar (i := 1) (.t rfl) rfl Try.underlying22) rfl ?_ | refine W.q (Ev.lenar (i := 2) (.t rfl) rfl Try.underlying22) rfl ?_ | refine W.q (Ev.lenar (i := 3) (.t rfl) rfl Try.underlying22) rfl ?_
  refine W.q (Ev.gti (.t rfl) .k) rfl ?_
  refine W.q (Ev.move (.t rfl)) rfl ?_
  refine W.qgT rfl rfl (Ev.move (.t rfl)) rfl ?_
  first | refine W.qgT rfl rfl (Ev.lensl (.c rfl) Try.underlying24) rfl ?_ | refine W.qgT rfl rfl (Ev.lenar (i := 0) (.c rfl) rfl Try.underlying24) rfl ?_ | refine W.qgT rfl rfl (Ev.lenar (i := 1) (.c rfl) rfl Try.underlying24) rfl ?_ | refine W.qgT rfl rfl (Ev.lenar (i := 2) (.c rfl) rfl Try.underlying24) rfl ?_ | refine W.qgT rfl rfl (Ev.lenar (i := 3) (.c rfl) rfl Try.underlying24) rfl ?_
  refine W.qgT rfl rfl (Ev.move (.t rfl)) rfl ?_
  refine W.qgT rfl rfl (Ev.lti (.c rfl) (.c rfl)) rfl ?_
  refine W.q (Ev.and (.t rfl) ⟨_, _, rfl, rfl, by first | (simp; done) | (intro hg_ hp_; simp [hp_]; done) | (simp <;> omega; done) | (simp_all; done) | grind⟩) rfl ?_
  refine W.nil ?_
  refine W.then ?_
  refine W.cond (.t rfl) (fun hc_t21 => ?_) (fun hc_t21 => ?_)
  · have h21 := hc_t21
    simp only [Bool.and_eq_true, decide_eq_true_eq] at h21
    obtain ⟨x, r2, rfl⟩ : ∃ x r2, r = x :: r2 := List.exists_cons_of_ne_nil (by intro h; rw [h] at h21; simp at h21)
    have hrl : ((x :: r2).map AV.int).length = r2.length + 1 := by simp
    have hg0 : ((x :: r2).map AV.int)[0]? = some (AV.int x) := rfl
    have hol : (out.map Nd.av).length = out.length := List.length_map ..
    have hos := Nd.szs_len out
    rw [List.length_cons] at hi1 hi2
    refine W.skip ?_
    refine W.then ?_
    refine W.block ?_
    refine W.seq ?_
    refine W.region ?_
    refine W.q (Ev.move (.t rfl)) rfl ?_
    refine W.q (Ev.at (E := 3) (.t rfl) .k Try.underlying22 ty3 (fun _ => ⟨by omega, hg0⟩) rfl rfl) rfl ?_
    first | refine W.q (Ev.lde1 (.t rfl) ag3) rfl ?_ | refine W.q (Ev.ldb1 0 (.t rfl) rfl ag3 rfl) rfl ?_ | refine W.q (Ev.ldb1 1 (.t rfl) rfl ag3 rfl) rfl ?_ | refine W.q (Ev.ldb1 2 (.t rfl) rfl ag3 rfl) rfl ?_ | refine W.q (Ev.ldb1 3 (.t rfl) rfl ag3 rfl) rfl ?_
    refine W.q (Ev.assign (.t rfl)) rfl ?_
    refine W.nil ?_
    refine W.then ?_
    refine W.seq ?_
    refine W.region ?_
    refine W.q (Ev.move (.t rfl)) rfl ?_
    refine W.q (Ev.subsl (lo := some (.const (.int .i64 1))) (hi := none) (.t rfl) Try.underlying22 ty3 (Ov.k (g := true) (L := [])) rfl (fun _ => by first | omega | (simp; omega))) rfl ?_
    refine W.q (Ev.assign (.t rfl)) rfl ?_
    refine W.nil ?_
    refine W.is (t := 0) (g := true) (av' := .sl 1 (r2.map AV.int)) rfl (congrArg (AV.sl 1) (by rw [List.take_of_length_le (by omega)]; rfl)) ?_
    refine W.then ?_
    refine W.seq ?_
    refine W.region ?_
    refine W.q (Ev.move (.t rfl)) rfl ?_
    refine W.callp (Base.c_Picked x 6 (by decide) (by decide)) ⟨(.t rfl), .k, trivial⟩ rfl ?_
    refine W.q (Ev.assign (.t rfl)) rfl ?_
    refine W.nil ?_
    refine W.then ?_
    refine W.block ?_
    refine W.seq ?_
    refine W.region ?_
    refine W.q (Ev.move (.t rfl)) rfl ?_
    refine W.q (Ev.eqi (.t rfl) .k) rfl ?_
    refine W.q (Ev.assign (.t rfl)) rfl ?_
    refine W.nil ?_
    refine W.then ?_
    refine W.cond (.t rfl) (fun hc_t29 => ?_) (fun hc_t29 => ?_)
    · refine W.seq ?_
      refine W.region ?_
      refine W.q (Ev.move (.t rfl)) rfl ?_
      refine W.q (Ev.move (.t rfl)) rfl ?_
      refine W.q (Ev.assign (.t rfl)) rfl ?_
      refine W.q (Ev.assign (.t rfl)) rfl ?_
      refine W.nil ?_
      refine W.then ?_
      refine W.ret ?_
      refine W.blk_ret ?_
      refine W.blk_ret ?_
      refine W.then_ret ?_
      refine W.blk_ret ?_
      refine W.then_ret ?_
      refine W.retn (M' := [.arr v 42 4 _]) (rs := [.tmp 6, .tmp 7]) (avs := [_, _]) Try.results5 ⟨rfl, rfl, trivial⟩ rfl (.refl _) ?_
      exact ⟨v, out, _, rfl, rfl, by omega, by omega, hi3, hi4, hi5⟩
    · refine W.seq ?_
      refine W.region ?_
      refine W.q (Ev.move (.t rfl)) rfl ?_
      refine W.q (Ev.eqi (.t rfl) .k) rfl ?_
      refine W.q (Ev.assign (.t rfl)) rfl ?_
      refine W.nil ?_
      refine W.then ?_
      refine W.cond (.t rfl) (fun hc_t34 => ?_) (fun hc_t34 => ?_)
      · refine W.seq ?_
        refine W.seq ?_
        refine W.region ?_
        refine W.q (Ev.move (.t rfl)) rfl ?_
        first | refine W.q (Ev.lensl (.t rfl) Try.underlying24) rfl ?_ | refine W.q (Ev.lenar (i := 0) (.t rfl) rfl Try.underlying24) rfl ?_ | refine W.q (Ev.lenar (i := 1) (.t rfl) rfl Try.underlying24) rfl ?_ | refine W.q (Ev.lenar (i := 2) (.t rfl) rfl Try.underlying24) rfl ?_ | refine W.q (Ev.lenar (i := 3) (.t rfl) rfl Try.underlying24) rfl ?_
        refine W.q (Ev.assign (.t rfl)) rfl ?_
        refine W.nil ?_
        refine W.then ?_
        refine W.seq ?_
        refine W.region ?_
        refine W.q (Ev.move (.t rfl)) rfl ?_
        refine W.q (Ev.gti (.t rfl) .k) rfl ?_
        refine W.q (Ev.move (.t rfl)) rfl ?_
        refine W.qgT rfl rfl (Ev.move (.t rfl)) rfl ?_
        refine W.qgT rfl rfl (Ev.move (.t rfl)) rfl ?_
        first | refine W.qgT rfl rfl (Ev.sub (.c rfl) .k (fun _ => by omega)) rfl ?_ | refine W.qgT rfl rfl (Ev.subw (.c rfl) .k) rfl ?_
        refine W.qgT rfl rfl (Ev.ata 0 (.c rfl) rfl (.c rfl) Try.underlying24 ty42 (fun hg => by have h := of_decide_eq_true hg; omega)) rfl ?_
        first | refine W.qgT rfl rfl (Ev.fae (.c rfl) fa42_0 rfl) rfl ?_ | refine W.qgT rfl rfl (Ev.fab (.c rfl) fa42_0) rfl ?_ | refine W.qgT rfl rfl (Ev.faa (.c rfl) fa42_0) rfl ?_
        refine W.qgT rfl rfl (Ev.lda1g 0 (out.length - 1) 0 (e := Nd.avx (out.getD (out.length - 1) Nd.dflt)) (.c rfl) rfl (fun hg => Nd.at_av out _ (by have h := of_decide_eq_true hg; omega)) (fun hg => by have h := of_decide_eq_true hg; omega) rfl rfl rfl ag9) rfl ?_
        refine W.qgT rfl rfl (Ev.eqs (.c rfl) .k) rfl ?_
        refine W.q (Ev.and (.t rfl) ⟨_, _, rfl, rfl, by first | (simp; done) | (intro hg_ hp_; simp [hp_]; done) | (simp <;> omega; done) | (simp_all; done) | grind⟩) rfl ?_
        refine W.nil ?_
        refine W.then ?_
        refine W.cond (.t rfl) (fun hc_t49 => ?_) (fun hc_t49 => ?_)
        · refine W.exit ?_
          refine W.then_exit ?_
          refine W.blk_miss rfl ?_
          refine W.blk_hit ?_
          refine W.then ?_
          first
          | (refine W.reach (D := []) (r2, out, v) ⟨rfl, rfl, rfl, rfl, trivial⟩ (.refl _) ⟨⟨?_, ?_, ?_, ?_, ?_⟩, ?_⟩
             · show List.length r2 ≤ l.length; omega
             · show Nd.szs out + 2 * r2.length ≤ 2 * l.length; omega
             · exact hi3
             · exact hi4
             · exact hi5
             · show List.length r2 < List.length (x :: r2); simp only [List.length_cons]; omega)
          | (refine W.reach (D := []) (r2, out ++ [Nd.mk [] [] s55 []], v59) ⟨rfl, rfl, rfl, rfl, trivial⟩ (by rw [Nd.map_snoc]; exact .refl _) ⟨⟨?_, ?_, ?_, ?_, ?_⟩, ?_⟩
             · show List.length r2 ≤ l.length; omega
             · show Nd.szs (out ++ [_]) + 2 * _ ≤ _; rw [Nd.szs_append, Nd.szs_one, Nd.sz_eq]; simp only [Nd.attrs, Nd.parts, List.length_nil, List.length_cons, Nd.szs] at *; omega
             · exact Nd.wfs_append hi3 ⟨(Nd.wf_eq _).2 ⟨fun _ => rfl, trivial⟩, trivial⟩
             · exact Nd.drs_snoc hi4 (fun _ => Nd.lastT_of out hc_t49) (Nd.dr_text _ _ m55)
             · show List.length (out ++ [_]) ≤ n; rw [List.length_append, List.length_singleton]; omega
             · show List.length r2 < List.length (x :: r2); simp only [List.length_cons]; omega)
          | (refine W.reach (D := []) (r2, out ++ [Nd.mk s68 [] [] []], v72) ⟨rfl, rfl, rfl, rfl, trivial⟩ (by rw [Nd.map_snoc]; exact .refl _) ⟨⟨?_, ?_, ?_, ?_, ?_⟩, ?_⟩
             · show List.length r2 ≤ l.length; omega
             · show Nd.szs (out ++ [_]) + 2 * _ ≤ _; rw [Nd.szs_append, Nd.szs_one, Nd.sz_eq]; simp only [Nd.attrs, Nd.parts, List.length_nil, List.length_cons, Nd.szs] at *; omega
             · exact Nd.wfs_append hi3 ⟨(Nd.wf_eq _).2 ⟨fun _ => rfl, trivial⟩, trivial⟩
             · exact Nd.drs_snoc hi4 (fun h => absurd h (Nd.ne_vd2 _ m68)) (Nd.dr_void _ _ m68)
             · show List.length (out ++ [_]) ≤ n; rw [List.length_append, List.length_singleton]; omega
             · show List.length r2 < List.length (x :: r2); simp only [List.length_cons]; omega)
          | (refine W.reach (D := [_]) (rest2, out ++ [Nd.mk s80 [([104, 114, 101, 102], s91)] [] ns2], v107) ⟨rfl, rfl, rfl, rfl, trivial⟩ (by rw [Nd.map_snoc]; exact List.Perm.swap _ _ []) ⟨⟨?_, ?_, ?_, ?_, ?_⟩, ?_⟩
             · show List.length rest2 ≤ l.length; omega
             · show Nd.szs (out ++ [_]) + 2 * _ ≤ _; rw [Nd.szs_append, Nd.szs_one, Nd.sz_eq]; simp only [Nd.attrs, Nd.parts, List.length_nil, List.length_cons, Nd.szs] at *; omega
             · exact Nd.wfs_append hi3 ⟨(Nd.wf_eq _).2 ⟨fun h => absurd h n80, hn3⟩, trivial⟩
             · exact Nd.drs_snoc hi4 (fun h => absurd h n80) (Nd.dr_el _ _ _ _ m80 (.inr ⟨s91, m91, rfl⟩) (by simp at hc_t73; omega) (by rw [← hdk]; exact hn4) hn5)
             · show List.length (out ++ [_]) ≤ n; rw [List.length_append, List.length_singleton]; omega
             · show List.length rest2 < List.length (x :: r2); simp only [List.length_cons]; omega)
          | (refine W.reach (D := [_]) (rest2, out ++ [Nd.mk s80 [] [] ns2], v107) ⟨rfl, rfl, rfl, rfl, trivial⟩ (by rw [Nd.map_snoc]; exact List.Perm.swap _ _ []) ⟨⟨?_, ?_, ?_, ?_, ?_⟩, ?_⟩
             · show List.length rest2 ≤ l.length; omega
             · show Nd.szs (out ++ [_]) + 2 * _ ≤ _; rw [Nd.szs_append, Nd.szs_one, Nd.sz_eq]; simp only [Nd.attrs, Nd.parts, List.length_nil, List.length_cons, Nd.szs] at *; omega
             · exact Nd.wfs_append hi3 ⟨(Nd.wf_eq _).2 ⟨fun h => absurd h n80, hn3⟩, trivial⟩
             · exact Nd.drs_snoc hi4 (fun h => absurd h n80) (Nd.dr_el _ _ _ _ m80 (.inl rfl) (by simp at hc_t73; omega) (by rw [← hdk]; exact hn4) hn5)
             · show List.length (out ++ [_]) ≤ n; rw [List.length_append, List.length_singleton]; omega
             · show List.length rest2 < List.length (x :: r2); simp only [List.length_cons]; omega)
        · refine W.skip ?_
          refine W.then ?_
          refine W.region ?_
          obtain ⟨s55, m55, h55⟩ := pick_mod [[120], [97, 60, 98], [38, 97, 109, 112, 59], [121, 32, 122], [32], [60, 112, 62]] (IntKind.i64.wrap (x.tdiv 6)) 6 rfl (by decide)
          refine W.q (Ev.move (.t rfl)) rfl ?_
          refine W.bs (es := [_, _, _, _, _, _]) Try.underlying43 ty9 ⟨rfl, .k, rfl, rfl, rfl, .k, rfl, rfl, rfl, .k, rfl, rfl, rfl, .k, rfl, rfl, rfl, .k, rfl, rfl, rfl, .k, rfl, rfl, trivial⟩ rfl (by decide) rfl rfl ?_
          refine W.q (Ev.move (.t rfl)) rfl ?_
          first | refine W.q (Ev.quo (.t rfl) .k (fun _ => by decide)) rfl ?_ | refine W.q (Ev.quo (.t rfl) .k (fun _ => by omega)) rfl ?_
          refine W.callp (Base.c_Picked (IntKind.i64.wrap (x.tdiv 6)) 6 (by decide) (by decide)) ⟨(.t rfl), .k, trivial⟩ rfl ?_
          refine W.q (Ev.at (E := 9) (.t rfl) (.t rfl) Try.underlying43 ty9 (fun _ => ⟨Int.emod_nonneg _ (by decide), h55⟩) rfl rfl) rfl ?_
          first | refine W.q (Ev.lde1 (.t rfl) ag9) rfl ?_ | refine W.q (Ev.ldb1 0 (.t rfl) rfl ag9 rfl) rfl ?_ | refine W.q (Ev.ldb1 1 (.t rfl) rfl ag9 rfl) rfl ?_ | refine W.q (Ev.ldb1 2 (.t rfl) rfl ag9 rfl) rfl ?_ | refine W.q (Ev.ldb1 3 (.t rfl) rfl ag9 rfl) rfl ?_
          refine W.q (Ev.build ty42 st42 rfl (fun hg => ⟨_, _, _, rfl, (.t rfl), rfl, rfl, rfl, rfl⟩)) rfl ?_
          refine W.nils (t := 57) (g := true) (cs' := [.str [], .sl 2 [], .str s55, .sl 4 []]) rfl ⟨.inl rfl, .inr ⟨rfl, 2, rfl⟩, .inl rfl, .inr ⟨rfl, 4, rfl⟩, trivial⟩ ?_
          refine W.bs (es := [_]) Try.underlying24 ty42 ⟨rfl, (.t rfl), rfl, rfl, trivial⟩ rfl (by decide) rfl rfl ?_
          first | refine W.app 0 (.t rfl) rfl (.sl (.t rfl) (by first | (simp [AV.okc, shV]; done) | (intro e he; rw [List.mem_singleton.1 he]; rfl))) Try.underlying24 ni24 ty42 rfl rfl (by simp only [List.length_map, List.length_cons, List.length_nil]; omega) rfl ?_ | refine W.app 1 (.t rfl) rfl (.sl (.t rfl) (by first | (simp [AV.okc, shV]; done) | (intro e he; rw [List.mem_singleton.1 he]; rfl))) Try.underlying24 ni24 ty42 rfl rfl (by simp only [List.length_map, List.length_cons, List.length_nil]; omega) rfl ?_ | refine W.app 2 (.t rfl) rfl (.sl (.t rfl) (by first | (simp [AV.okc, shV]; done) | (intro e he; rw [List.mem_singleton.1 he]; rfl))) Try.underlying24 ni24 ty42 rfl rfl (by simp only [List.length_map, List.length_cons, List.length_nil]; omega) rfl ?_ | refine W.app 3 (.t rfl) rfl (.sl (.t rfl) (by first | (simp [AV.okc, shV]; done) | (intro e he; rw [List.mem_singleton.1 he]; rfl))) Try.underlying24 ni24 ty42 rfl rfl (by simp only [List.length_map, List.length_cons, List.length_nil]; omega) rfl ?_ | refine W.app 0 (.t rfl) rfl (.arr 0 (.t rfl) rfl (by first | (simp [AV.okc, shV]; done) | (intro e he; rw [List.mem_singleton.1 he]; rfl))) Try.underlying24 ni24 ty42 rfl rfl (by simp only [List.length_map, List.length_cons, List.length_nil]; omega) rfl ?_ | refine W.app 0 (.t rfl) rfl (.arr 1 (.t rfl) rfl (by first | (simp [AV.okc, shV]; done) | (intro e he; rw [List.mem_singleton.1 he]; rfl))) Try.underlying24 ni24 ty42 rfl rfl (by simp only [List.length_map, List.length_cons, List.length_nil]; omega) rfl ?_ | refine W.app 0 (.t rfl) rfl (.arr 2 (.t rfl) rfl (by first | (simp [AV.okc, shV]; done) | (intro e he; rw [List.mem_singleton.1 he]; rfl))) Try.underlying24 ni24 ty42 rfl rfl (by simp only [List.length_map, List.length_cons, List.length_nil]; omega) rfl ?_ | refine W.app 0 (.t rfl) rfl (.arr 3 (.t rfl) rfl (by first | (simp [AV.okc, shV]; done) | (intro e he; rw [List.mem_singleton.1 he]; rfl))) Try.underlying24 ni24 ty42 rfl rfl (by simp only [List.length_map, List.length_cons, List.length_nil]; omega) rfl ?_ | refine W.app 1 (.t rfl) rfl (.arr 0 (.t rfl) rfl (by first | (simp [AV.okc, shV]; done) | (intro e he; rw [List.mem_singleton.1 he]; rfl))) Try.underlying24 ni24 ty42 rfl rfl (by simp only [List.length_map, List.length_cons, List.length_nil]; omega) rfl ?_ | refine W.app 1 (.t rfl) rfl (.arr 1 (.t rfl) rfl (by first | (simp [AV.okc, shV]; done) | (intro e he; rw [List.mem_singleton.1 he]; rfl))) Try.underlying24 ni24 ty42 rfl rfl (by simp only [List.length_map, List.length_cons, List.length_nil]; omega) rfl ?_ | refine W.app 1 (.t rfl) rfl (.arr 2 (.t rfl) rfl (by first | (simp [AV.okc, shV]; done) | (intro e he; rw [List.mem_singleton.1 he]; rfl))) Try.underlying24 ni24 ty42 rfl rfl (by simp only [List.length_map, List.length_cons, List.length_nil]; omega) rfl ?_ | refine W.app 1 (.t rfl) rfl (.arr 3 (.t rfl) rfl (by first | (simp [AV.okc, shV]; done) | (intro e he; rw [List.mem_singleton.1 he]; rfl))) Try.underlying24 ni24 ty42 rfl rfl (by simp only [List.length_map, List.length_cons, List.length_nil]; omega) rfl ?_ | refine W.app 2 (.t rfl) rfl (.arr 0 (.t rfl) rfl (by first | (simp [AV.okc, shV]; done) | (intro e he; rw [List.mem_singleton.1 he]; rfl))) Try.underlying24 ni24 ty42 rfl rfl (by simp only [List.length_map, List.length_cons, List.length_nil]; omega) rfl ?_ | refine W.app 2 (.t rfl) rfl (.arr 1 (.t rfl) rfl (by first | (simp [AV.okc, shV]; done) | (intro e he; rw [List.mem_singleton.1 he]; rfl))) Try.underlying24 ni24 ty42 rfl rfl (by simp only [List.length_map, List.length_cons, List.length_nil]; omega) rfl ?_ | refine W.app 2 (.t rfl) rfl (.arr 2 (.t rfl) rfl (by first | (simp [AV.okc, shV]; done) | (intro e he; rw [List.mem_singleton.1 he]; rfl))) Try.underlying24 ni24 ty42 rfl rfl (by simp only [List.length_map, List.length_cons, List.length_nil]; omega) rfl ?_ | refine W.app 2 (.t rfl) rfl (.arr 3 (.t rfl) rfl (by first | (simp [AV.okc, shV]; done) | (intro e he; rw [List.mem_singleton.1 he]; rfl))) Try.underlying24 ni24 ty42 rfl rfl (by simp only [List.length_map, List.length_cons, List.length_nil]; omega) rfl ?_ | refine W.app 3 (.t rfl) rfl (.arr 0 (.t rfl) rfl (by first | (simp [AV.okc, shV]; done) | (intro e he; rw [List.mem_singleton.1 he]; rfl))) Try.underlying24 ni24 ty42 rfl rfl (by simp only [List.length_map, List.length_cons, List.length_nil]; omega) rfl ?_ | refine W.app 3 (.t rfl) rfl (.arr 1 (.t rfl) rfl (by first | (simp [AV.okc, shV]; done) | (intro e he; rw [List.mem_singleton.1 he]; rfl))) Try.underlying24 ni24 ty42 rfl rfl (by simp only [List.length_map, List.length_cons, List.length_nil]; omega) rfl ?_ | refine W.app 3 (.t rfl) rfl (.arr 2 (.t rfl) rfl (by first | (simp [AV.okc, shV]; done) | (intro e he; rw [List.mem_singleton.1 he]; rfl))) Try.underlying24 ni24 ty42 rfl rfl (by simp only [List.length_map, List.length_cons, List.length_nil]; omega) rfl ?_ | refine W.app 3 (.t rfl) rfl (.arr 3 (.t rfl) rfl (by first | (simp [AV.okc, shV]; done) | (intro e he; rw [List.mem_singleton.1 he]; rfl))) Try.underlying24 ni24 ty42 rfl rfl (by simp only [List.length_map, List.length_cons, List.length_nil]; omega) rfl ?_
          intro v59
          refine W.q (Ev.assign (.t rfl)) rfl ?_
          refine W.nil ?_
          refine W.blk_normal ?_
          refine W.blk_normal ?_
          refine W.then ?_
          first
          | (refine W.reach (D := []) (r2, out, v) ⟨rfl, rfl, rfl, rfl, trivial⟩ (.refl _) ⟨⟨?_, ?_, ?_, ?_, ?_⟩, ?_⟩
             · show List.length r2 ≤ l.length; omega
             · show Nd.szs out + 2 * r2.length ≤ 2 * l.length; omega
             · exact hi3
             · exact hi4
             · exact hi5
             · show List.length r2 < List.length (x :: r2); simp only [List.length_cons]; omega)
          | (refine W.reach (D := []) (r2, out ++ [Nd.mk [] [] s55 []], v59) ⟨rfl, rfl, rfl, rfl, trivial⟩ (by rw [Nd.map_snoc]; exact .refl _) ⟨⟨?_, ?_, ?_, ?_, ?_⟩, ?_⟩
             · show List.length r2 ≤ l.length; omega
             · show Nd.szs (out ++ [_]) + 2 * _ ≤ _; rw [Nd.szs_append, Nd.szs_one, Nd.sz_eq]; simp only [Nd.attrs, Nd.parts, List.length_nil, List.length_cons, Nd.szs] at *; omega
             · exact Nd.wfs_append hi3 ⟨(Nd.wf_eq _).2 ⟨fun _ => rfl, trivial⟩, trivial⟩
             · exact Nd.drs_snoc hi4 (fun _ => Nd.lastT_of out hc_t49) (Nd.dr_text _ _ m55)
             · show List.length (out ++ [_]) ≤ n; rw [List.length_append, List.length_singleton]; omega
             · show List.length r2 < List.length (x :: r2); simp only [List.length_cons]; omega)
          | (refine W.reach (D := []) (r2, out ++ [Nd.mk s68 [] [] []], v72) ⟨rfl, rfl, rfl, rfl, trivial⟩ (by rw [Nd.map_snoc]; exact .refl _) ⟨⟨?_, ?_, ?_, ?_, ?_⟩, ?_⟩
             · show List.length r2 ≤ l.length; omega
             · show Nd.szs (out ++ [_]) + 2 * _ ≤ _; rw [Nd.szs_append, Nd.szs_one, Nd.sz_eq]; simp only [Nd.attrs, Nd.parts, List.length_nil, List.length_cons, Nd.szs] at *; omega
             · exact Nd.wfs_append hi3 ⟨(Nd.wf_eq _).2 ⟨fun _ => rfl, trivial⟩, trivial⟩
             · exact Nd.drs_snoc hi4 (fun h => absurd h (Nd.ne_vd2 _ m68)) (Nd.dr_void _ _ m68)
             · show List.length (out ++ [_]) ≤ n; rw [List.length_append, List.length_singleton]; omega
             · show List.length r2 < List.length (x :: r2); simp only [List.length_cons]; omega)
          | (refine W.reach (D := [_]) (rest2, out ++ [Nd.mk s80 [([104, 114, 101, 102], s91)] [] ns2], v107) ⟨rfl, rfl, rfl, rfl, trivial⟩ (by rw [Nd.map_snoc]; exact List.Perm.swap _ _ []) ⟨⟨?_, ?_, ?_, ?_, ?_⟩, ?_⟩
             · show List.length rest2 ≤ l.length; omega
             · show Nd.szs (out ++ [_]) + 2 * _ ≤ _; rw [Nd.szs_append, Nd.szs_one, Nd.sz_eq]; simp only [Nd.attrs, Nd.parts, List.length_nil, List.length_cons, Nd.szs] at *; omega
             · exact Nd.wfs_append hi3 ⟨(Nd.wf_eq _).2 ⟨fun h => absurd h n80, hn3⟩, trivial⟩
             · exact Nd.drs_snoc hi4 (fun h => absurd h n80) (Nd.dr_el _ _ _ _ m80 (.inr ⟨s91, m91, rfl⟩) (by simp at hc_t73; omega) (by rw [← hdk]; exact hn4) hn5)
             · show List.length (out ++ [_]) ≤ n; rw [List.length_append, List.length_singleton]; omega
             · show List.length rest2 < List.length (x :: r2); simp only [List.length_cons]; omega)
          | (refine W.reach (D := [_]) (rest2, out ++ [Nd.mk s80 [] [] ns2], v107) ⟨rfl, rfl, rfl, rfl, trivial⟩ (by rw [Nd.map_snoc]; exact List.Perm.swap _ _ []) ⟨⟨?_, ?_, ?_, ?_, ?_⟩, ?_⟩
             · show List.length rest2 ≤ l.length; omega
             · show Nd.szs (out ++ [_]) + 2 * _ ≤ _; rw [Nd.szs_append, Nd.szs_one, Nd.sz_eq]; simp only [Nd.attrs, Nd.parts, List.length_nil, List.length_cons, Nd.szs] at *; omega
             · exact Nd.wfs_append hi3 ⟨(Nd.wf_eq _).2 ⟨fun h => absurd h n80, hn3⟩, trivial⟩
             · exact Nd.drs_snoc hi4 (fun h => absurd h n80) (Nd.dr_el _ _ _ _ m80 (.inl rfl) (by simp at hc_t73; omega) (by rw [← hdk]; exact hn4) hn5)
             · show List.length (out ++ [_]) ≤ n; rw [List.length_append, List.length_singleton]; omega
             · show List.length rest2 < List.length (x :: r2); simp only [List.length_cons]; omega)
      · refine W.seq ?_
        refine W.region ?_
        refine W.q (Ev.move (.t rfl)) rfl ?_
        refine W.q (Ev.eqi (.t rfl) .k) rfl ?_
        refine W.q (Ev.assign (.t rfl)) rfl ?_
        refine W.nil ?_
        refine W.then ?_
        refine W.cond (.t rfl) (fun hc_t60 => ?_) (fun hc_t60 => ?_)
        · refine W.region ?_
          obtain ⟨s68, m68, h68⟩ := pick_mod [[98, 114], [105, 109, 103]] (IntKind.i64.wrap (x.tdiv 6)) 2 rfl (by decide)
          refine W.q (Ev.move (.t rfl)) rfl ?_
          refine W.bs (es := [_, _]) Try.underlying43 ty9 ⟨rfl, .k, rfl, rfl, rfl, .k, rfl, rfl, trivial⟩ rfl (by decide) rfl rfl ?_
          refine W.q (Ev.move (.t rfl)) rfl ?_
          first | refine W.q (Ev.quo (.t rfl) .k (fun _ => by decide)) rfl ?_ | refine W.q (Ev.quo (.t rfl) .k (fun _ => by omega)) rfl ?_
          refine W.callp (Base.c_Picked (IntKind.i64.wrap (x.tdiv 6)) 2 (by decide) (by decide)) ⟨(.t rfl), .k, trivial⟩ rfl ?_
          refine W.q (Ev.at (E := 9) (.t rfl) (.t rfl) Try.underlying43 ty9 (fun _ => ⟨Int.emod_nonneg _ (by decide), h68⟩) rfl rfl) rfl ?_
          first | refine W.q (Ev.lde1 (.t rfl) ag9) rfl ?_ | refine W.q (Ev.ldb1 0 (.t rfl) rfl ag9 rfl) rfl ?_ | refine W.q (Ev.ldb1 1 (.t rfl) rfl ag9 rfl) rfl ?_ | refine W.q (Ev.ldb1 2 (.t rfl) rfl ag9 rfl) rfl ?_ | refine W.q (Ev.ldb1 3 (.t rfl) rfl ag9 rfl) rfl ?_
          refine W.q (Ev.build ty42 st42 rfl (fun hg => ⟨_, _, _, rfl, (.t rfl), rfl, rfl, rfl, rfl⟩)) rfl ?_
          refine W.nils (t := 70) (g := true) (cs' := [.str s68, .sl 2 [], .str [], .sl 4 []]) rfl ⟨.inl rfl, .inr ⟨rfl, 2, rfl⟩, .inl rfl, .inr ⟨rfl, 4, rfl⟩, trivial⟩ ?_
          refine W.bs (es := [_]) Try.underlying24 ty42 ⟨rfl, (.t rfl), rfl, rfl, trivial⟩ rfl (by decide) rfl rfl ?_
          first | refine W.app 0 (.t rfl) rfl (.sl (.t rfl) (by first | (simp [AV.okc, shV]; done) | (intro e he; rw [List.mem_singleton.1 he]; rfl))) Try.underlying24 ni24 ty42 rfl rfl (by simp only [List.length_map, List.length_cons, List.length_nil]; omega) rfl ?_ | refine W.app 1 (.t rfl) rfl (.sl (.t rfl) (by first | (simp [AV.okc, shV]; done) | (intro e he; rw [List.mem_singleton.1 he]; rfl))) Try.underlying24 ni24 ty42 rfl rfl (by simp only [List.length_map, List.length_cons, List.length_nil]; omega) rfl ?_ | refine W.app 2 (.t rfl) rfl (.sl (.t rfl) (by first | (simp [AV.okc, shV]; done) | (intro e he; rw [List.mem_singleton.1 he]; rfl))) Try.underlying24 ni24 ty42 rfl rfl (by simp only [List.length_map, List.length_cons, List.length_nil]; omega) rfl ?_ | refine W.app 3 (.t rfl) rfl (.sl (.t rfl) (by first | (simp [AV.okc, shV]; done) | (intro e he; rw [List.mem_singleton.1 he]; rfl))) Try.underlying24 ni24 ty42 rfl rfl (by simp only [List.length_map, List.length_cons, List.length_nil]; omega) rfl ?_ | refine W.app 0 (.t rfl) rfl (.arr 0 (.t rfl) rfl (by first | (simp [AV.okc, shV]; done) | (intro e he; rw [List.mem_singleton.1 he]; rfl))) Try.underlying24 ni24 ty42 rfl rfl (by simp only [List.length_map, List.length_cons, List.length_nil]; omega) rfl ?_ | refine W.app 0 (.t rfl) rfl (.arr 1 (.t rfl) rfl (by first | (simp [AV.okc, shV]; done) | (intro e he; rw [List.mem_singleton.1 he]; rfl))) Try.underlying24 ni24 ty42 rfl rfl (by simp only [List.length_map, List.length_cons, List.length_nil]; omega) rfl ?_ | refine W.app 0 (.t rfl) rfl (.arr 2 (.t rfl) rfl (by first | (simp [AV.okc, shV]; done) | (intro e he; rw [List.mem_singleton.1 he]; rfl))) Try.underlying24 ni24 ty42 rfl rfl (by simp only [List.length_map, List.length_cons, List.length_nil]; omega) rfl ?_ | refine W.app 0 (.t rfl) rfl (.arr 3 (.t rfl) rfl (by first | (simp [AV.okc, shV]; done) | (intro e he; rw [List.mem_singleton.1 he]; rfl))) Try.underlying24 ni24 ty42 rfl rfl (by simp only [List.length_map, List.length_cons, List.length_nil]; omega) rfl ?_ | refine W.app 1 (.t rfl) rfl (.arr 0 (.t rfl) rfl (by first | (simp [AV.okc, shV]; done) | (intro e he; rw [List.mem_singleton.1 he]; rfl))) Try.underlying24 ni24 ty42 rfl rfl (by simp only [List.length_map, List.length_cons, List.length_nil]; omega) rfl ?_ | refine W.app 1 (.t rfl) rfl (.arr 1 (.t rfl) rfl (by first | (simp [AV.okc, shV]; done) | (intro e he; rw [List.mem_singleton.1 he]; rfl))) Try.underlying24 ni24 ty42 rfl rfl (by simp only [List.length_map, List.length_cons, List.length_nil]; omega) rfl ?_ | refine W.app 1 (.t rfl) rfl (.arr 2 (.t rfl) rfl (by first | (simp [AV.okc, shV]; done) | (intro e he; rw [List.mem_singleton.1 he]; rfl))) Try.underlying24 ni24 ty42 rfl rfl (by simp only [List.length_map, List.length_cons, List.length_nil]; omega) rfl ?_ | refine W.app 1 (.t rfl) rfl (.arr 3 (.t rfl) rfl (by first | (simp [AV.okc, shV]; done) | (intro e he; rw [List.mem_singleton.1 he]; rfl))) Try.underlying24 ni24 ty42 rfl rfl (by simp only [List.length_map, List.length_cons, List.length_nil]; omega) rfl ?_ | refine W.app 2 (.t rfl) rfl (.arr 0 (.t rfl) rfl (by first | (simp [AV.okc, shV]; done) | (intro e he; rw [List.mem_singleton.1 he]; rfl))) Try.underlying24 ni24 ty42 rfl rfl (by simp only [List.length_map, List.length_cons, List.length_nil]; omega) rfl ?_ | refine W.app 2 (.t rfl) rfl (.arr 1 (.t rfl) rfl (by first | (simp [AV.okc, shV]; done) | (intro e he; rw [List.mem_singleton.1 he]; rfl))) Try.underlying24 ni24 ty42 rfl rfl (by simp only [List.length_map, List.length_cons, List.length_nil]; omega) rfl ?_ | refine W.app 2 (.t rfl) rfl (.arr 2 (.t rfl) rfl (by first | (simp [AV.okc, shV]; done) | (intro e he; rw [List.mem_singleton.1 he]; rfl))) Try.underlying24 ni24 ty42 rfl rfl (by simp only [List.length_map, List.length_cons, List.length_nil]; omega) rfl ?_ | refine W.app 2 (.t rfl) rfl (.arr 3 (.t rfl) rfl (by first | (simp [AV.okc, shV]; done) | (intro e he; rw [List.mem_singleton.1 he]; rfl))) Try.underlying24 ni24 ty42 rfl rfl (by simp only [List.length_map, List.length_cons, List.length_nil]; omega) rfl ?_ | refine W.app 3 (.t rfl) rfl (.arr 0 (.t rfl) rfl (by first | (simp [AV.okc, shV]; done) | (intro e he; rw [List.mem_singleton.1 he]; rfl))) Try.underlying24 ni24 ty42 rfl rfl (by simp only [List.length_map, List.length_cons, List.length_nil]; omega) rfl ?_ | refine W.app 3 (.t rfl) rfl (.arr 1 (.t rfl) rfl (by first | (simp [AV.okc, shV]; done) | (intro e he; rw [List.mem_singleton.1 he]; rfl))) Try.underlying24 ni24 ty42 rfl rfl (by simp only [List.length_map, List.length_cons, List.length_nil]; omega) rfl ?_ | refine W.app 3 (.t rfl) rfl (.arr 2 (.t rfl) rfl (by first | (simp [AV.okc, shV]; done) | (intro e he; rw [List.mem_singleton.1 he]; rfl))) Try.underlying24 ni24 ty42 rfl rfl (by simp only [List.length_map, List.length_cons, List.length_nil]; omega) rfl ?_ | refine W.app 3 (.t rfl) rfl (.arr 3 (.t rfl) rfl (by first | (simp [AV.okc, shV]; done) | (intro e he; rw [List.mem_singleton.1 he]; rfl))) Try.underlying24 ni24 ty42 rfl rfl (by simp only [List.length_map, List.length_cons, List.length_nil]; omega) rfl ?_
          intro v72
          refine W.q (Ev.assign (.t rfl)) rfl ?_
          refine W.nil ?_
          refine W.blk_normal ?_
          refine W.blk_normal ?_
          refine W.then ?_
          first
          | (refine W.reach (D := []) (r2, out, v) ⟨rfl, rfl, rfl, rfl, trivial⟩ (.refl _) ⟨⟨?_, ?_, ?_, ?_, ?_⟩, ?_⟩
             · show List.length r2 ≤ l.length; omega
             · show Nd.szs out + 2 * r2.length ≤ 2 * l.length; omega
             · exact hi3
             · exact hi4
             · exact hi5
             · show List.length r2 < List.length (x :: r2); simp only [List.length_cons]; omega)
          | (refine W.reach (D := []) (r2, out ++ [Nd.mk [] [] s55 []], v59) ⟨rfl, rfl, rfl, rfl, trivial⟩ (by rw [Nd.map_snoc]; exact .refl _) ⟨⟨?_, ?_, ?_, ?_, ?_⟩, ?_⟩
             · show List.length r2 ≤ l.length; omega
             · show Nd.szs (out ++ [_]) + 2 * _ ≤ _; rw [Nd.szs_append, Nd.szs_one, Nd.sz_eq]; simp only [Nd.attrs, Nd.parts, List.length_nil, List.length_cons, Nd.szs] at *; omega
             · exact Nd.wfs_append hi3 ⟨(Nd.wf_eq _).2 ⟨fun _ => rfl, trivial⟩, trivial⟩
             · exact Nd.drs_snoc hi4 (fun _ => Nd.lastT_of out hc_t49) (Nd.dr_text _ _ m55)
             · show List.length (out ++ [_]) ≤ n; rw [List.length_append, List.length_singleton]; omega
             · show List.length r2 < List.length (x :: r2); simp only [List.length_cons]; omega)
          | (refine W.reach (D := []) (r2, out ++ [Nd.mk s68 [] [] []], v72) ⟨rfl, rfl, rfl, rfl, trivial⟩ (by rw [Nd.map_snoc]; exact .refl _) ⟨⟨?_, ?_, ?_, ?_, ?_⟩, ?_⟩
             · show List.length r2 ≤ l.length; omega
             · show Nd.szs (out ++ [_]) + 2 * _ ≤ _; rw [Nd.szs_append, Nd.szs_one, Nd.sz_eq]; simp only [Nd.attrs, Nd.parts, List.length_nil, List.length_cons, Nd.szs] at *; omega
             · exact Nd.wfs_append hi3 ⟨(Nd.wf_eq _).2 ⟨fun _ => rfl, trivial⟩, trivial⟩
             · exact Nd.drs_snoc hi4 (fun h => absurd h (Nd.ne_vd2 _ m68)) (Nd.dr_void _ _ m68)
             · show List.length (out ++ [_]) ≤ n; rw [List.length_append, List.length_singleton]; omega
             · show List.length r2 < List.length (x :: r2); simp only [List.length_cons]; omega)
          | (refine W.reach (D := [_]) (rest2, out ++ [Nd.mk s80 [([104, 114, 101, 102], s91)] [] ns2], v107) ⟨rfl, rfl, rfl, rfl, trivial⟩ (by rw [Nd.map_snoc]; exact List.Perm.swap _ _ []) ⟨⟨?_, ?_, ?_, ?_, ?_⟩, ?_⟩
             · show List.length rest2 ≤ l.length; omega
             · show Nd.szs (out ++ [_]) + 2 * _ ≤ _; rw [Nd.szs_append, Nd.szs_one, Nd.sz_eq]; simp only [Nd.attrs, Nd.parts, List.length_nil, List.length_cons, Nd.szs] at *; omega
             · exact Nd.wfs_append hi3 ⟨(Nd.wf_eq _).2 ⟨fun h => absurd h n80, hn3⟩, trivial⟩
             · exact Nd.drs_snoc hi4 (fun h => absurd h n80) (Nd.dr_el _ _ _ _ m80 (.inr ⟨s91, m91, rfl⟩) (by simp at hc_t73; omega) (by rw [← hdk]; exact hn4) hn5)
             · show List.length (out ++ [_]) ≤ n; rw [List.length_append, List.length_singleton]; omega
             · show List.length rest2 < List.length (x :: r2); simp only [List.length_cons]; omega)
          | (refine W.reach (D := [_]) (rest2, out ++ [Nd.mk s80 [] [] ns2], v107) ⟨rfl, rfl, rfl, rfl, trivial⟩ (by rw [Nd.map_snoc]; exact List.Perm.swap _ _ []) ⟨⟨?_, ?_, ?_, ?_, ?_⟩, ?_⟩
             · show List.length rest2 ≤ l.length; omega
             · show Nd.szs (out ++ [_]) + 2 * _ ≤ _; rw [Nd.szs_append, Nd.szs_one, Nd.sz_eq]; simp only [Nd.attrs, Nd.parts, List.length_nil, List.length_cons, Nd.szs] at *; omega
             · exact Nd.wfs_append hi3 ⟨(Nd.wf_eq _).2 ⟨fun h => absurd h n80, hn3⟩, trivial⟩
             · exact Nd.drs_snoc hi4 (fun h => absurd h n80) (Nd.dr_el _ _ _ _ m80 (.inl rfl) (by simp at hc_t73; omega) (by rw [← hdk]; exact hn4) hn5)
             · show List.length (out ++ [_]) ≤ n; rw [List.length_append, List.length_singleton]; omega
             · show List.length rest2 < List.length (x :: r2); simp only [List.length_cons]; omega)
        · refine W.seq ?_
          refine W.region ?_
          refine W.q (Ev.move (.t rfl)) rfl ?_
          refine W.q (Ev.gti (.t rfl) .k) rfl ?_
          refine W.q (Ev.assign (.t rfl)) rfl ?_
          refine W.nil ?_
          refine W.then ?_
          refine W.cond (.t rfl) (fun hc_t73 => ?_) (fun hc_t73 => ?_)
          · refine W.seq ?_
            refine W.region ?_
            obtain ⟨s80, m80, h80⟩ := pick_mod [[100, 105, 118], [98], [101, 109], [112], [97], [117, 108]] (IntKind.i64.wrap (x.tdiv 6)) 6 rfl (by decide)
            have n80 : s80 ≠ [] := by intro h; subst h; simp at m80
            refine W.bs (es := [_, _, _, _, _, _]) Try.underlying43 ty9 ⟨rfl, .k, rfl, rfl, rfl, .k, rfl, rfl, rfl, .k, rfl, rfl, rfl, .k, rfl, rfl, rfl, .k, rfl, rfl, rfl, .k, rfl, rfl, trivial⟩ rfl (by decide) rfl rfl ?_
            refine W.q (Ev.move (.t rfl)) rfl ?_
            first | refine W.q (Ev.quo (.t rfl) .k (fun _ => by decide)) rfl ?_ | refine W.q (Ev.quo (.t rfl) .k (fun _ => by omega)) rfl ?_
            refine W.callp (Base.c_Picked (IntKind.i64.wrap (x.tdiv 6)) 6 (by decide) (by decide)) ⟨(.t rfl), .k, trivial⟩ rfl ?_
            refine W.q (Ev.at (E := 9) (.t rfl) (.t rfl) Try.underlying43 ty9 (fun _ => ⟨Int.emod_nonneg _ (by decide), h80⟩) rfl rfl) rfl ?_
            first | refine W.q (Ev.lde1 (.t rfl) ag9) rfl ?_ | refine W.q (Ev.ldb1 0 (.t rfl) rfl ag9 rfl) rfl ?_ | refine W.q (Ev.ldb1 1 (.t rfl) rfl ag9 rfl) rfl ?_ | refine W.q (Ev.ldb1 2 (.t rfl) rfl ag9 rfl) rfl ?_ | refine W.q (Ev.ldb1 3 (.t rfl) rfl ag9 rfl) rfl ?_
            refine W.q (Ev.build ty42 st42 rfl (fun hg => ⟨_, _, _, rfl, (.t rfl), rfl, rfl, rfl, rfl⟩)) rfl ?_
            refine W.nils (t := 82) (g := true) (cs' := [.str s80, .sl 2 [], .str [], .sl 4 []]) rfl ⟨.inl rfl, .inr ⟨rfl, 2, rfl⟩, .inl rfl, .inr ⟨rfl, 4, rfl⟩, trivial⟩ ?_
            refine W.alloc ty42 rfl rfl ?_
            intro b12
            first | refine W.stb 0 (.t rfl) (.t rfl) rfl ty42 rfl rfl rfl ?_ | refine W.stb 1 (.t rfl) (.t rfl) rfl ty42 rfl rfl rfl ?_ | refine W.stb 2 (.t rfl) (.t rfl) rfl ty42 rfl rfl rfl ?_ | refine W.stb 3 (.t rfl) (.t rfl) rfl ty42 rfl rfl rfl ?_
            refine W.nil ?_
            refine W.then ?_
            refine W.seq ?_
            refine W.seq ?_
            refine W.region ?_
            refine W.q (Ev.move (.t rfl)) rfl ?_
            first | refine W.q (Ev.quo (.t rfl) .k (fun _ => by decide)) rfl ?_ | refine W.q (Ev.quo (.t rfl) .k (fun _ => by omega)) rfl ?_
            refine W.callp (Base.c_Picked (IntKind.i64.wrap (x.tdiv 36)) 3 (by decide) (by decide)) ⟨(.t rfl), .k, trivial⟩ rfl ?_
            refine W.q (Ev.eqi (.t rfl) .k) rfl ?_
            refine W.nil ?_
            refine W.then ?_
            refine W.cond (.t rfl) (fun hc_t86 => ?_) (fun hc_t86 => ?_)
            · refine W.region ?_
              obtain ⟨s91, m91, h91⟩ := pick_mod [[], [120], [97, 34, 98, 38], [60], [104, 116, 116, 112, 58, 47, 47, 121]] (IntKind.i64.wrap (x.tdiv 100)) 5 rfl (by decide)
              refine W.bs (es := [_, _, _, _, _]) Try.underlying43 ty9 ⟨rfl, .k, rfl, rfl, rfl, .k, rfl, rfl, rfl, .k, rfl, rfl, rfl, .k, rfl, rfl, rfl, .k, rfl, rfl, trivial⟩ rfl (by decide) rfl rfl ?_
              refine W.q (Ev.move (.t rfl)) rfl ?_
              first | refine W.q (Ev.quo (.t rfl) .k (fun _ => by decide)) rfl ?_ | refine W.q (Ev.quo (.t rfl) .k (fun _ => by omega)) rfl ?_
              refine W.callp (Base.c_Picked (IntKind.i64.wrap (x.tdiv 100)) 5 (by decide) (by decide)) ⟨(.t rfl), .k, trivial⟩ rfl ?_
              refine W.q (Ev.at (E := 9) (.t rfl) (.t rfl) Try.underlying43 ty9 (fun _ => ⟨Int.emod_nonneg _ (by decide), h91⟩) rfl rfl) rfl ?_
              first | refine W.q (Ev.lde1 (.t rfl) ag9) rfl ?_ | refine W.q (Ev.ldb1 0 (.t rfl) rfl ag9 rfl) rfl ?_ | refine W.q (Ev.ldb1 1 (.t rfl) rfl ag9 rfl) rfl ?_ | refine W.q (Ev.ldb1 2 (.t rfl) rfl ag9 rfl) rfl ?_ | refine W.q (Ev.ldb1 3 (.t rfl) rfl ag9 rfl) rfl ?_
              refine W.q (Ev.build ty45 st45 rfl (fun hg => ⟨_, _, _, rfl, .k, rfl, rfl, rfl, _, _, _, rfl, (.t rfl), rfl, rfl, rfl, rfl⟩)) rfl ?_
              refine W.bs (es := [_]) Try.underlying40 ty45 ⟨rfl, (.t rfl), rfl, rfl, trivial⟩ rfl (by decide) rfl rfl ?_
              first | refine W.q (Ev.fae (.t rfl) fa42_1 rfl) rfl ?_ | refine W.q (Ev.fab (.t rfl) fa42_1) rfl ?_ | refine W.q (Ev.faa (.t rfl) fa42_1) rfl ?_
              first | refine W.stb 0 (.t rfl) (.t rfl) rfl ty40 rfl rfl rfl ?_ | refine W.stb 1 (.t rfl) (.t rfl) rfl ty40 rfl rfl rfl ?_ | refine W.stb 2 (.t rfl) (.t rfl) rfl ty40 rfl rfl rfl ?_ | refine W.stb 3 (.t rfl) (.t rfl) rfl ty40 rfl rfl rfl ?_
              refine W.nil ?_
              refine W.then ?_
              refine W.seq ?_
              refine W.region ?_
              refine W.q (Ev.move (.t rfl)) rfl ?_
              refine W.q (Ev.move (.t rfl)) rfl ?_
              first | refine W.q (Ev.sub (.t rfl) .k (fun _ => by omega)) rfl ?_ | refine W.q (Ev.subw (.t rfl) .k) rfl ?_
              refine W.call (ih r2 (by omega) (deep - 1) 4 (by simp at hc_t73; omega) (by omega) (by decide)) ⟨(.t rfl), (.t rfl), .k, trivial⟩ (.refl _) rfl ?_
              rintro _ _ ⟨v100, ns2, rest2, rfl, rfl, hn1, hn2, hn3, hn4, hn5⟩
              have hdk : (deep - 1).toNat = deep.toNat - 1 := by omega
              refine W.q (Ev.move (.t rfl)) rfl ?_
              refine W.q (Ev.extract (.t rfl) rfl) rfl ?_
              refine W.q (Ev.extract (.t rfl) rfl) rfl ?_
              refine W.freeze (M1 := [_, _]) (M2 := [_, _]) (D := []) (v := v100) (L' := [(101, true, .sl 4 (ns2.map Nd.av)), (102, true, .sl 1 (rest2.map AV.int)), (12, true, .lit (.pointer (some ⟨b12, 0, none⟩))), (1, true, .int deep), (2, true, .int (n : Int)), (8, true, .lit v)]) (.refl _) ⟨⟨_, rfl, .one .hit⟩, ⟨_, rfl, .one (.refl _)⟩, ⟨_, rfl, .one (.refl _)⟩, ⟨_, rfl, .one (.refl _)⟩, ⟨_, rfl, .one (.refl _)⟩, ⟨_, rfl, .one (.refl _)⟩, trivial⟩ ⟨.refl _, .refl _, trivial⟩ ?_
              first | refine W.q (Ev.fae (.t rfl) fa42_3 rfl) rfl ?_ | refine W.q (Ev.fab (.t rfl) fa42_3) rfl ?_ | refine W.q (Ev.faa (.t rfl) fa42_3) rfl ?_
              first | refine W.stb 0 (.t rfl) (.t rfl) rfl ty24 rfl rfl rfl ?_ | refine W.stb 1 (.t rfl) (.t rfl) rfl ty24 rfl rfl rfl ?_ | refine W.stb 2 (.t rfl) (.t rfl) rfl ty24 rfl rfl rfl ?_ | refine W.stb 3 (.t rfl) (.t rfl) rfl ty24 rfl rfl rfl ?_
              refine W.q (Ev.assign (.t rfl)) rfl ?_
              refine W.nil ?_
              refine W.then ?_
              refine W.region ?_
              refine W.q (Ev.move (.t rfl)) rfl ?_
              first | refine W.q (Ev.lden (.t rfl) ag42 ty42 rfl rfl) rfl ?_ | refine W.q (Ev.ldbn 0 (.t rfl) rfl ag42 ty42 rfl) rfl ?_ | refine W.q (Ev.ldbn 1 (.t rfl) rfl ag42 ty42 rfl) rfl ?_ | refine W.q (Ev.ldbn 2 (.t rfl) rfl ag42 ty42 rfl) rfl ?_ | refine W.q (Ev.ldbn 3 (.t rfl) rfl ag42 ty42 rfl) rfl ?_
              refine W.bs (es := [_]) Try.underlying24 ty42 ⟨rfl, (.t rfl), rfl, rfl, trivial⟩ rfl (by decide) rfl rfl ?_
              first | refine W.app 0 (.t rfl) rfl (.sl (.t rfl) (by first | (simp [AV.okc, shV]; done) | (intro e he; rw [List.mem_singleton.1 he]; rfl))) Try.underlying24 ni24 ty42 rfl rfl (by simp only [List.length_map, List.length_cons, List.length_nil]; omega) rfl ?_ | refine W.app 1 (.t rfl) rfl (.sl (.t rfl) (by first | (simp [AV.okc, shV]; done) | (intro e he; rw [List.mem_singleton.1 he]; rfl))) Try.underlying24 ni24 ty42 rfl rfl (by simp only [List.length_map, List.length_cons, List.length_nil]; omega) rfl ?_ | refine W.app 2 (.t rfl) rfl (.sl (.t rfl) (by first | (simp [AV.okc, shV]; done) | (intro e he; rw [List.mem_singleton.1 he]; rfl))) Try.underlying24 ni24 ty42 rfl rfl (by simp only [List.length_map, List.length_cons, List.length_nil]; omega) rfl ?_ | refine W.app 3 (.t rfl) rfl (.sl (.t rfl) (by first | (simp [AV.okc, shV]; done) | (intro e he; rw [List.mem_singleton.1 he]; rfl))) Try.underlying24 ni24 ty42 rfl rfl (by simp only [List.length_map, List.length_cons, List.length_nil]; omega) rfl ?_ | refine W.app 0 (.t rfl) rfl (.arr 0 (.t rfl) rfl (by first | (simp [AV.okc, shV]; done) | (intro e he; rw [List.mem_singleton.1 he]; rfl))) Try.underlying24 ni24 ty42 rfl rfl (by simp only [List.length_map, List.length_cons, List.length_nil]; omega) rfl ?_ | refine W.app 0 (.t rfl) rfl (.arr 1 (.t rfl) rfl (by first | (simp [AV.okc, shV]; done) | (intro e he; rw [List.mem_singleton.1 he]; rfl))) Try.underlying24 ni24 ty42 rfl rfl (by simp only [List.length_map, List.length_cons, List.length_nil]; omega) rfl ?_ | refine W.app 0 (.t rfl) rfl (.arr 2 (.t rfl) rfl (by first | (simp [AV.okc, shV]; done) | (intro e he; rw [List.mem_singleton.1 he]; rfl))) Try.underlying24 ni24 ty42 rfl rfl (by simp only [List.length_map, List.length_cons, List.length_nil]; omega) rfl ?_ | refine W.app 0 (.t rfl) rfl (.arr 3 (.t rfl) rfl (by first | (simp [AV.okc, shV]; done) | (intro e he; rw [List.mem_singleton.1 he]; rfl))) Try.underlying24 ni24 ty42 rfl rfl (by simp only [List.length_map, List.length_cons, List.length_nil]; omega) rfl ?_ | refine W.app 1 (.t rfl) rfl (.arr 0 (.t rfl) rfl (by first | (simp [AV.okc, shV]; done) | (intro e he; rw [List.mem_singleton.1 he]; rfl))) Try.underlying24 ni24 ty42 rfl rfl (by simp only [List.length_map, List.length_cons, List.length_nil]; omega) rfl ?_ | refine W.app 1 (.t rfl) rfl (.arr 1 (.t rfl) rfl (by first | (simp [AV.okc, shV]; done) | (intro e he; rw [List.mem_singleton.1 he]; rfl))) Try.underlying24 ni24 ty42 rfl rfl (by simp only [List.length_map, List.length_cons, List.length_nil]; omega) rfl ?_ | refine W.app 1 (.t rfl) rfl (.arr 2 (.t rfl) rfl (by first | (simp [AV.okc, shV]; done) | (intro e he; rw [List.mem_singleton.1 he]; rfl))) Try.underlying24 ni24 ty42 rfl rfl (by simp only [List.length_map, List.length_cons, List.length_nil]; omega) rfl ?_ | refine W.app 1 (.t rfl) rfl (.arr 3 (.t rfl) rfl (by first | (simp [AV.okc, shV]; done) | (intro e he; rw [List.mem_singleton.1 he]; rfl))) Try.underlying24 ni24 ty42 rfl rfl (by simp only [List.length_map, List.length_cons, List.length_nil]; omega) rfl ?_ | refine W.app 2 (.t rfl) rfl (.arr 0 (.t rfl) rfl (by first | (simp [AV.okc, shV]; done) | (intro e he; rw [List.mem_singleton.1 he]; rfl))) Try.underlying24 ni24 ty42 rfl rfl (by simp only [List.length_map, List.length_cons, List.length_nil]; omega) rfl ?_ | refine W.app 2 (.t rfl) rfl (.arr 1 (.t rfl) rfl (by first | (simp [AV.okc, shV]; done) | (intro e he; rw [List.mem_singleton.1 he]; rfl))) Try.underlying24 ni24 ty42 rfl rfl (by simp only [List.length_map, List.length_cons, List.length_nil]; omega) rfl ?_ | refine W.app 2 (.t rfl) rfl (.arr 2 (.t rfl) rfl (by first | (simp [AV.okc, shV]; done) | (intro e he; rw [List.mem_singleton.1 he]; rfl))) Try.underlying24 ni24 ty42 rfl rfl (by simp only [List.length_map, List.length_cons, List.length_nil]; omega) rfl ?_ | refine W.app 2 (.t rfl) rfl (.arr 3 (.t rfl) rfl (by first | (simp [AV.okc, shV]; done) | (intro e he; rw [List.mem_singleton.1 he]; rfl))) Try.underlying24 ni24 ty42 rfl rfl (by simp only [List.length_map, List.length_cons, List.length_nil]; omega) rfl ?_ | refine W.app 3 (.t rfl) rfl (.arr 0 (.t rfl) rfl (by first | (simp [AV.okc, shV]; done) | (intro e he; rw [List.mem_singleton.1 he]; rfl))) Try.underlying24 ni24 ty42 rfl rfl (by simp only [List.length_map, List.length_cons, List.length_nil]; omega) rfl ?_ | refine W.app 3 (.t rfl) rfl (.arr 1 (.t rfl) rfl (by first | (simp [AV.okc, shV]; done) | (intro e he; rw [List.mem_singleton.1 he]; rfl))) Try.underlying24 ni24 ty42 rfl rfl (by simp only [List.length_map, List.length_cons, List.length_nil]; omega) rfl ?_ | refine W.app 3 (.t rfl) rfl (.arr 2 (.t rfl) rfl (by first | (simp [AV.okc, shV]; done) | (intro e he; rw [List.mem_singleton.1 he]; rfl))) Try.underlying24 ni24 ty42 rfl rfl (by simp only [List.length_map, List.length_cons, List.length_nil]; omega) rfl ?_ | refine W.app 3 (.t rfl) rfl (.arr 3 (.t rfl) rfl (by first | (simp [AV.okc, shV]; done) | (intro e he; rw [List.mem_singleton.1 he]; rfl))) Try.underlying24 ni24 ty42 rfl rfl (by simp only [List.length_map, List.length_cons, List.length_nil]; omega) rfl ?_
              intro v107
              refine W.q (Ev.assign (.t rfl)) rfl ?_
              refine W.nil ?_
              refine W.blk_normal ?_
              refine W.blk_normal ?_
              refine W.then ?_
              first
              | (refine W.reach (D := []) (r2, out, v) ⟨rfl, rfl, rfl, rfl, trivial⟩ (.refl _) ⟨⟨?_, ?_, ?_, ?_, ?_⟩, ?_⟩
                 · show List.length r2 ≤ l.length; omega
                 · show Nd.szs out + 2 * r2.length ≤ 2 * l.length; omega
                 · exact hi3
                 · exact hi4
                 · exact hi5
                 · show List.length r2 < List.length (x :: r2); simp only [List.length_cons]; omega)
              | (refine W.reach (D := []) (r2, out ++ [Nd.mk [] [] s55 []], v59) ⟨rfl, rfl, rfl, rfl, trivial⟩ (by rw [Nd.map_snoc]; exact .refl _) ⟨⟨?_, ?_, ?_, ?_, ?_⟩, ?_⟩
                 · show List.length r2 ≤ l.length; omega
                 · show Nd.szs (out ++ [_]) + 2 * _ ≤ _; rw [Nd.szs_append, Nd.szs_one, Nd.sz_eq]; simp only [Nd.attrs, Nd.parts, List.length_nil, List.length_cons, Nd.szs] at *; omega
                 · exact Nd.wfs_append hi3 ⟨(Nd.wf_eq _).2 ⟨fun _ => rfl, trivial⟩, trivial⟩
                 · exact Nd.drs_snoc hi4 (fun _ => Nd.lastT_of out hc_t49) (Nd.dr_text _ _ m55)
                 · show List.length (out ++ [_]) ≤ n; rw [List.length_append, List.length_singleton]; omega
                 · show List.length r2 < List.length (x :: r2); simp only [List.length_cons]; omega)
              | (refine W.reach (D := []) (r2, out ++ [Nd.mk s68 [] [] []], v72) ⟨rfl, rfl, rfl, rfl, trivial⟩ (by rw [Nd.map_snoc]; exact .refl _) ⟨⟨?_, ?_, ?_, ?_, ?_⟩, ?_⟩
                 · show List.length r2 ≤ l.length; omega
                 · show Nd.szs (out ++ [_]) + 2 * _ ≤ _; rw [Nd.szs_append, Nd.szs_one, Nd.sz_eq]; simp only [Nd.attrs, Nd.parts, List.length_nil, List.length_cons, Nd.szs] at *; omega
                 · exact Nd.wfs_append hi3 ⟨(Nd.wf_eq _).2 ⟨fun _ => rfl, trivial⟩, trivial⟩
                 · exact Nd.drs_snoc hi4 (fun h => absurd h (Nd.ne_vd2 _ m68)) (Nd.dr_void _ _ m68)
                 · show List.length (out ++ [_]) ≤ n; rw [List.length_append, List.length_singleton]; omega
                 · show List.length r2 < List.length (x :: r2); simp only [List.length_cons]; omega)
              | (refine W.reach (D := [_]) (rest2, out ++ [Nd.mk s80 [([104, 114, 101, 102], s91)] [] ns2], v107) ⟨rfl, rfl, rfl, rfl, trivial⟩ (by rw [Nd.map_snoc]; exact List.Perm.swap _ _ []) ⟨⟨?_, ?_, ?_, ?_, ?_⟩, ?_⟩
                 · show List.length rest2 ≤ l.length; omega
                 · show Nd.szs (out ++ [_]) + 2 * _ ≤ _; rw [Nd.szs_append, Nd.szs_one, Nd.sz_eq]; simp only [Nd.attrs, Nd.parts, List.length_nil, List.length_cons, Nd.szs] at *; omega
                 · exact Nd.wfs_append hi3 ⟨(Nd.wf_eq _).2 ⟨fun h => absurd h n80, hn3⟩, trivial⟩
                 · exact Nd.drs_snoc hi4 (fun h => absurd h n80) (Nd.dr_el _ _ _ _ m80 (.inr ⟨s91, m91, rfl⟩) (by simp at hc_t73; omega) (by rw [← hdk]; exact hn4) hn5)
                 · show List.length (out ++ [_]) ≤ n; rw [List.length_append, List.length_singleton]; omega
                 · show List.length rest2 < List.length (x :: r2); simp only [List.length_cons]; omega)
              | (refine W.reach (D := [_]) (rest2, out ++ [Nd.mk s80 [] [] ns2], v107) ⟨rfl, rfl, rfl, rfl, trivial⟩ (by rw [Nd.map_snoc]; exact List.Perm.swap _ _ []) ⟨⟨?_, ?_, ?_, ?_, ?_⟩, ?_⟩
                 · show List.length rest2 ≤ l.length; omega
                 · show Nd.szs (out ++ [_]) + 2 * _ ≤ _; rw [Nd.szs_append, Nd.szs_one, Nd.sz_eq]; simp only [Nd.attrs, Nd.parts, List.length_nil, List.length_cons, Nd.szs] at *; omega
                 · exact Nd.wfs_append hi3 ⟨(Nd.wf_eq _).2 ⟨fun h => absurd h n80, hn3⟩, trivial⟩
                 · exact Nd.drs_snoc hi4 (fun h => absurd h n80) (Nd.dr_el _ _ _ _ m80 (.inl rfl) (by simp at hc_t73; omega) (by rw [← hdk]; exact hn4) hn5)
                 · show List.length (out ++ [_]) ≤ n; rw [List.length_append, List.length_singleton]; omega
                 · show List.length rest2 < List.length (x :: r2); simp only [List.length_cons]; omega)
            · refine W.skip ?_
              refine W.then ?_
              refine W.seq ?_
              refine W.region ?_
              refine W.q (Ev.move (.t rfl)) rfl ?_
              refine W.q (Ev.move (.t rfl)) rfl ?_
              first | refine W.q (Ev.sub (.t rfl) .k (fun _ => by omega)) rfl ?_ | refine W.q (Ev.subw (.t rfl) .k) rfl ?_
              refine W.call (ih r2 (by omega) (deep - 1) 4 (by simp at hc_t73; omega) (by omega) (by decide)) ⟨(.t rfl), (.t rfl), .k, trivial⟩ (.refl _) rfl ?_
              rintro _ _ ⟨v100, ns2, rest2, rfl, rfl, hn1, hn2, hn3, hn4, hn5⟩
              have hdk : (deep - 1).toNat = deep.toNat - 1 := by omega
              refine W.q (Ev.move (.t rfl)) rfl ?_
              refine W.q (Ev.extract (.t rfl) rfl) rfl ?_
              refine W.q (Ev.extract (.t rfl) rfl) rfl ?_
              refine W.freeze (M1 := [_, _]) (M2 := [_, _]) (D := []) (v := v100) (L' := [(101, true, .sl 4 (ns2.map Nd.av)), (102, true, .sl 1 (rest2.map AV.int)), (12, true, .lit (.pointer (some ⟨b12, 0, none⟩))), (1, true, .int deep), (2, true, .int (n : Int)), (8, true, .lit v)]) (.refl _) ⟨⟨_, rfl, .one .hit⟩, ⟨_, rfl, .one (.refl _)⟩, ⟨_, rfl, .one (.refl _)⟩, ⟨_, rfl, .one (.refl _)⟩, ⟨_, rfl, .one (.refl _)⟩, ⟨_, rfl, .one (.refl _)⟩, trivial⟩ ⟨.refl _, .refl _, trivial⟩ ?_
              first | refine W.q (Ev.fae (.t rfl) fa42_3 rfl) rfl ?_ | refine W.q (Ev.fab (.t rfl) fa42_3) rfl ?_ | refine W.q (Ev.faa (.t rfl) fa42_3) rfl ?_
              first | refine W.stb 0 (.t rfl) (.t rfl) rfl ty24 rfl rfl rfl ?_ | refine W.stb 1 (.t rfl) (.t rfl) rfl ty24 rfl rfl rfl ?_ | refine W.stb 2 (.t rfl) (.t rfl) rfl ty24 rfl rfl rfl ?_ | refine W.stb 3 (.t rfl) (.t rfl) rfl ty24 rfl rfl rfl ?_
              refine W.q (Ev.assign (.t rfl)) rfl ?_
              refine W.nil ?_
              refine W.then ?_
              refine W.region ?_
              refine W.q (Ev.move (.t rfl)) rfl ?_
              first | refine W.q (Ev.lden (.t rfl) ag42 ty42 rfl rfl) rfl ?_ | refine W.q (Ev.ldbn 0 (.t rfl) rfl ag42 ty42 rfl) rfl ?_ | refine W.q (Ev.ldbn 1 (.t rfl) rfl ag42 ty42 rfl) rfl ?_ | refine W.q (Ev.ldbn 2 (.t rfl) rfl ag42 ty42 rfl) rfl ?_ | refine W.q (Ev.ldbn 3 (.t rfl) rfl ag42 ty42 rfl) rfl ?_
              refine W.bs (es := [_]) Try.underlying24 ty42 ⟨rfl, (.t rfl), rfl, rfl, trivial⟩ rfl (by decide) rfl rfl ?_
              first | refine W.app 0 (.t rfl) rfl (.sl (.t rfl) (by first | (simp [AV.okc, shV]; done) | (intro e he; rw [List.mem_singleton.1 he]; rfl))) Try.underlying24 ni24 ty42 rfl rfl (by simp only [List.length_map, List.length_cons, List.length_nil]; omega) rfl ?_ | refine W.app 1 (.t rfl) rfl (.sl (.t rfl) (by first | (simp [AV.okc, shV]; done) | (intro e he; rw [List.mem_singleton.1 he]; rfl))) Try.underlying24 ni24 ty42 rfl rfl (by simp only [List.length_map, List.length_cons, List.length_nil]; omega) rfl ?_ | refine W.app 2 (.t rfl) rfl (.sl (.t rfl) (by first | (simp [AV.okc, shV]; done) | (intro e he; rw [List.mem_singleton.1 he]; rfl))) Try.underlying24 ni24 ty42 rfl rfl (by simp only [List.length_map, List.length_cons, List.length_nil]; omega) rfl ?_ | refine W.app 3 (.t rfl) rfl (.sl (.t rfl) (by first | (simp [AV.okc, shV]; done) | (intro e he; rw [List.mem_singleton.1 he]; rfl))) Try.underlying24 ni24 ty42 rfl rfl (by simp only [List.length_map, List.length_cons, List.length_nil]; omega) rfl ?_ | refine W.app 0 (.t rfl) rfl (.arr 0 (.t rfl) rfl (by first | (simp [AV.okc, shV]; done) | (intro e he; rw [List.mem_singleton.1 he]; rfl))) Try.underlying24 ni24 ty42 rfl rfl (by simp only [List.length_map, List.length_cons, List.length_nil]; omega) rfl ?_ | refine W.app 0 (.t rfl) rfl (.arr 1 (.t rfl) rfl (by first | (simp [AV.okc, shV]; done) | (intro e he; rw [List.mem_singleton.1 he]; rfl))) Try.underlying24 ni24 ty42 rfl rfl (by simp only [List.length_map, List.length_cons, List.length_nil]; omega) rfl ?_ | refine W.app 0 (.t rfl) rfl (.arr 2 (.t rfl) rfl (by first | (simp [AV.okc, shV]; done) | (intro e he; rw [List.mem_singleton.1 he]; rfl))) Try.underlying24 ni24 ty42 rfl rfl (by simp only [List.length_map, List.length_cons, List.length_nil]; omega) rfl ?_ | refine W.app 0 (.t rfl) rfl (.arr 3 (.t rfl) rfl (by first | (simp [AV.okc, shV]; done) | (intro e he; rw [List.mem_singleton.1 he]; rfl))) Try.underlying24 ni24 ty42 rfl rfl (by simp only [List.length_map, List.length_cons, List.length_nil]; omega) rfl ?_ | refine W.app 1 (.t rfl) rfl (.arr 0 (.t rfl) rfl (by first | (simp [AV.okc, shV]; done) | (intro e he; rw [List.mem_singleton.1 he]; rfl))) Try.underlying24 ni24 ty42 rfl rfl (by simp only [List.length_map, List.length_cons, List.length_nil]; omega) rfl ?_ | refine W.app 1 (.t rfl) rfl (.arr 1 (.t rfl) rfl (by first | (simp [AV.okc, shV]; done) | (intro e he; rw [List.mem_singleton.1 he]; rfl))) Try.underlying24 ni24 ty42 rfl rfl (by simp only [List.length_map, List.length_cons, List.length_nil]; omega) rfl ?_ | refine W.app 1 (.t rfl) rfl (.arr 2 (.t rfl) rfl (by first | (simp [AV.okc, shV]; done) | (intro e he; rw [List.mem_singleton.1 he]; rfl))) Try.underlying24 ni24 ty42 rfl rfl (by simp only [List.length_map, List.length_cons, List.length_nil]; omega) rfl ?_ | refine W.app 1 (.t rfl) rfl (.arr 3 (.t rfl) rfl (by first | (simp [AV.okc, shV]; done) | (intro e he; rw [List.mem_singleton.1 he]; rfl))) Try.underlying24 ni24 ty42 rfl rfl (by simp only [List.length_map, List.length_cons, List.length_nil]; omega) rfl ?_ | refine W.app 2 (.t rfl) rfl (.arr 0 (.t rfl) rfl (by first | (simp [AV.okc, shV]; done) | (intro e he; rw [List.mem_singleton.1 he]; rfl))) Try.underlying24 ni24 ty42 rfl rfl (by simp only [List.length_map, List.length_cons, List.length_nil]; omega) rfl ?_ | refine W.app 2 (.t rfl) rfl (.arr 1 (.t rfl) rfl (by first | (simp [AV.okc, shV]; done) | (intro e he; rw [List.mem_singleton.1 he]; rfl))) Try.underlying24 ni24 ty42 rfl rfl (by simp only [List.length_map, List.length_cons, List.length_nil]; omega) rfl ?_ | refine W.app 2 (.t rfl) rfl (.arr 2 (.t rfl) rfl (by first | (simp [AV.okc, shV]; done) | (intro e he; rw [List.mem_singleton.1 he]; rfl))) Try.underlying24 ni24 ty42 rfl rfl (by simp only [List.length_map, List.length_cons, List.length_nil]; omega) rfl ?_ | refine W.app 2 (.t rfl) rfl (.arr 3 (.t rfl) rfl (by first | (simp [AV.okc, shV]; done) | (intro e he; rw [List.mem_singleton.1 he]; rfl))) Try.underlying24 ni24 ty42 rfl rfl (by simp only [List.length_map, List.length_cons, List.length_nil]; omega) rfl ?_ | refine W.app 3 (.t rfl) rfl (.arr 0 (.t rfl) rfl (by first | (simp [AV.okc, shV]; done) | (intro e he; rw [List.mem_singleton.1 he]; rfl))) Try.underlying24 ni24 ty42 rfl rfl (by simp only [List.length_map, List.length_cons, List.length_nil]; omega) rfl ?_ | refine W.app 3 (.t rfl) rfl (.arr 1 (.t rfl) rfl (by first | (simp [AV.okc, shV]; done) | (intro e he; rw [List.mem_singleton.1 he]; rfl))) Try.underlying24 ni24 ty42 rfl rfl (by simp only [List.length_map, List.length_cons, List.length_nil]; omega) rfl ?_ | refine W.app 3 (.t rfl) rfl (.arr 2 (.t rfl) rfl (by first | (simp [AV.okc, shV]; done) | (intro e he; rw [List.mem_singleton.1 he]; rfl))) Try.underlying24 ni24 ty42 rfl rfl (by simp only [List.length_map, List.length_cons, List.length_nil]; omega) rfl ?_ | refine W.app 3 (.t rfl) rfl (.arr 3 (.t rfl) rfl (by first | (simp [AV.okc, shV]; done) | (intro e he; rw [List.mem_singleton.1 he]; rfl))) Try.underlying24 ni24 ty42 rfl rfl (by simp only [List.length_map, List.length_cons, List.length_nil]; omega) rfl ?_
              intro v107
              refine W.q (Ev.assign (.t rfl)) rfl ?_
              refine W.nil ?_
              refine W.blk_normal ?_
              refine W.blk_normal ?_
              refine W.then ?_
              first
              | (refine W.reach (D := []) (r2, out, v) ⟨rfl, rfl, rfl, rfl, trivial⟩ (.refl _) ⟨⟨?_, ?_, ?_, ?_, ?_⟩, ?_⟩
                 · show List.length r2 ≤ l.length; omega
                 · show Nd.szs out + 2 * r2.length ≤ 2 * l.length; omega
                 · exact hi3
                 · exact hi4
                 · exact hi5
                 · show List.length r2 < List.length (x :: r2); simp only [List.length_cons]; omega)
              | (refine W.reach (D := []) (r2, out ++ [Nd.mk [] [] s55 []], v59) ⟨rfl, rfl, rfl, rfl, trivial⟩ (by rw [Nd.map_snoc]; exact .refl _) ⟨⟨?_, ?_, ?_, ?_, ?_⟩, ?_⟩
                 · show List.length r2 ≤ l.length; omega
                 · show Nd.szs (out ++ [_]) + 2 * _ ≤ _; rw [Nd.szs_append, Nd.szs_one, Nd.sz_eq]; simp only [Nd.attrs, Nd.parts, List.length_nil, List.length_cons, Nd.szs] at *; omega
                 · exact Nd.wfs_append hi3 ⟨(Nd.wf_eq _).2 ⟨fun _ => rfl, trivial⟩, trivial⟩
                 · exact Nd.drs_snoc hi4 (fun _ => Nd.lastT_of out hc_t49) (Nd.dr_text _ _ m55)
                 · show List.length (out ++ [_]) ≤ n; rw [List.length_append, List.length_singleton]; omega
                 · show List.length r2 < List.length (x :: r2); simp only [List.length_cons]; omega)
              | (refine W.reach (D := []) (r2, out ++ [Nd.mk s68 [] [] []], v72) ⟨rfl, rfl, rfl, rfl, trivial⟩ (by rw [Nd.map_snoc]; exact .refl _) ⟨⟨?_, ?_, ?_, ?_, ?_⟩, ?_⟩
                 · show List.length r2 ≤ l.length; omega
                 · show Nd.szs (out ++ [_]) + 2 * _ ≤ _; rw [Nd.szs_append, Nd.szs_one, Nd.sz_eq]; simp only [Nd.attrs, Nd.parts, List.length_nil, List.length_cons, Nd.szs] at *; omega
                 · exact Nd.wfs_append hi3 ⟨(Nd.wf_eq _).2 ⟨fun _ => rfl, trivial⟩, trivial⟩
                 · exact Nd.drs_snoc hi4 (fun h => absurd h (Nd.ne_vd2 _ m68)) (Nd.dr_void _ _ m68)
                 · show List.length (out ++ [_]) ≤ n; rw [List.length_append, List.length_singleton]; omega
                 · show List.length r2 < List.length (x :: r2); simp only [List.length_cons]; omega)
              | (refine W.reach (D := [_]) (rest2, out ++ [Nd.mk s80 [([104, 114, 101, 102], s91)] [] ns2], v107) ⟨rfl, rfl, rfl, rfl, trivial⟩ (by rw [Nd.map_snoc]; exact List.Perm.swap _ _ []) ⟨⟨?_, ?_, ?_, ?_, ?_⟩, ?_⟩
                 · show List.length rest2 ≤ l.length; omega
                 · show Nd.szs (out ++ [_]) + 2 * _ ≤ _; rw [Nd.szs_append, Nd.szs_one, Nd.sz_eq]; simp only [Nd.attrs, Nd.parts, List.length_nil, List.length_cons, Nd.szs] at *; omega
                 · exact Nd.wfs_append hi3 ⟨(Nd.wf_eq _).2 ⟨fun h => absurd h n80, hn3⟩, trivial⟩
                 · exact Nd.drs_snoc hi4 (fun h => absurd h n80) (Nd.dr_el _ _ _ _ m80 (.inr ⟨s91, m91, rfl⟩) (by simp at hc_t73; omega) (by rw [← hdk]; exact hn4) hn5)
                 · show List.length (out ++ [_]) ≤ n; rw [List.length_append, List.length_singleton]; omega
                 · show List.length rest2 < List.length (x :: r2); simp only [List.length_cons]; omega)
              | (refine W.reach (D := [_]) (rest2, out ++ [Nd.mk s80 [] [] ns2], v107) ⟨rfl, rfl, rfl, rfl, trivial⟩ (by rw [Nd.map_snoc]; exact List.Perm.swap _ _ []) ⟨⟨?_, ?_, ?_, ?_, ?_⟩, ?_⟩
                 · show List.length rest2 ≤ l.length; omega
                 · show Nd.szs (out ++ [_]) + 2 * _ ≤ _; rw [Nd.szs_append, Nd.szs_one, Nd.sz_eq]; simp only [Nd.attrs, Nd.parts, List.length_nil, List.length_cons, Nd.szs] at *; omega
                 · exact Nd.wfs_append hi3 ⟨(Nd.wf_eq _).2 ⟨fun h => absurd h n80, hn3⟩, trivial⟩
                 · exact Nd.drs_snoc hi4 (fun h => absurd h n80) (Nd.dr_el _ _ _ _ m80 (.inl rfl) (by simp at hc_t73; omega) (by rw [← hdk]; exact hn4) hn5)
                 · show List.length (out ++ [_]) ≤ n; rw [List.length_append, List.length_singleton]; omega
                 · show List.length rest2 < List.length (x :: r2); simp only [List.length_cons]; omega)
          · refine W.skip ?_
            refine W.blk_normal ?_
            refine W.blk_normal ?_
            refine W.then ?_
            first
            | (refine W.reach (D := []) (r2, out, v) ⟨rfl, rfl, rfl, rfl, trivial⟩ (.refl _) ⟨⟨?_, ?_, ?_, ?_, ?_⟩, ?_⟩
               · show List.length r2 ≤ l.length; omega
               · show Nd.szs out + 2 * r2.length ≤ 2 * l.length; omega
               · exact hi3
               · exact hi4
               · exact hi5
               · show List.length r2 < List.length (x :: r2); simp only [List.length_cons]; omega)
            | (refine W.reach (D := []) (r2, out ++ [Nd.mk [] [] s55 []], v59) ⟨rfl, rfl, rfl, rfl, trivial⟩ (by rw [Nd.map_snoc]; exact .refl _) ⟨⟨?_, ?_, ?_, ?_, ?_⟩, ?_⟩
               · show List.length r2 ≤ l.length; omega
               · show Nd.szs (out ++ [_]) + 2 * _ ≤ _; rw [Nd.szs_append, Nd.szs_one, Nd.sz_eq]; simp only [Nd.attrs, Nd.parts, List.length_nil, List.length_cons, Nd.szs] at *; omega
               · exact Nd.wfs_append hi3 ⟨(Nd.wf_eq _).2 ⟨fun _ => rfl, trivial⟩, trivial⟩
               · exact Nd.drs_snoc hi4 (fun _ => Nd.lastT_of out hc_t49) (Nd.dr_text _ _ m55)
               · show List.length (out ++ [_]) ≤ n; rw [List.length_append, List.length_singleton]; omega
               · show List.length r2 < List.length (x :: r2); simp only [List.length_cons]; omega)
            | (refine W.reach (D := []) (r2, out ++ [Nd.mk s68 [] [] []], v72) ⟨rfl, rfl, rfl, rfl, trivial⟩ (by rw [Nd.map_snoc]; exact .refl _) ⟨⟨?_, ?_, ?_, ?_, ?_⟩, ?_⟩
               · show List.length r2 ≤ l.length; omega
               · show Nd.szs (out ++ [_]) + 2 * _ ≤ _; rw [Nd.szs_append, Nd.szs_one, Nd.sz_eq]; simp only [Nd.attrs, Nd.parts, List.length_nil, List.length_cons, Nd.szs] at *; omega
               · exact Nd.wfs_append hi3 ⟨(Nd.wf_eq _).2 ⟨fun _ => rfl, trivial⟩, trivial⟩
               · exact Nd.drs_snoc hi4 (fun h => absurd h (Nd.ne_vd2 _ m68)) (Nd.dr_void _ _ m68)
               · show List.length (out ++ [_]) ≤ n; rw [List.length_append, List.length_singleton]; omega
               · show List.length r2 < List.length (x :: r2); simp only [List.length_cons]; omega)
            | (refine W.reach (D := [_]) (rest2, out ++ [Nd.mk s80 [([104, 114, 101, 102], s91)] [] ns2], v107) ⟨rfl, rfl, rfl, rfl, trivial⟩ (by rw [Nd.map_snoc]; exact List.Perm.swap _ _ []) ⟨⟨?_, ?_, ?_, ?_, ?_⟩, ?_⟩
               · show List.length rest2 ≤ l.length; omega
               · show Nd.szs (out ++ [_]) + 2 * _ ≤ _; rw [Nd.szs_append, Nd.szs_one, Nd.sz_eq]; simp only [Nd.attrs, Nd.parts, List.length_nil, List.length_cons, Nd.szs] at *; omega
               · exact Nd.wfs_append hi3 ⟨(Nd.wf_eq _).2 ⟨fun h => absurd h n80, hn3⟩, trivial⟩
               · exact Nd.drs_snoc hi4 (fun h => absurd h n80) (Nd.dr_el _ _ _ _ m80 (.inr ⟨s91, m91, rfl⟩) (by simp at hc_t73; omega) (by rw [← hdk]; exact hn4) hn5)
               · show List.length (out ++ [_]) ≤ n; rw [List.length_append, List.length_singleton]; omega
               · show List.length rest2 < List.length (x :: r2); simp only [List.length_cons]; omega)
            | (refine W.reach (D := [_]) (rest2, out ++ [Nd.mk s80 [] [] ns2], v107) ⟨rfl, rfl, rfl, rfl, trivial⟩ (by rw [Nd.map_snoc]; exact List.Perm.swap _ _ []) ⟨⟨?_, ?_, ?_, ?_, ?_⟩, ?_⟩
               · show List.length rest2 ≤ l.length; omega
               · show Nd.szs (out ++ [_]) + 2 * _ ≤ _; rw [Nd.szs_append, Nd.szs_one, Nd.sz_eq]; simp only [Nd.attrs, Nd.parts, List.length_nil, List.length_cons, Nd.szs] at *; omega
               · exact Nd.wfs_append hi3 ⟨(Nd.wf_eq _).2 ⟨fun h => absurd h n80, hn3⟩, trivial⟩
               · exact Nd.drs_snoc hi4 (fun h => absurd h n80) (Nd.dr_el _ _ _ _ m80 (.inl rfl) (by simp at hc_t73; omega) (by rw [← hdk]; exact hn4) hn5)
               · show List.length (out ++ [_]) ≤ n; rw [List.length_append, List.length_singleton]; omega
               · show List.length rest2 < List.length (x :: r2); simp only [List.length_cons]; omega)
  · refine W.exit ?_
    refine W.then_exit ?_
    refine W.then_exit ?_
    refine W.blk_hit ?_
    refine W.then ?_
    refine W.seq ?_
    refine W.region ?_
    refine W.q (Ev.move (.t rfl)) rfl ?_
    refine W.q (Ev.move (.t rfl)) rfl ?_
    refine W.q (Ev.assign (.t rfl)) rfl ?_
    refine W.q (Ev.assign (.t rfl)) rfl ?_
    refine W.nil ?_
    refine W.then ?_
    refine W.ret ?_
    refine W.retn (M' := [.arr v 42 4 _]) (rs := [.tmp 6, .tmp 7]) (avs := [_, _]) Try.results5 ⟨rfl, rfl, trivial⟩ rfl (.refl _) ?_
    exact ⟨v, out, _, rfl, rfl, by omega, by omega, hi3, hi4, hi5⟩

theorem c_Nodes (l : List Int) (hl : l.length ≤ 1048576) (deep : Int) (n : Nat) (hd0 : 0 ≤ deep) (hd1 : deep ≤ 1000) (hn : n ≤ 1000) : FnC Try.prog 5 [.sl 1 (l.map AV.int), .int deep, .int (n : Int)] [] (fun r M => ∃ (v : Value) (ns : List Nd) (rest : List Int), r = .tup [.lit v, .sl 1 (rest.map AV.int)] ∧ M = [.arr v 42 4 (ns.map Nd.av)] ∧ Nd.szs ns + 2 * rest.length ≤ 2 * l.length ∧ rest.length ≤ l.length ∧ Nd.wfs ns ∧ Nd.drs deep.toNat false ns ∧ ns.length ≤ n) := by
  suffices H : ∀ m, m ≤ 1048576 → ∀ l : List Int, l.length = m → ∀ (deep : Int) (n : Nat), 0 ≤ deep → deep ≤ 1000 → n ≤ 1000 → FnC Try.prog 5 [.sl 1 (l.map AV.int), .int deep, .int (n : Int)] [] (fun r M => ∃ (v : Value) (ns : List Nd) (rest : List Int), r = .tup [.lit v, .sl 1 (rest.map AV.int)] ∧ M = [.arr v 42 4 (ns.map Nd.av)] ∧ Nd.szs ns + 2 * rest.length ≤ 2 * l.length ∧ rest.length ≤ l.length ∧ Nd.wfs ns ∧ Nd.drs deep.toNat false ns ∧ ns.length ≤ n) from H _ hl l rfl deep n hd0 hd1 hn
  intro m
  induction m using Nat.strongRecOn with
  | _ m ih => exact fun hm l hl' deep n h0 h1 h2 => c_Nodes_step l (by omega) (fun l' h' => ih l'.length (by omega) (by omega) l' rfl) deep n h0 h1 h2

end WNodes

end Go.Proofs.Ytpjngpegkoohgaa
