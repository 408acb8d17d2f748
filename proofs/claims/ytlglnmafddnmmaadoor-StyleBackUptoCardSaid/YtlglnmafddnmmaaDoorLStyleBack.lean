/-
  The law StyleBack, walked.
-/
import Derived.Test.YtlglnmafddnmmaaDoorG7
set_option linter.unusedVariables false
set_option linter.unusedSimpArgs false
set_option maxRecDepth 100000
namespace Go.Proofs.YtlglnmafddnmmaaDoor
open Go.Vl

namespace LStyleBack
theorem ty3 : Ty Tryd.prog 3 1 8 (.int .i64 0) := Ty.of (by kernel_rfl)
theorem ty9 : Ty Tryd.prog 9 1 16 (.string ⟨#[]⟩) := Ty.of (by kernel_rfl)
theorem ty60 : Ty Tryd.prog 60 2 32 (.agg #[.string ⟨#[]⟩, .string ⟨#[]⟩]) := Ty.of (by kernel_rfl)
theorem ag3 : IsAgg Tryd.prog 3 false := ⟨_, Tryd.underlying3, rfl⟩
theorem ag9 : IsAgg Tryd.prog 9 false := ⟨_, Tryd.underlying9, rfl⟩
theorem fa60_0 : FieldAt Tryd.prog 60 0 0 1 false := ⟨_, _, Tryd.underlying60, rfl, rfl, ty9.size, ag9, by decide⟩
theorem fa60_1 : FieldAt Tryd.prog 60 1 1 1 false := ⟨_, _, Tryd.underlying60, rfl, rfl, ty9.size, ag9, by decide⟩
theorem ni54 : NotInt Tryd.prog 54 := .inl ⟨_, Tryd.underlying54⟩
theorem c_StyleBack (l gs : List Int) (hl : l.length ≤ 1048576) (hgs : gs.length ≤ 1048576) (M0 : List ME) (hC : ∀ s p : List UInt8, s.length ≤ 1048576 → FnC Tryd.prog 33 [.str s, .str p] M0 (fun r M => r = .tup [.str (Lib.cut s p).1, .str (Lib.cut s p).2.1, .bool (Lib.cut s p).2.2] ∧ M = M0)) : FnC Tryd.prog 7 [.sl 1 (l.map AV.int), .sl 1 (gs.map AV.int)] M0 (fun r M => r = .bool true ∧ M = M0) :=  by
  refine FnC.mk Tryd.func7 (by kernel_rfl) rfl Tryd.ntmps7 rfl (fun w0 F => ?_)
  refine W.seq ?_
  refine W.region ?_
  refine W.q (Ev.assign .k) rfl ?_
  refine W.nil ?_
  refine W.then ?_
  refine W.seq ?_
  refine W.region ?_
  refine W.q (Ev.move (.t rfl)) rfl ?_
  refine W.call (WDecls.c_Decls l 12 (by omega) (by decide)) ⟨(.t rfl), .k, trivial⟩ (.refl _) rfl ?_
  rintro _ _ ⟨rfl, ds, rfl, hds, hdd⟩
  have hjl := Sty.join_len ds hdd
  have hml : (ds.map dav).length = ds.length := List.length_map ..
  have hgl : (gs.map AV.int).length = gs.length := List.length_map ..
  refine W.q (Ev.assign (.t rfl)) rfl ?_
  refine W.nil ?_
  refine W.then ?_
  refine W.seq ?_
  refine W.region ?_
  refine W.q (Ev.move (.t rfl)) rfl ?_
  (refine W.appn .k (.sl (.t rfl) (Sty.okc_davs ds)) Tryd.underlying54 ni54 ty60 rfl rfl (by rw [List.length_map]; omega) rfl ?_)
  intro v19
  refine W.freezeA (M1 := _) (M2 := _) (D := []) (v := v19) (L' := [(19, true, .sl 2 (ds.map dav))]) (by rw [List.append_nil] <;> exact .refl _) ⟨⟨_, rfl, .one .hit⟩, trivial⟩ (FrzMs.refl _) ?_
  refine W.call (WTextS.c_Text ds (by omega) (fun d hd => (hdd d hd).nm) (fun d hd => by have := (hdd d hd).len; omega) (by omega) M0 hC) ⟨(.t rfl), trivial⟩ ((List.Perm.of_eq (List.append_nil M0).symm)) rfl ?_
  rintro r M' ⟨hor, hM'⟩
  rw [hM', List.append_nil]
  obtain rfl : r = .tup [.str (Ex.joinW [59, 32] (ds.map Sty.dtx)), .int 0] := by
    rcases hor with ⟨⟨d, hd, hb⟩, _⟩ | ⟨_, h⟩
    · exact absurd (hdd d hd).self hb
    · exact h
  refine W.q (Ev.move (.t rfl)) rfl ?_
  refine W.q (Ev.extract (.t rfl) rfl) rfl ?_
  refine W.q (Ev.extract (.t rfl) rfl) rfl ?_
  refine W.q (Ev.assign (.t rfl)) rfl ?_
  refine W.q (Ev.assign (.t rfl)) rfl ?_
  refine W.nil ?_
  refine W.then ?_
  refine W.seq ?_
  refine W.region ?_
  refine W.q (Ev.move (.t rfl)) rfl ?_
  refine W.call (WStyled.c_styled (Ex.joinW [59, 32] (ds.map Sty.dtx)) (by omega) M0 hC) ⟨(.t rfl), trivial⟩ ((List.Perm.of_eq (List.append_nil M0).symm)) rfl ?_
  rintro _ M' ⟨rfl, hM'⟩
  rw [hM', List.append_nil, Sty.parse_joined ds hdd]
  refine W.q (Ev.move (.t rfl)) rfl ?_
  refine W.q (Ev.extract (.t rfl) rfl) rfl ?_
  refine W.q (Ev.extract (.t rfl) rfl) rfl ?_
  refine W.q (Ev.assign (.t rfl)) rfl ?_
  refine W.q (Ev.assign (.t rfl)) rfl ?_
  refine W.nil ?_
  refine W.then ?_
  refine W.seq ?_
  refine W.region ?_
  refine W.q (Ev.assign .k) rfl ?_
  refine W.nil ?_
  refine W.then ?_
  refine W.seq ?_
  refine W.seq ?_
  refine W.region ?_
  refine W.q (Ev.assign .k) rfl ?_
  refine W.nil ?_
  refine W.then ?_
  refine W.block ?_
  refine W.loop (D := []) (ι := Nat × List Sty.Ck) (fun z => [(11, true, .int (z.1 : Int)), (10, true, .str (z.2.flatMap Sty.Ck.tx)), (5, true, .sl 2 (ds.map dav)), (1, true, .sl 1 (gs.map AV.int)), (7, true, .int 0), (9, true, .bool true), (8, true, .sl 2 (ds.map dav))]) (fun z => M0) (fun z => z.1 ≤ ds.length ∧ z.2.map Sty.Ck.d = ds.take z.1 ∧ (∀ c ∈ z.2, c.Ok) ∧ (z.2.flatMap Sty.Ck.tx).length ≤ 40 * z.1) (fun z => ds.length - z.1) (0, []) ⟨rfl, rfl, rfl, rfl, rfl, rfl, rfl, trivial⟩ (List.Perm.of_eq (List.append_nil M0).symm) ⟨Nat.zero_le _, rfl, fun c hc => (List.not_mem_nil hc).elim, Nat.zero_le _⟩ ?_
  rintro ⟨i, X⟩ ⟨hi, hX, hok, hXl⟩
  dsimp only at hi hX hok hXl ⊢
  rcases (show i < ds.length ∨ i = ds.length from by omega) with hlt | hend
  · have hgd := getD_mapG dav ([], []) ds i hlt
    have hdi := hdd _ (getD_memG ([], []) ds i hlt)
    have htk := take_getDG ([], []) ds i hlt
    generalize ds.getD i ([], []) = d at hgd hdi htk
    have k3 := Sty.lens.2.2.1 _ hdi.mn
    have k4 := Sty.lens.2.2.2 _ hdi.mv
    refine W.seq ?_
    refine W.seq ?_
    refine W.region ?_
    refine W.q (Ev.move (.t rfl)) rfl ?_
    refine W.q (Ev.move (.t rfl)) rfl ?_
    (refine W.q (Ev.lensl (.t rfl) Tryd.underlying54) rfl ?_)
    refine W.q (Ev.lti (.t rfl) (.t rfl)) rfl ?_
    refine W.nil ?_
    refine W.then ?_
    refine W.is (t := 31) (g := true) (av' := .lit (.bool true)) rfl (congrArg (fun b => AV.lit (.bool b)) (by exact decide_eq_true (by omega))) ?_
    refine W.condT (.t rfl) ?_
    refine W.skip ?_
    refine W.then ?_
    refine W.seq ?_
    refine W.block ?_
    refine W.seq ?_
    refine W.region ?_
    refine W.q (Ev.assign .k) rfl ?_
    refine W.nil ?_
    refine W.then ?_
    refine W.seq ?_
    refine W.seq ?_
    refine W.region ?_
    refine W.q (Ev.move (.t rfl)) rfl ?_
    refine W.q (Ev.move (.t rfl)) rfl ?_
    (refine W.q (Ev.lensl (.t rfl) Tryd.underlying22) rfl ?_)
    refine W.q (Ev.lti (.t rfl) (.t rfl)) rfl ?_
    refine W.nil ?_
    refine W.then ?_
    refine W.cond (.t rfl) (fun hc_t37 => ?_) (fun hc_t37 => ?_)
    · have hgg := getD_map gs i (by have h := hc_t37; simp at h; omega)
      obtain ⟨nn, hnn⟩ : ∃ z, gs.getD i 0 = z := ⟨_, rfl⟩
      rw [hnn] at hgg
      refine W.region ?_
      refine W.q (Ev.move (.t rfl)) rfl ?_
      refine W.q (Ev.move (.t rfl)) rfl ?_
      refine W.q (Ev.at (E := 3) (.t rfl) (.t rfl) Tryd.underlying22 ty3 (fun _ => ⟨by omega, hgg⟩) rfl rfl) rfl ?_
      (refine W.q (Ev.lde1 (.t rfl) ag3) rfl ?_)
      refine W.q (Ev.assign (.t rfl)) rfl ?_
      refine W.nil ?_
      refine W.then ?_
      refine W.drawnE (ι := Unit) (fun _ _ => _) 29 () (by kernel_rfl) (by kernel_rfl) rfl ?_
      obtain ⟨sx, hsx, h1⟩ := pick_mod [[], [32], [47, 42, 59, 120, 58, 121, 42, 47], [10, 59, 59]] nn 4 rfl (by decide)
      obtain ⟨sy, hsy, h2⟩ := pick_mod [[], [32], [47, 42, 39, 42, 47]] (IntKind.i64.wrap (nn.tdiv 4)) 3 rfl (by decide)
      have k1 := Sty.lens.1 _ hsx
      have k2 := Sty.lens.2.1 _ hsy
      refine DE.q (fun e c hk => (Ev.move (.t rfl))) rfl (fun _ _ => rfl) (by (exact .inr (fun _ _ => rfl))) ?_
      refine DE.bs (es := fun _ => [_, _, _, _]) Tryd.underlying23 ty9 (fun c => ⟨rfl, .k, rfl, rfl, rfl, .k, rfl, rfl, rfl, .k, rfl, rfl, rfl, .k, rfl, rfl, trivial⟩) (fun _ => rfl) (by decide) rfl rfl (fun _ _ => rfl) (by (exact .inr (fun _ _ => rfl))) ?_
      refine DE.q (fun e c hk => (Ev.move (.t rfl))) rfl (fun _ _ => rfl) (by (exact .inr (fun _ _ => rfl))) ?_
      refine DE.callp (fun c => Base.c_Picked nn 4 (by decide) (by decide)) (fun c => ⟨(.t rfl), .k, trivial⟩) rfl (fun _ _ => rfl) (by (exact .inr (fun _ _ => rfl))) ?_
      refine DE.q (fun e c hk => Ev.at (E := 9) (.t rfl) (.t rfl) Tryd.underlying23 ty9 (fun _ => ⟨Int.emod_nonneg _ (by decide), h1⟩) rfl rfl) rfl (fun _ _ => rfl) (by (exact .inr (fun _ _ => rfl))) ?_
      (refine DE.q (fun e c hk => (Ev.lde1 (.t rfl) ag9)) rfl (fun _ _ => rfl) (by (exact .inr (fun _ _ => rfl))) ?_)
      refine DE.q (fun e c hk => (Ev.move (.t rfl))) rfl (fun _ _ => rfl) (by (exact .inr (fun _ _ => rfl))) ?_
      refine DE.q (fun e c hk => (Ev.move (.t rfl))) rfl (fun _ _ => rfl) (by (exact .inr (fun _ _ => rfl))) ?_
      refine DE.q (fun e c hk => Ev.at (E := 60) (.t rfl) (.t rfl) Tryd.underlying54 ty60 (fun _ => ⟨by omega, hgd⟩) rfl rfl) rfl (fun _ _ => rfl) (by (exact .inr (fun _ _ => rfl))) ?_
      (refine DE.q (fun e c hk => (Ev.fae (.t rfl) fa60_0 rfl)) rfl (fun _ _ => rfl) (by (exact .inr (fun _ _ => rfl))) ?_)
      (refine DE.q (fun e c hk => (Ev.lde1 (.t rfl) ag9)) rfl (fun _ _ => rfl) (by (exact .inr (fun _ _ => rfl))) ?_)
      refine DE.q (fun e c hk => Ev.cat (.t rfl) (.t rfl) (fun _ => by (try simp only [List.length_append, List.length_cons, List.length_nil]); omega)) rfl (fun _ _ => rfl) (by (exact .inr (fun _ _ => rfl))) ?_
      refine DE.bs (es := fun _ => [_, _, _]) Tryd.underlying23 ty9 (fun c => ⟨rfl, .k, rfl, rfl, rfl, .k, rfl, rfl, rfl, .k, rfl, rfl, trivial⟩) (fun _ => rfl) (by decide) rfl rfl (fun _ _ => rfl) (by (exact .inr (fun _ _ => rfl))) ?_
      refine DE.q (fun e c hk => (Ev.move (.t rfl))) rfl (fun _ _ => rfl) (by (exact .inr (fun _ _ => rfl))) ?_
      (refine DE.q (fun e c hk => (Ev.quo (.t rfl) .k (fun _ => by decide))) rfl (fun _ _ => rfl) (by (exact .inr (fun _ _ => rfl))) ?_)
      refine DE.callp (fun c => Base.c_Picked (IntKind.i64.wrap (nn.tdiv 4)) 3 (by decide) (by decide)) (fun c => ⟨(.t rfl), .k, trivial⟩) rfl (fun _ _ => rfl) (by (exact .inr (fun _ _ => rfl))) ?_
      refine DE.q (fun e c hk => Ev.at (E := 9) (.t rfl) (.t rfl) Tryd.underlying23 ty9 (fun _ => ⟨Int.emod_nonneg _ (by decide), h2⟩) rfl rfl) rfl (fun _ _ => rfl) (by (exact .inr (fun _ _ => rfl))) ?_
      (refine DE.q (fun e c hk => (Ev.lde1 (.t rfl) ag9)) rfl (fun _ _ => rfl) (by (exact .inr (fun _ _ => rfl))) ?_)
      refine DE.q (fun e c hk => Ev.cat (.t rfl) (.t rfl) (fun _ => by (try simp only [List.length_append, List.length_cons, List.length_nil]); omega)) rfl (fun _ _ => rfl) (by (exact .inr (fun _ _ => rfl))) ?_
      refine DE.q (fun e c hk => Ev.cat (.t rfl) .k (fun _ => by (try simp only [List.length_append, List.length_cons, List.length_nil]); omega)) rfl (fun _ _ => rfl) (by (exact .inr (fun _ _ => rfl))) ?_
      refine DE.q (fun e c hk => (Ev.move (.t rfl))) rfl (fun _ _ => rfl) (by (exact .inr (fun _ _ => rfl))) ?_
      refine DE.q (fun e c hk => (Ev.move (.t rfl))) rfl (fun _ _ => rfl) (by (exact .inr (fun _ _ => rfl))) ?_
      refine DE.q (fun e c hk => Ev.at (E := 60) (.t rfl) (.t rfl) Tryd.underlying54 ty60 (fun _ => ⟨by omega, hgd⟩) rfl rfl) rfl (fun _ _ => rfl) (by (exact .inr (fun _ _ => rfl))) ?_
      (refine DE.q (fun e c hk => (Ev.fae (.t rfl) fa60_1 rfl)) rfl (fun _ _ => rfl) (by (exact .inr (fun _ _ => rfl))) ?_)
      (refine DE.q (fun e c hk => (Ev.lde1 (.t rfl) ag9)) rfl (fun _ _ => rfl) (by (exact .inr (fun _ _ => rfl))) ?_)
      refine DE.q (fun e c hk => Ev.cat (.t rfl) (.t rfl) (fun _ => by (try simp only [List.length_append, List.length_cons, List.length_nil]); omega)) rfl (fun _ _ => rfl) (by (exact .inr (fun _ _ => rfl))) ?_
      refine DE.q (fun e c hk => Ev.cat (.t rfl) .k (fun _ => by (try simp only [List.length_append, List.length_cons, List.length_nil]); omega)) rfl (fun _ _ => rfl) (by (exact .inr (fun _ _ => rfl))) ?_
      refine DE.q (fun e c hk => Ev.cat (.t rfl) (.t rfl) (fun _ => by (try simp only [List.length_append, List.length_cons, List.length_nil]); omega)) rfl (fun _ _ => rfl) (by (exact .inr (fun _ _ => rfl))) ?_
      refine DE.q (fun e c hk => (Ev.assign (.t rfl))) rfl (fun _ _ => rfl) (by (exact .inr (fun _ _ => rfl))) ?_
      refine DE.nil (fun c_ e_ he_ => ?_)
      dsimp only
      refine W.blk_normal ?_
      refine W.then ?_
      refine W.region ?_
      refine W.q (Ev.move (.t rfl)) rfl ?_
      (refine W.q (Ev.add (.t rfl) .k (fun _ => by omega)) rfl ?_)
      refine W.q (Ev.assign (.t rfl)) rfl ?_
      refine W.nil ?_
      refine W.then ?_
      have hfm : (X ++ [Sty.Ck.mk sx sy d]).flatMap Sty.Ck.tx = X.flatMap Sty.Ck.tx ++ (((((sx ++ d.1) ++ sy) ++ [58]) ++ d.2) ++ [59]) := by rw [List.flatMap_append]; simp [Sty.Ck.tx]
      refine W.is (t := 10) (g := true) (av' := .str ((X ++ [Sty.Ck.mk sx sy d]).flatMap Sty.Ck.tx)) rfl (congrArg AV.str hfm.symm) ?_
      refine W.reach (D := []) (i + 1, X ++ [Sty.Ck.mk sx sy d]) ⟨rfl, rfl, rfl, rfl, rfl, rfl, rfl, trivial⟩ (List.Perm.of_eq (List.append_nil M0).symm) ⟨⟨hlt, ?_, ?_, ?_⟩, by show ds.length - (i + 1) < ds.length - i; omega⟩
      · show (X ++ [_]).map Sty.Ck.d = _; rw [List.map_append, hX, htk]; rfl
      · intro c hc; rcases List.mem_append.1 hc with hc | hc
        · exact hok c hc
        · rw [List.mem_singleton.1 hc]; exact ⟨hsx, hsy, hdi.mn, hdi.mv⟩
      · show ((X ++ [_]).flatMap Sty.Ck.tx).length ≤ _; rw [hfm]; simp only [List.length_append, List.length_cons, List.length_nil]; omega
    · obtain ⟨nn, hnn⟩ : ∃ z : Int, (0 : Int) = z := ⟨_, rfl⟩
      refine W.is (t := 12) (g := true) (av' := .int nn) rfl (congrArg AV.int hnn) ?_
      refine W.skip ?_
      refine W.then ?_
      refine W.drawnE (ι := Unit) (fun _ _ => _) 29 () (by kernel_rfl) (by kernel_rfl) rfl ?_
      obtain ⟨sx, hsx, h1⟩ := pick_mod [[], [32], [47, 42, 59, 120, 58, 121, 42, 47], [10, 59, 59]] nn 4 rfl (by decide)
      obtain ⟨sy, hsy, h2⟩ := pick_mod [[], [32], [47, 42, 39, 42, 47]] (IntKind.i64.wrap (nn.tdiv 4)) 3 rfl (by decide)
      have k1 := Sty.lens.1 _ hsx
      have k2 := Sty.lens.2.1 _ hsy
      refine DE.q (fun e c hk => (Ev.move (.t rfl))) rfl (fun _ _ => rfl) (by (exact .inr (fun _ _ => rfl))) ?_
      refine DE.bs (es := fun _ => [_, _, _, _]) Tryd.underlying23 ty9 (fun c => ⟨rfl, .k, rfl, rfl, rfl, .k, rfl, rfl, rfl, .k, rfl, rfl, rfl, .k, rfl, rfl, trivial⟩) (fun _ => rfl) (by decide) rfl rfl (fun _ _ => rfl) (by (exact .inr (fun _ _ => rfl))) ?_
      refine DE.q (fun e c hk => (Ev.move (.t rfl))) rfl (fun _ _ => rfl) (by (exact .inr (fun _ _ => rfl))) ?_
      refine DE.callp (fun c => Base.c_Picked nn 4 (by decide) (by decide)) (fun c => ⟨(.t rfl), .k, trivial⟩) rfl (fun _ _ => rfl) (by (exact .inr (fun _ _ => rfl))) ?_
      refine DE.q (fun e c hk => Ev.at (E := 9) (.t rfl) (.t rfl) Tryd.underlying23 ty9 (fun _ => ⟨Int.emod_nonneg _ (by decide), h1⟩) rfl rfl) rfl (fun _ _ => rfl) (by (exact .inr (fun _ _ => rfl))) ?_
      (refine DE.q (fun e c hk => (Ev.lde1 (.t rfl) ag9)) rfl (fun _ _ => rfl) (by (exact .inr (fun _ _ => rfl))) ?_)
      refine DE.q (fun e c hk => (Ev.move (.t rfl))) rfl (fun _ _ => rfl) (by (exact .inr (fun _ _ => rfl))) ?_
      refine DE.q (fun e c hk => (Ev.move (.t rfl))) rfl (fun _ _ => rfl) (by (exact .inr (fun _ _ => rfl))) ?_
      refine DE.q (fun e c hk => Ev.at (E := 60) (.t rfl) (.t rfl) Tryd.underlying54 ty60 (fun _ => ⟨by omega, hgd⟩) rfl rfl) rfl (fun _ _ => rfl) (by (exact .inr (fun _ _ => rfl))) ?_
      (refine DE.q (fun e c hk => (Ev.fae (.t rfl) fa60_0 rfl)) rfl (fun _ _ => rfl) (by (exact .inr (fun _ _ => rfl))) ?_)
      (refine DE.q (fun e c hk => (Ev.lde1 (.t rfl) ag9)) rfl (fun _ _ => rfl) (by (exact .inr (fun _ _ => rfl))) ?_)
      refine DE.q (fun e c hk => Ev.cat (.t rfl) (.t rfl) (fun _ => by (try simp only [List.length_append, List.length_cons, List.length_nil]); omega)) rfl (fun _ _ => rfl) (by (exact .inr (fun _ _ => rfl))) ?_
      refine DE.bs (es := fun _ => [_, _, _]) Tryd.underlying23 ty9 (fun c => ⟨rfl, .k, rfl, rfl, rfl, .k, rfl, rfl, rfl, .k, rfl, rfl, trivial⟩) (fun _ => rfl) (by decide) rfl rfl (fun _ _ => rfl) (by (exact .inr (fun _ _ => rfl))) ?_
      refine DE.q (fun e c hk => (Ev.move (.t rfl))) rfl (fun _ _ => rfl) (by (exact .inr (fun _ _ => rfl))) ?_
      (refine DE.q (fun e c hk => (Ev.quo (.t rfl) .k (fun _ => by decide))) rfl (fun _ _ => rfl) (by (exact .inr (fun _ _ => rfl))) ?_)
      refine DE.callp (fun c => Base.c_Picked (IntKind.i64.wrap (nn.tdiv 4)) 3 (by decide) (by decide)) (fun c => ⟨(.t rfl), .k, trivial⟩) rfl (fun _ _ => rfl) (by (exact .inr (fun _ _ => rfl))) ?_
      refine DE.q (fun e c hk => Ev.at (E := 9) (.t rfl) (.t rfl) Tryd.underlying23 ty9 (fun _ => ⟨Int.emod_nonneg _ (by decide), h2⟩) rfl rfl) rfl (fun _ _ => rfl) (by (exact .inr (fun _ _ => rfl))) ?_
      (refine DE.q (fun e c hk => (Ev.lde1 (.t rfl) ag9)) rfl (fun _ _ => rfl) (by (exact .inr (fun _ _ => rfl))) ?_)
      refine DE.q (fun e c hk => Ev.cat (.t rfl) (.t rfl) (fun _ => by (try simp only [List.length_append, List.length_cons, List.length_nil]); omega)) rfl (fun _ _ => rfl) (by (exact .inr (fun _ _ => rfl))) ?_
      refine DE.q (fun e c hk => Ev.cat (.t rfl) .k (fun _ => by (try simp only [List.length_append, List.length_cons, List.length_nil]); omega)) rfl (fun _ _ => rfl) (by (exact .inr (fun _ _ => rfl))) ?_
      refine DE.q (fun e c hk => (Ev.move (.t rfl))) rfl (fun _ _ => rfl) (by (exact .inr (fun _ _ => rfl))) ?_
      refine DE.q (fun e c hk => (Ev.move (.t rfl))) rfl (fun _ _ => rfl) (by (exact .inr (fun _ _ => rfl))) ?_
      refine DE.q (fun e c hk => Ev.at (E := 60) (.t rfl) (.t rfl) Tryd.underlying54 ty60 (fun _ => ⟨by omega, hgd⟩) rfl rfl) rfl (fun _ _ => rfl) (by (exact .inr (fun _ _ => rfl))) ?_
      (refine DE.q (fun e c hk => (Ev.fae (.t rfl) fa60_1 rfl)) rfl (fun _ _ => rfl) (by (exact .inr (fun _ _ => rfl))) ?_)
      (refine DE.q (fun e c hk => (Ev.lde1 (.t rfl) ag9)) rfl (fun _ _ => rfl) (by (exact .inr (fun _ _ => rfl))) ?_)
      refine DE.q (fun e c hk => Ev.cat (.t rfl) (.t rfl) (fun _ => by (try simp only [List.length_append, List.length_cons, List.length_nil]); omega)) rfl (fun _ _ => rfl) (by (exact .inr (fun _ _ => rfl))) ?_
      refine DE.q (fun e c hk => Ev.cat (.t rfl) .k (fun _ => by (try simp only [List.length_append, List.length_cons, List.length_nil]); omega)) rfl (fun _ _ => rfl) (by (exact .inr (fun _ _ => rfl))) ?_
      refine DE.q (fun e c hk => Ev.cat (.t rfl) (.t rfl) (fun _ => by (try simp only [List.length_append, List.length_cons, List.length_nil]); omega)) rfl (fun _ _ => rfl) (by (exact .inr (fun _ _ => rfl))) ?_
      refine DE.q (fun e c hk => (Ev.assign (.t rfl))) rfl (fun _ _ => rfl) (by (exact .inr (fun _ _ => rfl))) ?_
      refine DE.nil (fun c_ e_ he_ => ?_)
      dsimp only
      refine W.blk_normal ?_
      refine W.then ?_
      refine W.region ?_
      refine W.q (Ev.move (.t rfl)) rfl ?_
      (refine W.q (Ev.add (.t rfl) .k (fun _ => by omega)) rfl ?_)
      refine W.q (Ev.assign (.t rfl)) rfl ?_
      refine W.nil ?_
      refine W.then ?_
      have hfm : (X ++ [Sty.Ck.mk sx sy d]).flatMap Sty.Ck.tx = X.flatMap Sty.Ck.tx ++ (((((sx ++ d.1) ++ sy) ++ [58]) ++ d.2) ++ [59]) := by rw [List.flatMap_append]; simp [Sty.Ck.tx]
      refine W.is (t := 10) (g := true) (av' := .str ((X ++ [Sty.Ck.mk sx sy d]).flatMap Sty.Ck.tx)) rfl (congrArg AV.str hfm.symm) ?_
      refine W.reach (D := []) (i + 1, X ++ [Sty.Ck.mk sx sy d]) ⟨rfl, rfl, rfl, rfl, rfl, rfl, rfl, trivial⟩ (List.Perm.of_eq (List.append_nil M0).symm) ⟨⟨hlt, ?_, ?_, ?_⟩, by show ds.length - (i + 1) < ds.length - i; omega⟩
      · show (X ++ [_]).map Sty.Ck.d = _; rw [List.map_append, hX, htk]; rfl
      · intro c hc; rcases List.mem_append.1 hc with hc | hc
        · exact hok c hc
        · rw [List.mem_singleton.1 hc]; exact ⟨hsx, hsy, hdi.mn, hdi.mv⟩
      · show ((X ++ [_]).flatMap Sty.Ck.tx).length ≤ _; rw [hfm]; simp only [List.length_append, List.length_cons, List.length_nil]; omega
  · rw [hend, List.take_length] at hX
    refine W.seq ?_
    refine W.seq ?_
    refine W.region ?_
    refine W.q (Ev.move (.t rfl)) rfl ?_
    refine W.q (Ev.move (.t rfl)) rfl ?_
    (refine W.q (Ev.lensl (.t rfl) Tryd.underlying54) rfl ?_)
    refine W.q (Ev.lti (.t rfl) (.t rfl)) rfl ?_
    refine W.nil ?_
    refine W.then ?_
    refine W.is (t := 31) (g := true) (av' := .lit (.bool false)) rfl (congrArg (fun b => AV.lit (.bool b)) (by exact decide_eq_false (by omega))) ?_
    refine W.condF (.t rfl) ?_
    refine W.exit ?_
    refine W.then_exit ?_
    refine W.then_exit ?_
    refine W.blk_hit ?_
    refine W.then ?_
    refine W.seq ?_
    refine W.region ?_
    refine W.q (Ev.move (.t rfl)) rfl ?_
    refine W.call (WStyled.c_styled (X.flatMap Sty.Ck.tx) (by omega) M0 hC) ⟨(.t rfl), trivial⟩ ((List.Perm.of_eq (List.append_nil M0).symm)) rfl ?_
    rintro _ M' ⟨rfl, hM'⟩
    rw [hM', List.append_nil, Sty.parse_cks X hok, hX]
    refine W.q (Ev.move (.t rfl)) rfl ?_
    refine W.q (Ev.extract (.t rfl) rfl) rfl ?_
    refine W.q (Ev.extract (.t rfl) rfl) rfl ?_
    refine W.q (Ev.assign (.t rfl)) rfl ?_
    refine W.q (Ev.assign (.t rfl)) rfl ?_
    refine W.nil ?_
    refine W.then ?_
    refine W.seq ?_
    refine W.region ?_
    refine W.q (Ev.move (.t rfl)) rfl ?_
    refine W.q (Ev.eqi (.t rfl) .k) rfl ?_
    refine W.is (t := 76) (g := true) (av' := .bool true) rfl (congrArg AV.bool (rfl)) ?_
    refine W.q (Ev.move (.t rfl)) rfl ?_
    refine W.gyes rfl rfl ?_
    refine W.q (Ev.move (.t rfl)) rfl ?_
    refine W.q (Ev.and (.t rfl) ⟨_, _, rfl, rfl, by ((simp; done))⟩) rfl ?_
    refine W.is (t := 79) (g := true) (av' := .bool true) rfl (congrArg AV.bool (rfl)) ?_
    refine W.q (Ev.move (.t rfl)) rfl ?_
    refine W.gyes rfl rfl ?_
    refine W.q (Ev.move (.t rfl)) rfl ?_
    refine W.q (Ev.and (.t rfl) ⟨_, _, rfl, rfl, by ((simp; done))⟩) rfl ?_
    refine W.is (t := 82) (g := true) (av' := .bool true) rfl (congrArg AV.bool (rfl)) ?_
    refine W.q (Ev.move (.t rfl)) rfl ?_
    refine W.gyes rfl rfl ?_
    refine W.q (Ev.move (.t rfl)) rfl ?_
    refine W.gyes rfl rfl ?_
    refine W.q (Ev.move (.t rfl)) rfl ?_
    refine W.gyes rfl rfl ?_
    refine W.callp (WEqD.c_sameD ds ds (by omega)) ⟨(.t rfl), (.t rfl), trivial⟩ rfl ?_
    refine W.q (Ev.and (.t rfl) ⟨_, _, rfl, rfl, by ((simp; done))⟩) rfl ?_
    refine W.is (t := 87) (g := true) (av' := .bool true) rfl (congrArg AV.bool (by simp)) ?_
    refine W.q (Ev.move (.t rfl)) rfl ?_
    refine W.gyes rfl rfl ?_
    refine W.q (Ev.move (.t rfl)) rfl ?_
    refine W.gyes rfl rfl ?_
    refine W.q (Ev.move (.t rfl)) rfl ?_
    refine W.gyes rfl rfl ?_
    refine W.callp (WEqD.c_sameD ds ds (by omega)) ⟨(.t rfl), (.t rfl), trivial⟩ rfl ?_
    refine W.q (Ev.and (.t rfl) ⟨_, _, rfl, rfl, by ((simp; done))⟩) rfl ?_
    refine W.q (Ev.assign (.t rfl)) rfl ?_
    refine W.nil ?_
    refine W.then ?_
    refine W.ret ?_
    refine W.retn (M' := M0) (D := []) (rs := [.tmp 4]) (avs := [_]) Tryd.results7 ⟨rfl, trivial⟩ rfl (List.Perm.of_eq (List.append_nil M0).symm) ?_
    exact ⟨congrArg AV.bool (by simp), rfl⟩

end LStyleBack

end Go.Proofs.YtlglnmafddnmmaaDoor
