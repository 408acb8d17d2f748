/-
  Nodes behind others.
-/
import Derived.Test.YteepllfbnoaiaaaDrawn
import Derived.Test.YteepllfbnoaiaaaBase
set_option linter.unusedVariables false
set_option linter.unusedSimpArgs false
set_option maxRecDepth 100000
namespace Go.Proofs.Yteepllfbnoaiaaa
open Go.Vl

namespace WJoined
theorem ty9 : Ty Try.prog 9 1 16 (.string ⟨#[]⟩) := Ty.of (by kernel_rfl)
theorem ty35 : Ty Try.prog 35 4 80 (.agg #[.string ⟨#[]⟩, .slice none 0 0, .string ⟨#[]⟩, .slice none 0 0]) := Ty.of (by kernel_rfl)
theorem ag9 : IsAgg Try.prog 9 false := ⟨_, Try.underlying9, rfl⟩
theorem ag35 : IsAgg Try.prog 35 true := ⟨_, Try.underlying35, rfl⟩
theorem fa35_0 : FieldAt Try.prog 35 0 0 1 false := ⟨_, _, Try.underlying35, rfl, rfl, ty9.size, ag9, by decide⟩
theorem fa35_2 : FieldAt Try.prog 35 2 2 1 false := ⟨_, _, Try.underlying35, rfl, rfl, ty9.size, ag9, by decide⟩
theorem ni25 : NotInt Try.prog 25 := .inl ⟨_, Try.underlying25⟩
theorem c_Joined (out more : List Nd) (v : Value) (h1 : out.length + more.length ≤ 67108864) (h2 : Nd.tszs out + Nd.tszs more ≤ 8589934592) : FnC Try.prog 74 [.lit v, .sl 4 (more.map Nd.av)] [.arr v 35 4 (out.map Nd.av)] (fun r M => ∃ v', r = .lit v' ∧ M = [.arr v' 35 4 ((Nd.jn out more).map Nd.av)]) :=  by
  refine FnC.mk Try.func74 (by kernel_rfl) rfl Try.ntmps74 rfl (fun w0 F => ?_)
  have hml : (more.map Nd.av).length = more.length := List.length_map ..
  refine W.seq ?_
  refine W.region ?_
  refine W.q (Ev.assign .k) rfl ?_
  refine W.nil ?_
  refine W.then ?_
  refine W.seq ?_
  refine W.seq ?_
  refine W.region ?_
  refine W.q (Ev.move (.t rfl)) rfl ?_
  first | refine W.q (Ev.lensl (.t rfl) Try.underlying25) rfl ?_ | refine W.q (Ev.lenar (i := 0) (.t rfl) rfl Try.underlying25) rfl ?_ | refine W.q (Ev.lenar (i := 1) (.t rfl) rfl Try.underlying25) rfl ?_ | refine W.q (Ev.lenar (i := 2) (.t rfl) rfl Try.underlying25) rfl ?_ | refine W.q (Ev.lenar (i := 3) (.t rfl) rfl Try.underlying25) rfl ?_
  refine W.q (Ev.move .k) rfl ?_
  refine W.nil ?_
  refine W.then ?_
  refine W.block ?_
  refine W.loop (D := []) (ι := Nat × Value) (fun z => [(10, true, .int (z.1 : Int)), (9, true, .int ((more.map Nd.av).length : Int)), (8, true, .sl 4 (more.map Nd.av)), (0, true, .lit z.2)]) (fun z => [.arr z.2 35 4 ((Nd.jn out (more.take z.1)).map Nd.av)]) (fun z => z.1 ≤ more.length) (fun z => more.length - z.1) (0, v) ⟨rfl, rfl, rfl, rfl, trivial⟩ (.refl _) (Nat.zero_le _) ?_
  rintro ⟨i, v1⟩ hi
  dsimp only at hi ⊢
  rcases (show i < more.length ∨ i = more.length from by omega) with hlt | hend
  · have hga := Nd.at_av more i hlt
    have hsn := Nd.jn_snoc out more i hlt
    have hjl := Nd.jn_len (more.take i) out
    have hjt := Nd.jn_tszs (more.take i) out
    rw [List.length_take] at hjl
    have htm := Nd.at_tsz more i hlt
    have htt := Nd.tszs_take more i
    generalize hd : more.getD i Nd.dflt = d at hga hsn htm
    have htd := Nd.tsz_eq d
    generalize hcur : Nd.jn out (more.take i) = cur at hsn hjl hjt ⊢
    have hcl : (cur.map Nd.av).length = cur.length := List.length_map ..
    refine W.seq ?_
    refine W.region ?_
    refine W.q (Ev.lti (.t rfl) (.t rfl)) rfl ?_
    refine W.nil ?_
    refine W.then ?_
    refine W.seq ?_
    refine W.is (t := 11) (g := true) (av' := .lit (.bool true)) rfl (congrArg (fun b => AV.lit (.bool b)) (by exact decide_eq_true (by omega))) ?_
    refine W.condT (.t rfl) ?_
    refine W.skip ?_
    refine W.then ?_
    refine W.seq ?_
    refine W.block ?_
    refine W.seq ?_
    refine W.region ?_
    refine W.q (Ev.at (E := 35) (.t rfl) (.t rfl) Try.underlying25 ty35 (fun _ => ⟨by omega, hga⟩) rfl rfl) rfl ?_
    first | refine W.q (Ev.lden (.t rfl) ag35 ty35 rfl rfl) rfl ?_ | refine W.q (Ev.ldbn 0 (.t rfl) rfl ag35 ty35 rfl) rfl ?_ | refine W.q (Ev.ldbn 1 (.t rfl) rfl ag35 ty35 rfl) rfl ?_ | refine W.q (Ev.ldbn 2 (.t rfl) rfl ag35 ty35 rfl) rfl ?_ | refine W.q (Ev.ldbn 3 (.t rfl) rfl ag35 ty35 rfl) rfl ?_
    refine W.alloc ty35 rfl rfl ?_
    intro b6
    first | refine W.stb 0 (.t rfl) (.t rfl) rfl ty35 rfl rfl rfl ?_ | refine W.stb 1 (.t rfl) (.t rfl) rfl ty35 rfl rfl rfl ?_ | refine W.stb 2 (.t rfl) (.t rfl) rfl ty35 rfl rfl rfl ?_ | refine W.stb 3 (.t rfl) (.t rfl) rfl ty35 rfl rfl rfl ?_
    refine W.nil ?_
    refine W.then ?_
    refine W.seq ?_
    refine W.region ?_
    refine W.q (Ev.move (.t rfl)) rfl ?_
    first | refine W.q (Ev.lensl (.t rfl) Try.underlying25) rfl ?_ | refine W.q (Ev.lenar (i := 0) (.t rfl) rfl Try.underlying25) rfl ?_ | refine W.q (Ev.lenar (i := 1) (.t rfl) rfl Try.underlying25) rfl ?_ | refine W.q (Ev.lenar (i := 2) (.t rfl) rfl Try.underlying25) rfl ?_ | refine W.q (Ev.lenar (i := 3) (.t rfl) rfl Try.underlying25) rfl ?_
    refine W.q (Ev.assign (.t rfl)) rfl ?_
    refine W.nil ?_
    refine W.then ?_
    refine W.seq ?_
    refine W.seq ?_
    refine W.region ?_
    first | refine W.q (Ev.fae (.t rfl) fa35_0 rfl) rfl ?_ | refine W.q (Ev.fab (.t rfl) fa35_0) rfl ?_ | refine W.q (Ev.faa (.t rfl) fa35_0) rfl ?_
    first | refine W.q (Ev.lde1 (.t rfl) ag9) rfl ?_ | refine W.q (Ev.ldb1 0 (.t rfl) rfl ag9 rfl) rfl ?_ | refine W.q (Ev.ldb1 1 (.t rfl) rfl ag9 rfl) rfl ?_ | refine W.q (Ev.ldb1 2 (.t rfl) rfl ag9 rfl) rfl ?_ | refine W.q (Ev.ldb1 3 (.t rfl) rfl ag9 rfl) rfl ?_
    refine W.q (Ev.eqs (.t rfl) .k) rfl ?_
    refine W.q (Ev.move (.t rfl)) rfl ?_
    refine W.qgT rfl rfl (Ev.move (.t rfl)) rfl ?_
    refine W.qgT rfl rfl (Ev.gti (.c rfl) .k) rfl ?_
    refine W.q (Ev.and (.t rfl) ⟨_, _, rfl, rfl, by first | (simp; done) | (intro hg_ hp_; simp [hp_]; done) | (simp <;> omega; done) | (simp_all; done) | grind⟩) rfl ?_
    refine W.q (Ev.move (.t rfl)) rfl ?_
    refine W.qgT rfl rfl (Ev.move (.t rfl)) rfl ?_
    refine W.qgT rfl rfl (Ev.move (.t rfl)) rfl ?_
    first | refine W.qgT rfl rfl (Ev.sub (.c rfl) .k (fun _ => by omega)) rfl ?_ | refine W.qgT rfl rfl (Ev.subw (.c rfl) .k) rfl ?_
    refine W.qgT rfl rfl (Ev.ata 1 (.c rfl) rfl (.c rfl) Try.underlying25 ty35 (fun hg => by simp at hg; omega)) rfl ?_
    first | refine W.qgT rfl rfl (Ev.fae (.c rfl) fa35_0 rfl) rfl ?_ | refine W.qgT rfl rfl (Ev.fab (.c rfl) fa35_0) rfl ?_ | refine W.qgT rfl rfl (Ev.faa (.c rfl) fa35_0) rfl ?_
    refine W.qgT rfl rfl (Ev.lda1g 1 (cur.length - 1) 0 (e := Nd.avx (cur.getD (cur.length - 1) Nd.dflt)) (.c rfl) rfl (fun hg => Nd.at_av cur _ (by simp at hg; omega)) (fun hg => by simp at hg; omega) rfl rfl rfl ag9) rfl ?_
    refine W.qgT rfl rfl (Ev.eqs (.c rfl) .k) rfl ?_
    refine W.q (Ev.and (.t rfl) ⟨_, _, rfl, rfl, by first | (simp; done) | (intro hg_ hp_; simp [hp_]; done) | (simp <;> omega; done) | (simp_all; done) | grind⟩) rfl ?_
    refine W.nil ?_
    refine W.then ?_
    refine W.cond (.t rfl) (fun hc_t31 => ?_) (fun hc_t31 => ?_)
    · obtain ⟨h31, h31b, h31c⟩ := Nd.lastT_yes cur d hc_t31
      have hjs := Nd.jn1_set cur d ⟨h31, h31b⟩
      have hge := Nd.at_av cur (cur.length - 1) (by omega)
      have het := Nd.at_tsz cur (cur.length - 1) (by omega)
      generalize cur.getD (cur.length - 1) Nd.dflt = e at hjs hge het
      have het2 := Nd.tsz_eq e
      refine W.seq ?_
      refine W.drawnE (ι := Unit) (fun ee c => [.box b6 35 [.str d.name, .sl 2 (d.attrs.map dav), .str d.text, .sl 4 (d.parts.map Nd.av)], .arr v1 35 4 (bif ee 11 then ((cur.map Nd.av).set (cur.length - 1) (.agg [.str e.name, .sl 2 (e.attrs.map dav), .str (e.text ++ d.text), .sl 4 (e.parts.map Nd.av)])) else cur.map Nd.av)]) 12 () (by kernel_rfl) (by kernel_rfl) rfl ?_
      refine DE.q (fun e c hk => (Ev.move (.t rfl))) rfl (fun _ _ => rfl) (by first | exact .inr (fun _ _ => rfl) | exact .inl (by kernel_rfl)) ?_
      refine DE.q (fun e c hk => (Ev.move (.t rfl))) rfl (fun _ _ => rfl) (by first | exact .inr (fun _ _ => rfl) | exact .inl (by kernel_rfl)) ?_
      first | refine DE.q (fun e c hk => (Ev.sub (.t rfl) .k (fun _ => by omega))) rfl (fun _ _ => rfl) (by first | exact .inr (fun _ _ => rfl) | exact .inl (by kernel_rfl)) ?_ | refine DE.q (fun e c hk => (Ev.subw (.t rfl) .k)) rfl (fun _ _ => rfl) (by first | exact .inr (fun _ _ => rfl) | exact .inl (by kernel_rfl)) ?_
      refine DE.q (av := fun _ => .aptr v1 ((((cur.map Nd.av).length : Int) - 1).toNat * 4)) (fun e_ c hk => by have h := hk.down 11 (by kernel_rfl); simp only [h, cond_false]; exact Ev.ata 1 (.t rfl) rfl (.t rfl) Try.underlying25 ty35 (fun _ => by omega)) rfl (fun _ _ => rfl) (by first | exact .inr (fun _ _ => rfl) | exact .inl (by kernel_rfl)) ?_
      first | refine DE.q (fun e c hk => (Ev.fae (.t rfl) fa35_2 rfl)) rfl (fun _ _ => rfl) (by first | exact .inr (fun _ _ => rfl) | exact .inl (by kernel_rfl)) ?_ | refine DE.q (fun e c hk => (Ev.fab (.t rfl) fa35_2)) rfl (fun _ _ => rfl) (by first | exact .inr (fun _ _ => rfl) | exact .inl (by kernel_rfl)) ?_ | refine DE.q (fun e c hk => (Ev.faa (.t rfl) fa35_2)) rfl (fun _ _ => rfl) (by first | exact .inr (fun _ _ => rfl) | exact .inl (by kernel_rfl)) ?_
      refine DE.q (av := fun _ => .str e.text) (fun e_ c hk => by have h := hk.down 11 (by kernel_rfl); simp only [h, cond_false]; exact Ev.lda1 1 (cur.length - 1) 2 (e := Nd.avx e) (.t rfl) rfl hge (by omega) rfl rfl rfl ag9) rfl (fun _ _ => rfl) (by first | exact .inr (fun _ _ => rfl) | exact .inl (by kernel_rfl)) ?_
      first | refine DE.q (fun e c hk => (Ev.fae (.t rfl) fa35_2 rfl)) rfl (fun _ _ => rfl) (by first | exact .inr (fun _ _ => rfl) | exact .inl (by kernel_rfl)) ?_ | refine DE.q (fun e c hk => (Ev.fab (.t rfl) fa35_2)) rfl (fun _ _ => rfl) (by first | exact .inr (fun _ _ => rfl) | exact .inl (by kernel_rfl)) ?_ | refine DE.q (fun e c hk => (Ev.faa (.t rfl) fa35_2)) rfl (fun _ _ => rfl) (by first | exact .inr (fun _ _ => rfl) | exact .inl (by kernel_rfl)) ?_
      first | refine DE.q (fun e c hk => (Ev.lde1 (.t rfl) ag9)) rfl (fun _ _ => rfl) (by first | exact .inr (fun _ _ => rfl) | exact .inl (by kernel_rfl)) ?_ | refine DE.q (fun e c hk => (Ev.ldb1 0 (.t rfl) rfl ag9 rfl)) rfl (fun _ _ => rfl) (by first | exact .inr (fun _ _ => rfl) | exact .inl (by kernel_rfl)) ?_ | refine DE.q (fun e c hk => (Ev.ldb1 1 (.t rfl) rfl ag9 rfl)) rfl (fun _ _ => rfl) (by first | exact .inr (fun _ _ => rfl) | exact .inl (by kernel_rfl)) ?_ | refine DE.q (fun e c hk => (Ev.ldb1 2 (.t rfl) rfl ag9 rfl)) rfl (fun _ _ => rfl) (by first | exact .inr (fun _ _ => rfl) | exact .inl (by kernel_rfl)) ?_ | refine DE.q (fun e c hk => (Ev.ldb1 3 (.t rfl) rfl ag9 rfl)) rfl (fun _ _ => rfl) (by first | exact .inr (fun _ _ => rfl) | exact .inl (by kernel_rfl)) ?_
      refine DE.q (fun e_ c hk => Ev.cat (.t rfl) (.t rfl) (fun _ => by omega)) rfl (fun _ _ => rfl) (by first | exact .inr (fun _ _ => rfl) | exact .inl (by kernel_rfl)) ?_
      refine DE.q (av := fun _ => .aptr v1 ((((cur.map Nd.av).length : Int) - 1).toNat * 4)) (fun e_ c hk => by have h := hk.down 11 (by kernel_rfl); simp only [h, cond_false]; exact Ev.ata 1 (.t rfl) rfl (.t rfl) Try.underlying25 ty35 (fun _ => by omega)) rfl (fun _ _ => rfl) (by first | exact .inr (fun _ _ => rfl) | exact .inl (by kernel_rfl)) ?_
      first | refine DE.q (fun e c hk => (Ev.fae (.t rfl) fa35_2 rfl)) rfl (fun _ _ => rfl) (by first | exact .inr (fun _ _ => rfl) | exact .inl (by kernel_rfl)) ?_ | refine DE.q (fun e c hk => (Ev.fab (.t rfl) fa35_2)) rfl (fun _ _ => rfl) (by first | exact .inr (fun _ _ => rfl) | exact .inl (by kernel_rfl)) ?_ | refine DE.q (fun e c hk => (Ev.faa (.t rfl) fa35_2)) rfl (fun _ _ => rfl) (by first | exact .inr (fun _ _ => rfl) | exact .inl (by kernel_rfl)) ?_
      refine DE.eff0 (fun e_ c hk L_ hs Q h => ?_) ?_
      · have hk_11 := hk.not
        simp only [addE, hk_11, ↓reduceIte, cond_true, cond_false] at h ⊢
        refine W.sta 1 (cur.length - 1) 2 (e := Nd.avx e) (e' := .agg [.str e.name, .sl 2 (e.attrs.map dav), .str (e.text ++ d.text), .sl 4 (e.parts.map Nd.av)]) (.t (hs _ _ rfl)) (.t (hs _ _ rfl)) rfl hge (by omega) ty9 rfl rfl rfl rfl rfl rfl rfl ?_
        exact h
      refine DE.nil (fun c_ e_ he_ => ?_)
      simp only [he_ 11 (by decide), cond_true, cond_false]
      refine W.then ?_
      refine W.exit ?_
      refine W.then_exit ?_
      refine W.blk_hit ?_
      refine W.then ?_
      refine W.region ?_
      first | refine W.q (Ev.add (.t rfl) .k (fun _ => by omega)) rfl ?_ | refine W.q (Ev.addw (.t rfl) .k) rfl ?_
      refine W.q (Ev.move (.t rfl)) rfl ?_
      refine W.nil ?_
      refine W.then ?_
      first
      | (refine W.reach (D := [_]) (i + 1, v1) ⟨rfl, rfl, rfl, rfl, trivial⟩ (by rw [hsn, ← hjs]; exact List.Perm.swap _ _ []) ⟨by show i + 1 ≤ _; omega, by show _ - (i + 1) < _; omega⟩)
      | (refine W.reach (D := [_]) (i + 1, v46) ⟨rfl, rfl, rfl, rfl, trivial⟩ (by rw [hsn, hjs, Nd.map_snoc]; exact List.Perm.swap _ _ []) ⟨by show i + 1 ≤ _; omega, by show _ - (i + 1) < _; omega⟩)
    · have h31 := Nd.lastT_not cur d hc_t31
      have hjs : Nd.jn1 cur d = cur ++ [d] := if_neg h31
      refine W.skip ?_
      refine W.then ?_
      refine W.region ?_
      refine W.q (Ev.move (.t rfl)) rfl ?_
      first | refine W.q (Ev.lden (.t rfl) ag35 ty35 rfl rfl) rfl ?_ | refine W.q (Ev.ldbn 0 (.t rfl) rfl ag35 ty35 rfl) rfl ?_ | refine W.q (Ev.ldbn 1 (.t rfl) rfl ag35 ty35 rfl) rfl ?_ | refine W.q (Ev.ldbn 2 (.t rfl) rfl ag35 ty35 rfl) rfl ?_ | refine W.q (Ev.ldbn 3 (.t rfl) rfl ag35 ty35 rfl) rfl ?_
      refine W.bs (es := [_]) Try.underlying25 ty35 ⟨rfl, (.t rfl), rfl, rfl, trivial⟩ rfl (by decide) rfl rfl ?_
      first | refine W.app 0 (.t rfl) rfl (.sl (.t rfl) (by first | (simp [AV.okc, shV]; done) | (intro e he; rw [List.mem_singleton.1 he]; rfl))) Try.underlying25 ni25 ty35 rfl rfl (by simp only [List.length_map, List.length_cons, List.length_nil]; omega) rfl ?_ | refine W.app 1 (.t rfl) rfl (.sl (.t rfl) (by first | (simp [AV.okc, shV]; done) | (intro e he; rw [List.mem_singleton.1 he]; rfl))) Try.underlying25 ni25 ty35 rfl rfl (by simp only [List.length_map, List.length_cons, List.length_nil]; omega) rfl ?_ | refine W.app 2 (.t rfl) rfl (.sl (.t rfl) (by first | (simp [AV.okc, shV]; done) | (intro e he; rw [List.mem_singleton.1 he]; rfl))) Try.underlying25 ni25 ty35 rfl rfl (by simp only [List.length_map, List.length_cons, List.length_nil]; omega) rfl ?_ | refine W.app 3 (.t rfl) rfl (.sl (.t rfl) (by first | (simp [AV.okc, shV]; done) | (intro e he; rw [List.mem_singleton.1 he]; rfl))) Try.underlying25 ni25 ty35 rfl rfl (by simp only [List.length_map, List.length_cons, List.length_nil]; omega) rfl ?_ | refine W.app 0 (.t rfl) rfl (.arr 0 (.t rfl) rfl (by first | (simp [AV.okc, shV]; done) | (intro e he; rw [List.mem_singleton.1 he]; rfl))) Try.underlying25 ni25 ty35 rfl rfl (by simp only [List.length_map, List.length_cons, List.length_nil]; omega) rfl ?_ | refine W.app 0 (.t rfl) rfl (.arr 1 (.t rfl) rfl (by first | (simp [AV.okc, shV]; done) | (intro e he; rw [List.mem_singleton.1 he]; rfl))) Try.underlying25 ni25 ty35 rfl rfl (by simp only [List.length_map, List.length_cons, List.length_nil]; omega) rfl ?_ | refine W.app 0 (.t rfl) rfl (.arr 2 (.t rfl) rfl (by first | (simp [AV.okc, shV]; done) | (intro e he; rw [List.mem_singleton.1 he]; rfl))) Try.underlying25 ni25 ty35 rfl rfl (by simp only [List.length_map, List.length_cons, List.length_nil]; omega) rfl ?_ | refine W.app 0 (.t rfl) rfl (.arr 3 (.t rfl) rfl (by first | (simp [AV.okc, shV]; done) | (intro e he; rw [List.mem_singleton.1 he]; rfl))) Try.underlying25 ni25 ty35 rfl rfl (by simp only [List.length_map, List.length_cons, List.length_nil]; omega) rfl ?_ | refine W.app 1 (.t rfl) rfl (.arr 0 (.t rfl) rfl (by first | (simp [AV.okc, shV]; done) | (intro e he; rw [List.mem_singleton.1 he]; rfl))) Try.underlying25 ni25 ty35 rfl rfl (by simp only [List.length_map, List.length_cons, List.length_nil]; omega) rfl ?_ | refine W.app 1 (.t rfl) rfl (.arr 1 (.t rfl) rfl (by first | (simp [AV.okc, shV]; done) | (intro e he; rw [List.mem_singleton.1 he]; rfl))) Try.underlying25 ni25 ty35 rfl rfl (by simp only [List.length_map, List.length_cons, List.length_nil]; omega) rfl ?_ | refine W.app 1 (.t rfl) rfl (.arr 2 (.t rfl) rfl (by first | (simp [AV.okc, shV]; done) | (intro e he; rw [List.mem_singleton.1 he]; rfl))) Try.underlying25 ni25 ty35 rfl rfl (by simp only [List.length_map, List.length_cons, List.length_nil]; omega) rfl ?_ | refine W.app 1 (.t rfl) rfl (.arr 3 (.t rfl) rfl (by first | (simp [AV.okc, shV]; done) | (intro e he; rw [List.mem_singleton.1 he]; rfl))) Try.underlying25 ni25 ty35 rfl rfl (by simp only [List.length_map, List.length_cons, List.length_nil]; omega) rfl ?_ | refine W.app 2 (.t rfl) rfl (.arr 0 (.t rfl) rfl (by first | (simp [AV.okc, shV]; done) | (intro e he; rw [List.mem_singleton.1 he]; rfl))) Try.underlying25 ni25 ty35 rfl rfl (by simp only [List.length_map, List.length_cons, List.length_nil]; omega) rfl ?_ | refine W.app 2 (.t rfl) rfl (.arr 1 (.t rfl) rfl (by first | (simp [AV.okc, shV]; done) | (intro e he; rw [List.mem_singleton.1 he]; rfl))) Try.underlying25 ni25 ty35 rfl rfl (by simp only [List.length_map, List.length_cons, List.length_nil]; omega) rfl ?_ | refine W.app 2 (.t rfl) rfl (.arr 2 (.t rfl) rfl (by first | (simp [AV.okc, shV]; done) | (intro e he; rw [List.mem_singleton.1 he]; rfl))) Try.underlying25 ni25 ty35 rfl rfl (by simp only [List.length_map, List.length_cons, List.length_nil]; omega) rfl ?_ | refine W.app 2 (.t rfl) rfl (.arr 3 (.t rfl) rfl (by first | (simp [AV.okc, shV]; done) | (intro e he; rw [List.mem_singleton.1 he]; rfl))) Try.underlying25 ni25 ty35 rfl rfl (by simp only [List.length_map, List.length_cons, List.length_nil]; omega) rfl ?_ | refine W.app 3 (.t rfl) rfl (.arr 0 (.t rfl) rfl (by first | (simp [AV.okc, shV]; done) | (intro e he; rw [List.mem_singleton.1 he]; rfl))) Try.underlying25 ni25 ty35 rfl rfl (by simp only [List.length_map, List.length_cons, List.length_nil]; omega) rfl ?_ | refine W.app 3 (.t rfl) rfl (.arr 1 (.t rfl) rfl (by first | (simp [AV.okc, shV]; done) | (intro e he; rw [List.mem_singleton.1 he]; rfl))) Try.underlying25 ni25 ty35 rfl rfl (by simp only [List.length_map, List.length_cons, List.length_nil]; omega) rfl ?_ | refine W.app 3 (.t rfl) rfl (.arr 2 (.t rfl) rfl (by first | (simp [AV.okc, shV]; done) | (intro e he; rw [List.mem_singleton.1 he]; rfl))) Try.underlying25 ni25 ty35 rfl rfl (by simp only [List.length_map, List.length_cons, List.length_nil]; omega) rfl ?_ | refine W.app 3 (.t rfl) rfl (.arr 3 (.t rfl) rfl (by first | (simp [AV.okc, shV]; done) | (intro e he; rw [List.mem_singleton.1 he]; rfl))) Try.underlying25 ni25 ty35 rfl rfl (by simp only [List.length_map, List.length_cons, List.length_nil]; omega) rfl ?_
      intro v46
      refine W.q (Ev.assign (.t rfl)) rfl ?_
      refine W.nil ?_
      refine W.blk_normal ?_
      refine W.then ?_
      refine W.region ?_
      first | refine W.q (Ev.add (.t rfl) .k (fun _ => by omega)) rfl ?_ | refine W.q (Ev.addw (.t rfl) .k) rfl ?_
      refine W.q (Ev.move (.t rfl)) rfl ?_
      refine W.nil ?_
      refine W.then ?_
      first
      | (refine W.reach (D := [_]) (i + 1, v1) ⟨rfl, rfl, rfl, rfl, trivial⟩ (by rw [hsn, ← hjs]; exact List.Perm.swap _ _ []) ⟨by show i + 1 ≤ _; omega, by show _ - (i + 1) < _; omega⟩)
      | (refine W.reach (D := [_]) (i + 1, v46) ⟨rfl, rfl, rfl, rfl, trivial⟩ (by rw [hsn, hjs, Nd.map_snoc]; exact List.Perm.swap _ _ []) ⟨by show i + 1 ≤ _; omega, by show _ - (i + 1) < _; omega⟩)
  · have he : more.take i = more := List.take_of_length_le (by omega)
    rw [he]
    refine W.seq ?_
    refine W.region ?_
    refine W.q (Ev.lti (.t rfl) (.t rfl)) rfl ?_
    refine W.nil ?_
    refine W.then ?_
    refine W.seq ?_
    refine W.is (t := 11) (g := true) (av' := .lit (.bool false)) rfl (congrArg (fun b => AV.lit (.bool b)) (by exact decide_eq_false (by omega))) ?_
    refine W.condF (.t rfl) ?_
    refine W.exit ?_
    refine W.then_exit ?_
    refine W.then_exit ?_
    refine W.blk_hit ?_
    refine W.then ?_
    refine W.seq ?_
    refine W.region ?_
    refine W.q (Ev.move (.t rfl)) rfl ?_
    refine W.q (Ev.assign (.t rfl)) rfl ?_
    refine W.nil ?_
    refine W.then ?_
    refine W.ret ?_
    refine W.retn (M' := [.arr v1 35 4 _]) (rs := [.tmp 4]) (avs := [_]) Try.results74 ⟨rfl, trivial⟩ rfl (.refl _) ?_
    exact ⟨v1, rfl, rfl⟩

end WJoined

end Go.Proofs.Yteepllfbnoaiaaa
