/-
  Paths of trees.
-/
import Derived.Test.YtpjngpegkoohgaaTree
import Derived.Test.YtpjngpegkoohgaaBase
set_option linter.unusedVariables false
set_option linter.unusedSimpArgs false
set_option maxRecDepth 100000
namespace Go.Proofs.Ytpjngpegkoohgaa
open Go.Vl

namespace WPaths
theorem ty3 : Ty Try.prog 3 1 8 (.int .i64 0) := Ty.of (by kernel_rfl)
theorem ty22 : Ty Try.prog 22 1 24 (.slice none 0 0) := Ty.of (by kernel_rfl)
theorem ty24 : Ty Try.prog 24 1 24 (.slice none 0 0) := Ty.of (by kernel_rfl)
theorem ty42 : Ty Try.prog 42 4 80 (.agg #[.string ⟨#[]⟩, .slice none 0 0, .string ⟨#[]⟩, .slice none 0 0]) := Ty.of (by kernel_rfl)
theorem ag22 : IsAgg Try.prog 22 false := ⟨_, Try.underlying22, rfl⟩
theorem ag24 : IsAgg Try.prog 24 false := ⟨_, Try.underlying24, rfl⟩
theorem ag42 : IsAgg Try.prog 42 true := ⟨_, Try.underlying42, rfl⟩
theorem fa42_3 : FieldAt Try.prog 42 3 3 1 false := ⟨_, _, Try.underlying42, rfl, rfl, ty24.size, ag24, by decide⟩
theorem ni22 : NotInt Try.prog 22 := .inl ⟨_, Try.underlying22⟩
theorem ni46 : NotInt Try.prog 46 := .inl ⟨_, Try.underlying46⟩
theorem c_Paths_step (n : Nat) (hn : n ≤ 16777216) (ih : ∀ l, Nd.szs l < n → FnP Try.prog 12 [.sl 4 (l.map Nd.av)] (.sl 1 ((Nd.pthsFrom 0 l).map pav))) (l : List Nd) (hl : Nd.szs l = n) : FnP Try.prog 12 [.sl 4 (l.map Nd.av)] (.sl 1 ((Nd.pthsFrom 0 l).map pav)) :=  by
  refine FnC.mk Try.func12 (by kernel_rfl) rfl Try.ntmps12 rfl (fun w0 F => ?_)
  have hll : (l.map Nd.av).length = l.length := List.length_map ..
  have hsl := Nd.szs_len l
  refine W.seq ?_
  refine W.region ?_
  refine W.q (Ev.assign .k) rfl ?_
  refine W.nil ?_
  refine W.then ?_
  refine W.seq ?_
  refine W.region ?_
  refine W.q (Ev.assign .k) rfl ?_
  refine W.nil ?_
  refine W.then ?_
  refine W.seq ?_
  refine W.seq ?_
  refine W.region ?_
  refine W.q (Ev.move (.t rfl)) rfl ?_
  first | refine W.q (Ev.lensl (.t rfl) Try.underlying24) rfl ?_ | refine W.q (Ev.lenar (i := 0) (.t rfl) rfl Try.underlying24) rfl ?_ | refine W.q (Ev.lenar (i := 1) (.t rfl) rfl Try.underlying24) rfl ?_ | refine W.q (Ev.lenar (i := 2) (.t rfl) rfl Try.underlying24) rfl ?_ | refine W.q (Ev.lenar (i := 3) (.t rfl) rfl Try.underlying24) rfl ?_
  refine W.q (Ev.move .k) rfl ?_
  refine W.nil ?_
  refine W.then ?_
  refine W.block ?_
  refine W.own_nil 22 1 ?_
  refine W.loop (D := []) (ι := Nat × Value) (fun z => [(10, true, .int (z.1 : Int)), (9, true, .int ((l.map Nd.av).length : Int)), (8, true, .sl 4 (l.map Nd.av)), (3, true, .lit z.2)]) (fun z => [.arr z.2 22 1 ((Nd.pthsFrom 0 (l.take z.1)).map pav)]) (fun z => z.1 ≤ l.length) (fun z => l.length - z.1) (0, .slice none 0 0) ⟨rfl, rfl, rfl, rfl, trivial⟩ (.refl _) (Nat.zero_le _) ?_
  rintro ⟨i, v⟩ hi
  dsimp only at hi ⊢
  rcases (show i < l.length ∨ i = l.length from by omega) with hlt | hend
  · have hga := Nd.at_av l i hlt
    have hsz := Nd.at_sz l i hlt
    generalize hd : l.getD i Nd.dflt = d at hga hsz
    have hse := Nd.sz_eq d
    have hsp := Nd.szs_len d.parts
    have hat : (d.attrs.map dav).length = d.attrs.length := List.length_map ..
    have hsn := Nd.paths_snoc l i hlt
    rw [hd] at hsn
    have hq1 := Nd.pthsFrom_len d.parts 0
    have hq2 := Nd.cnts_le d.parts
    have hq3 := Nd.pthsFrom_deep d.parts 0
    have hp1 := Nd.pthsFrom_len (l.take i) 0
    have hp2 : Nd.cnts (l.take i) ≤ n := by have h1 := Nd.cnts_append (l.take i) (l.drop i); rw [List.take_append_drop] at h1; have h2 := Nd.cnts_le l; omega
    have hqm : ((Nd.pthsFrom 0 d.parts).map pav).length = (Nd.pthsFrom 0 d.parts).length := List.length_map ..
    refine W.seq ?_
    refine W.region ?_
    refine W.q (Ev.lti (.t rfl) (.t rfl)) rfl ?_
    refine W.nil ?_
    refine W.then ?_
    refine W.seq ?_
    refine W.is (t := 11) (g := true) (av' := .lit (.bool true)) rfl (congrArg (fun b => AV.lit (.bool b)) (by simp; omega)) ?_
    refine W.condT (.t rfl) ?_
    refine W.skip ?_
    refine W.then ?_
    refine W.seq ?_
    refine W.block ?_
    refine W.seq ?_
    refine W.region ?_
    refine W.q (Ev.move (.t rfl)) rfl ?_
    refine W.q (Ev.at (E := 42) (.t rfl) (.t rfl) Try.underlying24 ty42 (fun _ => ⟨by omega, hga⟩) rfl rfl) rfl ?_
    first | refine W.q (Ev.lden (.t rfl) ag42 ty42 rfl rfl) rfl ?_ | refine W.q (Ev.ldbn 0 (.t rfl) rfl ag42 ty42 rfl) rfl ?_ | refine W.q (Ev.ldbn 1 (.t rfl) rfl ag42 ty42 rfl) rfl ?_ | refine W.q (Ev.ldbn 2 (.t rfl) rfl ag42 ty42 rfl) rfl ?_ | refine W.q (Ev.ldbn 3 (.t rfl) rfl ag42 ty42 rfl) rfl ?_
    refine W.alloc ty42 rfl rfl ?_
    intro b5
    refine W.q (Ev.assign (.t rfl)) rfl ?_
    first | refine W.stb 0 (.t rfl) (.t rfl) rfl ty42 rfl rfl rfl ?_ | refine W.stb 1 (.t rfl) (.t rfl) rfl ty42 rfl rfl rfl ?_ | refine W.stb 2 (.t rfl) (.t rfl) rfl ty42 rfl rfl rfl ?_ | refine W.stb 3 (.t rfl) (.t rfl) rfl ty42 rfl rfl rfl ?_
    refine W.nil ?_
    refine W.then ?_
    refine W.seq ?_
    refine W.region ?_
    refine W.q (Ev.move (.t rfl)) rfl ?_
    refine W.q (Ev.move (.t rfl)) rfl ?_
    refine W.bs (es := [_]) Try.underlying22 ty3 ⟨rfl, (.t rfl), rfl, rfl, trivial⟩ rfl (by decide) rfl rfl ?_
    refine W.bs (es := [_]) Try.underlying46 ty22 ⟨rfl, (.t rfl), rfl, rfl, trivial⟩ rfl (by decide) rfl rfl ?_
    first | refine W.app 0 (.t rfl) rfl (.sl (.t rfl) (by first | (simp [AV.okc, shV]; done) | (intro e he; rw [List.mem_singleton.1 he]; rfl))) Try.underlying46 ni46 ty22 rfl rfl (by simp only [List.length_append, List.length_cons, List.length_map, List.length_nil, List.length_take]; omega) rfl ?_ | refine W.app 1 (.t rfl) rfl (.sl (.t rfl) (by first | (simp [AV.okc, shV]; done) | (intro e he; rw [List.mem_singleton.1 he]; rfl))) Try.underlying46 ni46 ty22 rfl rfl (by simp only [List.length_append, List.length_cons, List.length_map, List.length_nil, List.length_take]; omega) rfl ?_ | refine W.app 2 (.t rfl) rfl (.sl (.t rfl) (by first | (simp [AV.okc, shV]; done) | (intro e he; rw [List.mem_singleton.1 he]; rfl))) Try.underlying46 ni46 ty22 rfl rfl (by simp only [List.length_append, List.length_cons, List.length_map, List.length_nil, List.length_take]; omega) rfl ?_ | refine W.app 3 (.t rfl) rfl (.sl (.t rfl) (by first | (simp [AV.okc, shV]; done) | (intro e he; rw [List.mem_singleton.1 he]; rfl))) Try.underlying46 ni46 ty22 rfl rfl (by simp only [List.length_append, List.length_cons, List.length_map, List.length_nil, List.length_take]; omega) rfl ?_ | refine W.app 0 (.t rfl) rfl (.arr 0 (.t rfl) rfl (by first | (simp [AV.okc, shV]; done) | (intro e he; rw [List.mem_singleton.1 he]; rfl))) Try.underlying46 ni46 ty22 rfl rfl (by simp only [List.length_append, List.length_cons, List.length_map, List.length_nil, List.length_take]; omega) rfl ?_ | refine W.app 0 (.t rfl) rfl (.arr 1 (.t rfl) rfl (by first | (simp [AV.okc, shV]; done) | (intro e he; rw [List.mem_singleton.1 he]; rfl))) Try.underlying46 ni46 ty22 rfl rfl (by simp only [List.length_append, List.length_cons, List.length_map, List.length_nil, List.length_take]; omega) rfl ?_ | refine W.app 0 (.t rfl) rfl (.arr 2 (.t rfl) rfl (by first | (simp [AV.okc, shV]; done) | (intro e he; rw [List.mem_singleton.1 he]; rfl))) Try.underlying46 ni46 ty22 rfl rfl (by simp only [List.length_append, List.length_cons, List.length_map, List.length_nil, List.length_take]; omega) rfl ?_ | refine W.app 0 (.t rfl) rfl (.arr 3 (.t rfl) rfl (by first | (simp [AV.okc, shV]; done) | (intro e he; rw [List.mem_singleton.1 he]; rfl))) Try.underlying46 ni46 ty22 rfl rfl (by simp only [List.length_append, List.length_cons, List.length_map, List.length_nil, List.length_take]; omega) rfl ?_ | refine W.app 1 (.t rfl) rfl (.arr 0 (.t rfl) rfl (by first | (simp [AV.okc, shV]; done) | (intro e he; rw [List.mem_singleton.1 he]; rfl))) Try.underlying46 ni46 ty22 rfl rfl (by simp only [List.length_append, List.length_cons, List.length_map, List.length_nil, List.length_take]; omega) rfl ?_ | refine W.app 1 (.t rfl) rfl (.arr 1 (.t rfl) rfl (by first | (simp [AV.okc, shV]; done) | (intro e he; rw [List.mem_singleton.1 he]; rfl))) Try.underlying46 ni46 ty22 rfl rfl (by simp only [List.length_append, List.length_cons, List.length_map, List.length_nil, List.length_take]; omega) rfl ?_ | refine W.app 1 (.t rfl) rfl (.arr 2 (.t rfl) rfl (by first | (simp [AV.okc, shV]; done) | (intro e he; rw [List.mem_singleton.1 he]; rfl))) Try.underlying46 ni46 ty22 rfl rfl (by simp only [List.length_append, List.length_cons, List.length_map, List.length_nil, List.length_take]; omega) rfl ?_ | refine W.app 1 (.t rfl) rfl (.arr 3 (.t rfl) rfl (by first | (simp [AV.okc, shV]; done) | (intro e he; rw [List.mem_singleton.1 he]; rfl))) Try.underlying46 ni46 ty22 rfl rfl (by simp only [List.length_append, List.length_cons, List.length_map, List.length_nil, List.length_take]; omega) rfl ?_ | refine W.app 2 (.t rfl) rfl (.arr 0 (.t rfl) rfl (by first | (simp [AV.okc, shV]; done) | (intro e he; rw [List.mem_singleton.1 he]; rfl))) Try.underlying46 ni46 ty22 rfl rfl (by simp only [List.length_append, List.length_cons, List.length_map, List.length_nil, List.length_take]; omega) rfl ?_ | refine W.app 2 (.t rfl) rfl (.arr 1 (.t rfl) rfl (by first | (simp [AV.okc, shV]; done) | (intro e he; rw [List.mem_singleton.1 he]; rfl))) Try.underlying46 ni46 ty22 rfl rfl (by simp only [List.length_append, List.length_cons, List.length_map, List.length_nil, List.length_take]; omega) rfl ?_ | refine W.app 2 (.t rfl) rfl (.arr 2 (.t rfl) rfl (by first | (simp [AV.okc, shV]; done) | (intro e he; rw [List.mem_singleton.1 he]; rfl))) Try.underlying46 ni46 ty22 rfl rfl (by simp only [List.length_append, List.length_cons, List.length_map, List.length_nil, List.length_take]; omega) rfl ?_ | refine W.app 2 (.t rfl) rfl (.arr 3 (.t rfl) rfl (by first | (simp [AV.okc, shV]; done) | (intro e he; rw [List.mem_singleton.1 he]; rfl))) Try.underlying46 ni46 ty22 rfl rfl (by simp only [List.length_append, List.length_cons, List.length_map, List.length_nil, List.length_take]; omega) rfl ?_ | refine W.app 3 (.t rfl) rfl (.arr 0 (.t rfl) rfl (by first | (simp [AV.okc, shV]; done) | (intro e he; rw [List.mem_singleton.1 he]; rfl))) Try.underlying46 ni46 ty22 rfl rfl (by simp only [List.length_append, List.length_cons, List.length_map, List.length_nil, List.length_take]; omega) rfl ?_ | refine W.app 3 (.t rfl) rfl (.arr 1 (.t rfl) rfl (by first | (simp [AV.okc, shV]; done) | (intro e he; rw [List.mem_singleton.1 he]; rfl))) Try.underlying46 ni46 ty22 rfl rfl (by simp only [List.length_append, List.length_cons, List.length_map, List.length_nil, List.length_take]; omega) rfl ?_ | refine W.app 3 (.t rfl) rfl (.arr 2 (.t rfl) rfl (by first | (simp [AV.okc, shV]; done) | (intro e he; rw [List.mem_singleton.1 he]; rfl))) Try.underlying46 ni46 ty22 rfl rfl (by simp only [List.length_append, List.length_cons, List.length_map, List.length_nil, List.length_take]; omega) rfl ?_ | refine W.app 3 (.t rfl) rfl (.arr 3 (.t rfl) rfl (by first | (simp [AV.okc, shV]; done) | (intro e he; rw [List.mem_singleton.1 he]; rfl))) Try.underlying46 ni46 ty22 rfl rfl (by simp only [List.length_append, List.length_cons, List.length_map, List.length_nil, List.length_take]; omega) rfl ?_
    intro v19
    refine W.q (Ev.assign (.t rfl)) rfl ?_
    refine W.nil ?_
    refine W.then ?_
    refine W.seq ?_
    refine W.region ?_
    first | refine W.q (Ev.fae (.t rfl) fa42_3 rfl) rfl ?_ | refine W.q (Ev.fab (.t rfl) fa42_3) rfl ?_ | refine W.q (Ev.faa (.t rfl) fa42_3) rfl ?_
    first | refine W.q (Ev.lde1 (.t rfl) ag24) rfl ?_ | refine W.q (Ev.ldb1 0 (.t rfl) rfl ag24 rfl) rfl ?_ | refine W.q (Ev.ldb1 1 (.t rfl) rfl ag24 rfl) rfl ?_ | refine W.q (Ev.ldb1 2 (.t rfl) rfl ag24 rfl) rfl ?_ | refine W.q (Ev.ldb1 3 (.t rfl) rfl ag24 rfl) rfl ?_
    refine W.callp (ih d.parts (by omega)) ⟨(.t rfl), trivial⟩ rfl ?_
    first | refine W.q (Ev.lensl (.t rfl) Try.underlying46) rfl ?_ | refine W.q (Ev.lenar (i := 0) (.t rfl) rfl Try.underlying46) rfl ?_ | refine W.q (Ev.lenar (i := 1) (.t rfl) rfl Try.underlying46) rfl ?_ | refine W.q (Ev.lenar (i := 2) (.t rfl) rfl Try.underlying46) rfl ?_ | refine W.q (Ev.lenar (i := 3) (.t rfl) rfl Try.underlying46) rfl ?_
    refine W.q (Ev.move .k) rfl ?_
    refine W.nil ?_
    refine W.then ?_
    refine W.block ?_
    refine W.loop (D := [_]) (ι := Nat × Value) (fun z => [(24, true, .int (z.1 : Int)), (23, true, .int (((Nd.pthsFrom 0 d.parts).map pav).length : Int)), (22, true, .sl 1 ((Nd.pthsFrom 0 d.parts).map pav)), (4, true, .int (i : Int)), (10, true, .int (i : Int)), (9, true, .int ((l.map Nd.av).length : Int)), (8, true, .sl 4 (l.map Nd.av)), (3, true, .lit z.2)]) (fun z => [.arr z.2 22 1 ((Nd.pthsFrom 0 (l.take i)).map pav ++ (pav [(i : Int)] :: (((Nd.pthsFrom 0 d.parts).take z.1).map fun p => pav ((i : Int) :: p))))]) (fun z => z.1 ≤ (Nd.pthsFrom 0 d.parts).length) (fun z => (Nd.pthsFrom 0 d.parts).length - z.1) (0, v19) ⟨rfl, rfl, rfl, rfl, rfl, rfl, rfl, rfl, trivial⟩ (List.Perm.swap _ _ []) (Nat.zero_le _) ?_
    rintro ⟨j, v2⟩ hj
    dsimp only at hj ⊢
    rcases (show j < (Nd.pthsFrom 0 d.parts).length ∨ j = (Nd.pthsFrom 0 d.parts).length from by omega) with hltj | hendj
    · have hgq := getD_mapG pav [] (Nd.pthsFrom 0 d.parts) j hltj
      have hpm := hq3 _ (getD_memG [] (Nd.pthsFrom 0 d.parts) j hltj)
      have htk := take_getDG [] (Nd.pthsFrom 0 d.parts) j hltj
      generalize hp : (Nd.pthsFrom 0 d.parts).getD j [] = p at hgq hpm htk
      refine W.seq ?_
      refine W.region ?_
      refine W.q (Ev.lti (.t rfl) (.t rfl)) rfl ?_
      refine W.nil ?_
      refine W.then ?_
      refine W.seq ?_
      refine W.is (t := 25) (g := true) (av' := .lit (.bool true)) rfl (congrArg (fun b => AV.lit (.bool b)) (by simp; omega)) ?_
      refine W.condT (.t rfl) ?_
      refine W.skip ?_
      refine W.then ?_
      refine W.seq ?_
      refine W.block ?_
      refine W.seq ?_
      refine W.region ?_
      refine W.q (Ev.at (E := 22) (.t rfl) (.t rfl) Try.underlying46 ty22 (fun _ => ⟨by omega, hgq⟩) rfl rfl) rfl ?_
      first | refine W.q (Ev.lde1 (.t rfl) ag22) rfl ?_ | refine W.q (Ev.ldb1 0 (.t rfl) rfl ag22 rfl) rfl ?_ | refine W.q (Ev.ldb1 1 (.t rfl) rfl ag22 rfl) rfl ?_ | refine W.q (Ev.ldb1 2 (.t rfl) rfl ag22 rfl) rfl ?_ | refine W.q (Ev.ldb1 3 (.t rfl) rfl ag22 rfl) rfl ?_
      refine W.q (Ev.assign (.t rfl)) rfl ?_
      refine W.nil ?_
      refine W.then ?_
      refine W.region ?_
      refine W.q (Ev.move (.t rfl)) rfl ?_
      refine W.q (Ev.move (.t rfl)) rfl ?_
      refine W.bso (es := [_]) Try.underlying22 ty3 ⟨rfl, (.t rfl), rfl, rfl, trivial⟩ rfl (by decide) rfl rfl ?_
      intro v30
      refine W.q (Ev.move (.t rfl)) rfl ?_
      first | refine W.app 0 (.t rfl) rfl (.sl (.t rfl) (by first | (simp [AV.okc, shV]; done) | (intro e he; rw [List.mem_singleton.1 he]; rfl))) Try.underlying22 ni22 ty3 rfl rfl (by simp only [List.length_append, List.length_cons, List.length_map, List.length_nil, List.length_take]; omega) rfl ?_ | refine W.app 1 (.t rfl) rfl (.sl (.t rfl) (by first | (simp [AV.okc, shV]; done) | (intro e he; rw [List.mem_singleton.1 he]; rfl))) Try.underlying22 ni22 ty3 rfl rfl (by simp only [List.length_append, List.length_cons, List.length_map, List.length_nil, List.length_take]; omega) rfl ?_ | refine W.app 2 (.t rfl) rfl (.sl (.t rfl) (by first | (simp [AV.okc, shV]; done) | (intro e he; rw [List.mem_singleton.1 he]; rfl))) Try.underlying22 ni22 ty3 rfl rfl (by simp only [List.length_append, List.length_cons, List.length_map, List.length_nil, List.length_take]; omega) rfl ?_ | refine W.app 3 (.t rfl) rfl (.sl (.t rfl) (by first | (simp [AV.okc, shV]; done) | (intro e he; rw [List.mem_singleton.1 he]; rfl))) Try.underlying22 ni22 ty3 rfl rfl (by simp only [List.length_append, List.length_cons, List.length_map, List.length_nil, List.length_take]; omega) rfl ?_ | refine W.app 0 (.t rfl) rfl (.arr 0 (.t rfl) rfl (by first | (simp [AV.okc, shV]; done) | (intro e he; rw [List.mem_singleton.1 he]; rfl))) Try.underlying22 ni22 ty3 rfl rfl (by simp only [List.length_append, List.length_cons, List.length_map, List.length_nil, List.length_take]; omega) rfl ?_ | refine W.app 0 (.t rfl) rfl (.arr 1 (.t rfl) rfl (by first | (simp [AV.okc, shV]; done) | (intro e he; rw [List.mem_singleton.1 he]; rfl))) Try.underlying22 ni22 ty3 rfl rfl (by simp only [List.length_append, List.length_cons, List.length_map, List.length_nil, List.length_take]; omega) rfl ?_ | refine W.app 0 (.t rfl) rfl (.arr 2 (.t rfl) rfl (by first | (simp [AV.okc, shV]; done) | (intro e he; rw [List.mem_singleton.1 he]; rfl))) Try.underlying22 ni22 ty3 rfl rfl (by simp only [List.length_append, List.length_cons, List.length_map, List.length_nil, List.length_take]; omega) rfl ?_ | refine W.app 0 (.t rfl) rfl (.arr 3 (.t rfl) rfl (by first | (simp [AV.okc, shV]; done) | (intro e he; rw [List.mem_singleton.1 he]; rfl))) Try.underlying22 ni22 ty3 rfl rfl (by simp only [List.length_append, List.length_cons, List.length_map, List.length_nil, List.length_take]; omega) rfl ?_ | refine W.app 1 (.t rfl) rfl (.arr 0 (.t rfl) rfl (by first | (simp [AV.okc, shV]; done) | (intro e he; rw [List.mem_singleton.1 he]; rfl))) Try.underlying22 ni22 ty3 rfl rfl (by simp only [List.length_append, List.length_cons, List.length_map, List.length_nil, List.length_take]; omega) rfl ?_ | refine W.app 1 (.t rfl) rfl (.arr 1 (.t rfl) rfl (by first | (simp [AV.okc, shV]; done) | (intro e he; rw [List.mem_singleton.1 he]; rfl))) Try.underlying22 ni22 ty3 rfl rfl (by simp only [List.length_append, List.length_cons, List.length_map, List.length_nil, List.length_take]; omega) rfl ?_ | refine W.app 1 (.t rfl) rfl (.arr 2 (.t rfl) rfl (by first | (simp [AV.okc, shV]; done) | (intro e he; rw [List.mem_singleton.1 he]; rfl))) Try.underlying22 ni22 ty3 rfl rfl (by simp only [List.length_append, List.length_cons, List.length_map, List.length_nil, List.length_take]; omega) rfl ?_ | refine W.app 1 (.t rfl) rfl (.arr 3 (.t rfl) rfl (by first | (simp [AV.okc, shV]; done) | (intro e he; rw [List.mem_singleton.1 he]; rfl))) Try.underlying22 ni22 ty3 rfl rfl (by simp only [List.length_append, List.length_cons, List.length_map, List.length_nil, List.length_take]; omega) rfl ?_ | refine W.app 2 (.t rfl) rfl (.arr 0 (.t rfl) rfl (by first | (simp [AV.okc, shV]; done) | (intro e he; rw [List.mem_singleton.1 he]; rfl))) Try.underlying22 ni22 ty3 rfl rfl (by simp only [List.length_append, List.length_cons, List.length_map, List.length_nil, List.length_take]; omega) rfl ?_ | refine W.app 2 (.t rfl) rfl (.arr 1 (.t rfl) rfl (by first | (simp [AV.okc, shV]; done) | (intro e he; rw [List.mem_singleton.1 he]; rfl))) Try.underlying22 ni22 ty3 rfl rfl (by simp only [List.length_append, List.length_cons, List.length_map, List.length_nil, List.length_take]; omega) rfl ?_ | refine W.app 2 (.t rfl) rfl (.arr 2 (.t rfl) rfl (by first | (simp [AV.okc, shV]; done) | (intro e he; rw [List.mem_singleton.1 he]; rfl))) Try.underlying22 ni22 ty3 rfl rfl (by simp only [List.length_append, List.length_cons, List.length_map, List.length_nil, List.length_take]; omega) rfl ?_ | refine W.app 2 (.t rfl) rfl (.arr 3 (.t rfl) rfl (by first | (simp [AV.okc, shV]; done) | (intro e he; rw [List.mem_singleton.1 he]; rfl))) Try.underlying22 ni22 ty3 rfl rfl (by simp only [List.length_append, List.length_cons, List.length_map, List.length_nil, List.length_take]; omega) rfl ?_ | refine W.app 3 (.t rfl) rfl (.arr 0 (.t rfl) rfl (by first | (simp [AV.okc, shV]; done) | (intro e he; rw [List.mem_singleton.1 he]; rfl))) Try.underlying22 ni22 ty3 rfl rfl (by simp only [List.length_append, List.length_cons, List.length_map, List.length_nil, List.length_take]; omega) rfl ?_ | refine W.app 3 (.t rfl) rfl (.arr 1 (.t rfl) rfl (by first | (simp [AV.okc, shV]; done) | (intro e he; rw [List.mem_singleton.1 he]; rfl))) Try.underlying22 ni22 ty3 rfl rfl (by simp only [List.length_append, List.length_cons, List.length_map, List.length_nil, List.length_take]; omega) rfl ?_ | refine W.app 3 (.t rfl) rfl (.arr 2 (.t rfl) rfl (by first | (simp [AV.okc, shV]; done) | (intro e he; rw [List.mem_singleton.1 he]; rfl))) Try.underlying22 ni22 ty3 rfl rfl (by simp only [List.length_append, List.length_cons, List.length_map, List.length_nil, List.length_take]; omega) rfl ?_ | refine W.app 3 (.t rfl) rfl (.arr 3 (.t rfl) rfl (by first | (simp [AV.okc, shV]; done) | (intro e he; rw [List.mem_singleton.1 he]; rfl))) Try.underlying22 ni22 ty3 rfl rfl (by simp only [List.length_append, List.length_cons, List.length_map, List.length_nil, List.length_take]; omega) rfl ?_
      intro v32
      refine W.freeze (M1 := [_]) (M2 := [_]) (D := []) (v := v32) (L' := [(32, true, .sl 1 ([AV.int (i : Int)] ++ p.map AV.int)), (28, true, .lit v2), (24, true, .int (j : Int)), (23, true, .int (((Nd.pthsFrom 0 d.parts).map pav).length : Int)), (22, true, .sl 1 ((Nd.pthsFrom 0 d.parts).map pav)), (4, true, .int (i : Int)), (10, true, .int (i : Int)), (9, true, .int ((l.map Nd.av).length : Int)), (8, true, .sl 4 (l.map Nd.av))]) (.refl _) ⟨⟨_, rfl, .one .hit⟩, ⟨_, rfl, .one (.refl _)⟩, ⟨_, rfl, .one (.refl _)⟩, ⟨_, rfl, .one (.refl _)⟩, ⟨_, rfl, .one (.refl _)⟩, ⟨_, rfl, .one (.refl _)⟩, ⟨_, rfl, .one (.refl _)⟩, ⟨_, rfl, .one (.refl _)⟩, ⟨_, rfl, .one (.refl _)⟩, trivial⟩ ⟨.refl _, trivial⟩ ?_
      refine W.bs (es := [_]) Try.underlying46 ty22 ⟨rfl, (.t rfl), rfl, rfl, trivial⟩ rfl (by decide) rfl rfl ?_
      first | refine W.app 0 (.t rfl) rfl (.sl (.t rfl) (by first | (simp [AV.okc, shV]; done) | (intro e he; rw [List.mem_singleton.1 he]; rfl))) Try.underlying46 ni46 ty22 rfl rfl (by simp only [List.length_append, List.length_cons, List.length_map, List.length_nil, List.length_take]; omega) rfl ?_ | refine W.app 1 (.t rfl) rfl (.sl (.t rfl) (by first | (simp [AV.okc, shV]; done) | (intro e he; rw [List.mem_singleton.1 he]; rfl))) Try.underlying46 ni46 ty22 rfl rfl (by simp only [List.length_append, List.length_cons, List.length_map, List.length_nil, List.length_take]; omega) rfl ?_ | refine W.app 2 (.t rfl) rfl (.sl (.t rfl) (by first | (simp [AV.okc, shV]; done) | (intro e he; rw [List.mem_singleton.1 he]; rfl))) Try.underlying46 ni46 ty22 rfl rfl (by simp only [List.length_append, List.length_cons, List.length_map, List.length_nil, List.length_take]; omega) rfl ?_ | refine W.app 3 (.t rfl) rfl (.sl (.t rfl) (by first | (simp [AV.okc, shV]; done) | (intro e he; rw [List.mem_singleton.1 he]; rfl))) Try.underlying46 ni46 ty22 rfl rfl (by simp only [List.length_append, List.length_cons, List.length_map, List.length_nil, List.length_take]; omega) rfl ?_ | refine W.app 0 (.t rfl) rfl (.arr 0 (.t rfl) rfl (by first | (simp [AV.okc, shV]; done) | (intro e he; rw [List.mem_singleton.1 he]; rfl))) Try.underlying46 ni46 ty22 rfl rfl (by simp only [List.length_append, List.length_cons, List.length_map, List.length_nil, List.length_take]; omega) rfl ?_ | refine W.app 0 (.t rfl) rfl (.arr 1 (.t rfl) rfl (by first | (simp [AV.okc, shV]; done) | (intro e he; rw [List.mem_singleton.1 he]; rfl))) Try.underlying46 ni46 ty22 rfl rfl (by simp only [List.length_append, List.length_cons, List.length_map, List.length_nil, List.length_take]; omega) rfl ?_ | refine W.app 0 (.t rfl) rfl (.arr 2 (.t rfl) rfl (by first | (simp [AV.okc, shV]; done) | (intro e he; rw [List.mem_singleton.1 he]; rfl))) Try.underlying46 ni46 ty22 rfl rfl (by simp only [List.length_append, List.length_cons, List.length_map, List.length_nil, List.length_take]; omega) rfl ?_ | refine W.app 0 (.t rfl) rfl (.arr 3 (.t rfl) rfl (by first | (simp [AV.okc, shV]; done) | (intro e he; rw [List.mem_singleton.1 he]; rfl))) Try.underlying46 ni46 ty22 rfl rfl (by simp only [List.length_append, List.length_cons, List.length_map, List.length_nil, List.length_take]; omega) rfl ?_ | refine W.app 1 (.t rfl) rfl (.arr 0 (.t rfl) rfl (by first | (simp [AV.okc, shV]; done) | (intro e he; rw [List.mem_singleton.1 he]; rfl))) Try.underlying46 ni46 ty22 rfl rfl (by simp only [List.length_append, List.length_cons, List.length_map, List.length_nil, List.length_take]; omega) rfl ?_ | refine W.app 1 (.t rfl) rfl (.arr 1 (.t rfl) rfl (by first | (simp [AV.okc, shV]; done) | (intro e he; rw [List.mem_singleton.1 he]; rfl))) Try.underlying46 ni46 ty22 rfl rfl (by simp only [List.length_append, List.length_cons, List.length_map, List.length_nil, List.length_take]; omega) rfl ?_ | refine W.app 1 (.t rfl) rfl (.arr 2 (.t rfl) rfl (by first | (simp [AV.okc, shV]; done) | (intro e he; rw [List.mem_singleton.1 he]; rfl))) Try.underlying46 ni46 ty22 rfl rfl (by simp only [List.length_append, List.length_cons, List.length_map, List.length_nil, List.length_take]; omega) rfl ?_ | refine W.app 1 (.t rfl) rfl (.arr 3 (.t rfl) rfl (by first | (simp [AV.okc, shV]; done) | (intro e he; rw [List.mem_singleton.1 he]; rfl))) Try.underlying46 ni46 ty22 rfl rfl (by simp only [List.length_append, List.length_cons, List.length_map, List.length_nil, List.length_take]; omega) rfl ?_ | refine W.app 2 (.t rfl) rfl (.arr 0 (.t rfl) rfl (by first | (simp [AV.okc, shV]; done) | (intro e he; rw [List.mem_singleton.1 he]; rfl))) Try.underlying46 ni46 ty22 rfl rfl (by simp only [List.length_append, List.length_cons, List.length_map, List.length_nil, List.length_take]; omega) rfl ?_ | refine W.app 2 (.t rfl) rfl (.arr 1 (.t rfl) rfl (by first | (simp [AV.okc, shV]; done) | (intro e he; rw [List.mem_singleton.1 he]; rfl))) Try.underlying46 ni46 ty22 rfl rfl (by simp only [List.length_append, List.length_cons, List.length_map, List.length_nil, List.length_take]; omega) rfl ?_ | refine W.app 2 (.t rfl) rfl (.arr 2 (.t rfl) rfl (by first | (simp [AV.okc, shV]; done) | (intro e he; rw [List.mem_singleton.1 he]; rfl))) Try.underlying46 ni46 ty22 rfl rfl (by simp only [List.length_append, List.length_cons, List.length_map, List.length_nil, List.length_take]; omega) rfl ?_ | refine W.app 2 (.t rfl) rfl (.arr 3 (.t rfl) rfl (by first | (simp [AV.okc, shV]; done) | (intro e he; rw [List.mem_singleton.1 he]; rfl))) Try.underlying46 ni46 ty22 rfl rfl (by simp only [List.length_append, List.length_cons, List.length_map, List.length_nil, List.length_take]; omega) rfl ?_ | refine W.app 3 (.t rfl) rfl (.arr 0 (.t rfl) rfl (by first | (simp [AV.okc, shV]; done) | (intro e he; rw [List.mem_singleton.1 he]; rfl))) Try.underlying46 ni46 ty22 rfl rfl (by simp only [List.length_append, List.length_cons, List.length_map, List.length_nil, List.length_take]; omega) rfl ?_ | refine W.app 3 (.t rfl) rfl (.arr 1 (.t rfl) rfl (by first | (simp [AV.okc, shV]; done) | (intro e he; rw [List.mem_singleton.1 he]; rfl))) Try.underlying46 ni46 ty22 rfl rfl (by simp only [List.length_append, List.length_cons, List.length_map, List.length_nil, List.length_take]; omega) rfl ?_ | refine W.app 3 (.t rfl) rfl (.arr 2 (.t rfl) rfl (by first | (simp [AV.okc, shV]; done) | (intro e he; rw [List.mem_singleton.1 he]; rfl))) Try.underlying46 ni46 ty22 rfl rfl (by simp only [List.length_append, List.length_cons, List.length_map, List.length_nil, List.length_take]; omega) rfl ?_ | refine W.app 3 (.t rfl) rfl (.arr 3 (.t rfl) rfl (by first | (simp [AV.okc, shV]; done) | (intro e he; rw [List.mem_singleton.1 he]; rfl))) Try.underlying46 ni46 ty22 rfl rfl (by simp only [List.length_append, List.length_cons, List.length_map, List.length_nil, List.length_take]; omega) rfl ?_
      intro v34
      refine W.q (Ev.assign (.t rfl)) rfl ?_
      refine W.nil ?_
      refine W.blk_normal ?_
      refine W.then ?_
      refine W.region ?_
      first | refine W.q (Ev.add (.t rfl) .k (fun _ => by omega)) rfl ?_ | refine W.q (Ev.addw (.t rfl) .k) rfl ?_
      refine W.q (Ev.move (.t rfl)) rfl ?_
      refine W.nil ?_
      refine W.then ?_
      refine W.reach (D := []) (j + 1, v34) ⟨rfl, rfl, rfl, rfl, rfl, rfl, rfl, rfl, trivial⟩ (by rw [htk, List.map_append, ← List.cons_append, ← List.append_assoc]; exact .refl _) ⟨by show j + 1 ≤ _; omega, by show _ - (j + 1) < _; omega⟩
    · skip
      refine W.seq ?_
      refine W.region ?_
      refine W.q (Ev.lti (.t rfl) (.t rfl)) rfl ?_
      refine W.nil ?_
      refine W.then ?_
      refine W.seq ?_
      refine W.is (t := 25) (g := true) (av' := .lit (.bool false)) rfl (congrArg (fun b => AV.lit (.bool b)) (by simp; omega)) ?_
      refine W.condF (.t rfl) ?_
      refine W.exit ?_
      refine W.then_exit ?_
      refine W.then_exit ?_
      refine W.blk_hit ?_
      refine W.blk_normal ?_
      refine W.then ?_
      refine W.region ?_
      first | refine W.q (Ev.add (.t rfl) .k (fun _ => by omega)) rfl ?_ | refine W.q (Ev.addw (.t rfl) .k) rfl ?_
      refine W.q (Ev.move (.t rfl)) rfl ?_
      refine W.nil ?_
      refine W.then ?_
      refine W.reach (D := []) (i + 1, v2) ⟨rfl, rfl, rfl, rfl, trivial⟩ (by rw [hsn, List.map_append, List.map_cons, List.map_map, show List.take j (Nd.pthsFrom 0 d.parts) = Nd.pthsFrom 0 d.parts from List.take_of_length_le (by omega)]; exact .refl _) ⟨by show i + 1 ≤ _; omega, by show _ - (i + 1) < _; omega⟩
  · have he : l.take i = l := List.take_of_length_le (by omega)
    rw [he]
    refine W.seq ?_
    refine W.region ?_
    refine W.q (Ev.lti (.t rfl) (.t rfl)) rfl ?_
    refine W.nil ?_
    refine W.then ?_
    refine W.seq ?_
    refine W.is (t := 11) (g := true) (av' := .lit (.bool false)) rfl (congrArg (fun b => AV.lit (.bool b)) (by simp; omega)) ?_
    refine W.condF (.t rfl) ?_
    refine W.exit ?_
    refine W.then_exit ?_
    refine W.then_exit ?_
    refine W.blk_hit ?_
    refine W.then ?_
    refine W.seq ?_
    refine W.region ?_
    refine W.q (Ev.move (.t rfl)) rfl ?_
    refine W.q (Ev.assign (.t rfl)) rfl ?_
    refine W.nil ?_
    refine W.then ?_
    refine W.ret ?_
    refine W.freeze (M1 := []) (M2 := []) (D := _) (v := v) (L' := [(2, true, .sl 1 ((Nd.pthsFrom 0 l).map pav))]) (.refl _) ⟨⟨_, rfl, .one .hit⟩, trivial⟩ trivial ?_
    refine W.retn (M' := []) (rs := [.tmp 2]) (avs := [_]) Try.results12 ⟨rfl, trivial⟩ rfl (.refl _) ?_
    exact ⟨rfl, rfl⟩

theorem c_Paths (l : List Nd) (hl : Nd.szs l ≤ 16777216) : FnP Try.prog 12 [.sl 4 (l.map Nd.av)] (.sl 1 ((Nd.pthsFrom 0 l).map pav)) := by
  suffices H : ∀ n, n ≤ 16777216 → ∀ l, Nd.szs l = n → FnP Try.prog 12 [.sl 4 (l.map Nd.av)] (.sl 1 ((Nd.pthsFrom 0 l).map pav)) from H _ hl l rfl
  intro n
  induction n using Nat.strongRecOn with
  | _ n ih => exact fun hn l hl => c_Paths_step n hn (fun l' h' => ih _ h' (by omega) l' rfl) l hl

end WPaths

end Go.Proofs.Ytpjngpegkoohgaa
