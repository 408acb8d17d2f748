/-
  The law WalkEach, walked.
-/
import Derived.Test.YtofmjmicgddljaaWNodes
import Derived.Test.YtofmjmicgddljaaWCopied
import Derived.Test.YtofmjmicgddljaaWPaths
import Derived.Test.YtofmjmicgddljaaWCount
import Derived.Test.YtofmjmicgddljaaWNodeAt
import Derived.Test.YtofmjmicgddljaaWAt
import Derived.Test.YtofmjmicgddljaaWSame
import Derived.Test.YtofmjmicgddljaaWBefore
set_option linter.unusedVariables false
set_option linter.unusedSimpArgs false
set_option maxRecDepth 100000
namespace Go.Proofs.Ytofmjmicgddljaa
open Go.Vl

namespace LWalkEach
theorem ty9 : Ty Try.prog 9 1 16 (.string ⟨#[]⟩) := Ty.of (by kernel_rfl)
theorem ty22 : Ty Try.prog 22 1 24 (.slice none 0 0) := Ty.of (by kernel_rfl)
theorem ty44 : Ty Try.prog 44 1 24 (.slice none 0 0) := Ty.of (by kernel_rfl)
theorem ty47 : Ty Try.prog 47 1 24 (.slice none 0 0) := Ty.of (by kernel_rfl)
theorem ty49 : Ty Try.prog 49 4 80 (.agg #[.string ⟨#[]⟩, .slice none 0 0, .string ⟨#[]⟩, .slice none 0 0]) := Ty.of (by kernel_rfl)
theorem ag22 : IsAgg Try.prog 22 false := ⟨_, Try.underlying22, rfl⟩
theorem ag49 : IsAgg Try.prog 49 true := ⟨_, Try.underlying49, rfl⟩
theorem st49 : StructAt Try.prog 49 [(0, 1), (1, 1), (2, 1), (3, 1)] := ⟨_, Try.underlying49, rfl, ty9.size, rfl, ty47.size, rfl, ty9.size, rfl, ty44.size, trivial⟩
theorem ni44 : NotInt Try.prog 44 := .inl ⟨_, Try.underlying44⟩
theorem c_WalkEach (l : List Int) (hl : l.length ≤ 1048576) : FnP Try.prog 10 [.sl 1 (l.map AV.int)] (.bool true) :=  by
  refine FnC.mk Try.func10 (by kernel_rfl) rfl Try.ntmps10 rfl (fun w0 F => ?_)
  refine W.seq ?_
  refine W.region ?_
  refine W.q (Ev.assign .k) rfl ?_
  refine W.nil ?_
  refine W.then ?_
  refine W.seq ?_
  refine W.region ?_
  refine W.q (Ev.move (.t rfl)) rfl ?_
  refine W.call (WNodes.c_Nodes l hl 5 6 (by decide) (by decide) (by decide)) ⟨(.t rfl), .k, .k, trivial⟩ (.refl _) rfl ?_
  rintro _ _ ⟨v15, ns, rest, rfl, rfl, hn1, hn2, hn3⟩
  have hns := Nd.szs_len ns
  refine W.q (Ev.move (.t rfl)) rfl ?_
  refine W.q (Ev.extract (.t rfl) rfl) rfl ?_
  refine W.q (Ev.extract (.t rfl) rfl) rfl ?_
  refine W.q (Ev.assign (.t rfl)) rfl ?_
  refine W.q (Ev.assign (.t rfl)) rfl ?_
  refine W.nil ?_
  refine W.then ?_
  refine W.seq ?_
  refine W.region ?_
  refine W.q (Ev.move (.t rfl)) rfl ?_
  refine W.q (Ev.build ty49 st49 rfl (fun hg => ⟨_, _, _, rfl, .k, rfl, rfl, rfl, rfl⟩)) rfl ?_
  refine W.nils (t := 19) (g := true) (cs' := [.str [98], .sl 2 [], .str [], .sl 4 []]) rfl ⟨.inl rfl, .inr ⟨rfl, 2, rfl⟩, .inl rfl, .inr ⟨rfl, 4, rfl⟩, trivial⟩ ?_
  refine W.bs (es := [_]) Try.underlying44 ty49 ⟨rfl, (.t rfl), rfl, rfl, trivial⟩ rfl (by decide) rfl rfl ?_
  first | refine W.app 0 (.t rfl) rfl (.sl (.t rfl) (by simp [AV.okc, shV])) Try.underlying44 ni44 ty49 rfl rfl (by simp only [List.length_map, List.length_cons, List.length_nil]; omega) rfl ?_ | refine W.app 1 (.t rfl) rfl (.sl (.t rfl) (by simp [AV.okc, shV])) Try.underlying44 ni44 ty49 rfl rfl (by simp only [List.length_map, List.length_cons, List.length_nil]; omega) rfl ?_ | refine W.app 2 (.t rfl) rfl (.sl (.t rfl) (by simp [AV.okc, shV])) Try.underlying44 ni44 ty49 rfl rfl (by simp only [List.length_map, List.length_cons, List.length_nil]; omega) rfl ?_ | refine W.app 3 (.t rfl) rfl (.sl (.t rfl) (by simp [AV.okc, shV])) Try.underlying44 ni44 ty49 rfl rfl (by simp only [List.length_map, List.length_cons, List.length_nil]; omega) rfl ?_ | refine W.app 0 (.t rfl) rfl (.arr 0 (.t rfl) rfl (by simp [AV.okc, shV])) Try.underlying44 ni44 ty49 rfl rfl (by simp only [List.length_map, List.length_cons, List.length_nil]; omega) rfl ?_ | refine W.app 0 (.t rfl) rfl (.arr 1 (.t rfl) rfl (by simp [AV.okc, shV])) Try.underlying44 ni44 ty49 rfl rfl (by simp only [List.length_map, List.length_cons, List.length_nil]; omega) rfl ?_ | refine W.app 0 (.t rfl) rfl (.arr 2 (.t rfl) rfl (by simp [AV.okc, shV])) Try.underlying44 ni44 ty49 rfl rfl (by simp only [List.length_map, List.length_cons, List.length_nil]; omega) rfl ?_ | refine W.app 0 (.t rfl) rfl (.arr 3 (.t rfl) rfl (by simp [AV.okc, shV])) Try.underlying44 ni44 ty49 rfl rfl (by simp only [List.length_map, List.length_cons, List.length_nil]; omega) rfl ?_ | refine W.app 1 (.t rfl) rfl (.arr 0 (.t rfl) rfl (by simp [AV.okc, shV])) Try.underlying44 ni44 ty49 rfl rfl (by simp only [List.length_map, List.length_cons, List.length_nil]; omega) rfl ?_ | refine W.app 1 (.t rfl) rfl (.arr 1 (.t rfl) rfl (by simp [AV.okc, shV])) Try.underlying44 ni44 ty49 rfl rfl (by simp only [List.length_map, List.length_cons, List.length_nil]; omega) rfl ?_ | refine W.app 1 (.t rfl) rfl (.arr 2 (.t rfl) rfl (by simp [AV.okc, shV])) Try.underlying44 ni44 ty49 rfl rfl (by simp only [List.length_map, List.length_cons, List.length_nil]; omega) rfl ?_ | refine W.app 1 (.t rfl) rfl (.arr 3 (.t rfl) rfl (by simp [AV.okc, shV])) Try.underlying44 ni44 ty49 rfl rfl (by simp only [List.length_map, List.length_cons, List.length_nil]; omega) rfl ?_ | refine W.app 2 (.t rfl) rfl (.arr 0 (.t rfl) rfl (by simp [AV.okc, shV])) Try.underlying44 ni44 ty49 rfl rfl (by simp only [List.length_map, List.length_cons, List.length_nil]; omega) rfl ?_ | refine W.app 2 (.t rfl) rfl (.arr 1 (.t rfl) rfl (by simp [AV.okc, shV])) Try.underlying44 ni44 ty49 rfl rfl (by simp only [List.length_map, List.length_cons, List.length_nil]; omega) rfl ?_ | refine W.app 2 (.t rfl) rfl (.arr 2 (.t rfl) rfl (by simp [AV.okc, shV])) Try.underlying44 ni44 ty49 rfl rfl (by simp only [List.length_map, List.length_cons, List.length_nil]; omega) rfl ?_ | refine W.app 2 (.t rfl) rfl (.arr 3 (.t rfl) rfl (by simp [AV.okc, shV])) Try.underlying44 ni44 ty49 rfl rfl (by simp only [List.length_map, List.length_cons, List.length_nil]; omega) rfl ?_ | refine W.app 3 (.t rfl) rfl (.arr 0 (.t rfl) rfl (by simp [AV.okc, shV])) Try.underlying44 ni44 ty49 rfl rfl (by simp only [List.length_map, List.length_cons, List.length_nil]; omega) rfl ?_ | refine W.app 3 (.t rfl) rfl (.arr 1 (.t rfl) rfl (by simp [AV.okc, shV])) Try.underlying44 ni44 ty49 rfl rfl (by simp only [List.length_map, List.length_cons, List.length_nil]; omega) rfl ?_ | refine W.app 3 (.t rfl) rfl (.arr 2 (.t rfl) rfl (by simp [AV.okc, shV])) Try.underlying44 ni44 ty49 rfl rfl (by simp only [List.length_map, List.length_cons, List.length_nil]; omega) rfl ?_ | refine W.app 3 (.t rfl) rfl (.arr 3 (.t rfl) rfl (by simp [AV.okc, shV])) Try.underlying44 ni44 ty49 rfl rfl (by simp only [List.length_map, List.length_cons, List.length_nil]; omega) rfl ?_
  intro v21
  refine W.q (Ev.assign (.t rfl)) rfl ?_
  refine W.nil ?_
  refine W.freeze (M1 := []) (M2 := []) (D := []) (v := v21) (L' := [(3, true, .sl 4 (ns.map Nd.av ++ [Nd.avx (Nd.mk [98] [] [] [])]))]) (.refl _) ⟨⟨_, rfl, .one .hit⟩, trivial⟩ trivial ?_
  refine W.is (t := 3) (g := true) rfl (congrArg (AV.sl 4) (Nd.map_snoc ns (Nd.mk [98] [] [] [])).symm) ?_
  have hX1 : Nd.szs (ns ++ [(Nd.mk [98] [] [] [])]) ≤ 2097153 := by rw [Nd.szs_append, Nd.szs_one, Nd.sz_eq]; simp only [Nd.attrs, Nd.parts, List.length_nil, Nd.szs]; omega
  have hX2 : 1 ≤ Nd.cnts (ns ++ [(Nd.mk [98] [] [] [])]) := by rw [Nd.cnts_append]; simp only [Nd.cnts, Nd.cnt]; omega
  have hX3 : Nd.wfs (ns ++ [(Nd.mk [98] [] [] [])]) := Nd.wfs_append hn3 ⟨(Nd.wf_eq _).2 ⟨fun _ => rfl, trivial⟩, trivial⟩
  generalize ns ++ [(Nd.mk [98] [] [] [])] = X at *
  have hP1 := Nd.pthsFrom_len X 0
  have hP2 := Nd.at_paths
  have hP3 := Nd.pthsFrom_deep X 0
  have hP4 := Nd.ord_paths X
  have hP5 := Nd.cnts_le X
  have cP := WPaths.c_Paths X (by omega)
  generalize hPS : Nd.pthsFrom 0 X = PS at *
  have hPm : (PS.map pav).length = PS.length := List.length_map ..
  refine W.then ?_
  refine W.seq ?_
  refine W.region ?_
  refine W.q (Ev.move (.t rfl)) rfl ?_
  refine W.callp (WCopied.c_copied X (by omega)) ⟨(.t rfl), trivial⟩ rfl ?_
  refine W.callp (cP) ⟨(.t rfl), trivial⟩ rfl ?_
  refine W.q (Ev.assign (.t rfl)) rfl ?_
  refine W.nil ?_
  refine W.then ?_
  refine W.seq ?_
  refine W.region ?_
  refine W.q (Ev.move (.t rfl)) rfl ?_
  refine W.call (WCount.c_Count X (by omega)) ⟨(.t rfl), trivial⟩ (.refl _) rfl ?_
  rintro _ _ ⟨rfl, k27, rfl, hk1, hk2⟩
  refine W.q (Ev.move (.t rfl)) rfl ?_
  refine W.q (Ev.extract (.t rfl) rfl) rfl ?_
  refine W.q (Ev.extract (.t rfl) rfl) rfl ?_
  refine W.q (Ev.assign (.t rfl)) rfl ?_
  refine W.q (Ev.assign (.t rfl)) rfl ?_
  refine W.nil ?_
  refine W.then ?_
  refine W.seq ?_
  refine W.seq ?_
  refine W.region ?_
  refine W.q (Ev.move (.t rfl)) rfl ?_
  first | refine W.q (Ev.lensl (.t rfl) Try.underlying50) rfl ?_ | refine W.q (Ev.lenar (i := 0) (.t rfl) rfl Try.underlying50) rfl ?_ | refine W.q (Ev.lenar (i := 1) (.t rfl) rfl Try.underlying50) rfl ?_ | refine W.q (Ev.lenar (i := 2) (.t rfl) rfl Try.underlying50) rfl ?_ | refine W.q (Ev.lenar (i := 3) (.t rfl) rfl Try.underlying50) rfl ?_
  refine W.q (Ev.move (.t rfl)) rfl ?_
  refine W.q (Ev.nei (.t rfl) (.t rfl)) rfl ?_
  refine W.q (Ev.move (.t rfl)) rfl ?_
  refine W.qgF rfl rfl (Ev.move (.t rfl)) rfl ?_
  refine W.qgF rfl rfl (Ev.lti (.c rfl) .k) rfl ?_
  refine W.q (Ev.or (.t rfl) ⟨_, _, rfl, rfl, by simp⟩) rfl ?_
  refine W.nil ?_
  refine W.then ?_
  refine W.is (t := 37) (g := true) (av' := .lit (.bool false)) rfl (congrArg (fun b => AV.lit (.bool b)) (by simp; omega)) ?_
  refine W.condF (.t rfl) ?_
  refine W.skip ?_
  refine W.then ?_
  refine W.seq ?_
  refine W.seq ?_
  refine W.region ?_
  refine W.q (Ev.assign .k) rfl ?_
  refine W.nil ?_
  refine W.then ?_
  refine W.block ?_
  refine W.loop (D := []) (ι := Nat) (fun i => [(8, true, .int (i : Int)), (3, true, .sl 4 (X.map Nd.av)), (5, true, .sl 1 (PS.map pav))]) (fun _ => []) (fun i => i ≤ PS.length) (fun i => PS.length - i) 0 ⟨rfl, rfl, rfl, trivial⟩ (.refl _) (Nat.zero_le _) ?_
  intro i hi
  dsimp only at hi ⊢
  rcases (show i < PS.length ∨ i = PS.length from by omega) with hlt | hend
  · have hgi := getD_mapG pav [] PS i hlt
    have hpm := getD_memG [] PS i hlt
    have hb := hP4 i hlt
    have hgj : 0 < i → (PS.map pav)[i - 1]? = some (pav (PS.getD (i - 1) [])) := fun h => getD_mapG pav [] PS (i - 1) (by omega)
    have hpd : 0 < i → (PS.getD (i - 1) []).length ≤ Nd.szs X := fun h => hP3 _ (getD_memG [] PS (i - 1) (by omega))
    have hpd0 : (PS.getD (i - 1) []).length ≤ Nd.szs X := by cases Nat.eq_zero_or_pos i with | inl h => rw [h]; exact hP3 _ (getD_memG [] PS 0 (by omega)) | inr h => exact hpd h
    generalize PS.getD (i - 1) [] = p0 at hb hgj hpd hpd0
    generalize PS.getD i [] = p at hgi hpm hb
    have hgz : 0 < i → 0 ≤ (i : Int) - 1 ∧ (PS.map pav)[((i : Int) - 1).toNat]? = some (pav p0) := fun h => ⟨by omega, by rw [show ((i : Int) - 1).toNat = i - 1 from by omega]; exact hgj h⟩
    have hpl := hP3 p hpm
    obtain ⟨d, hat⟩ := hP2 p X (by rw [hPS]; exact hpm)
    have hds := Nd.atP_sz p X d hat
    have cS := WSame.c_same [d] (by rw [Nd.szs_one]; omega)
    rw [show [d].map Nd.av = [Nd.avx d] from by rw [List.map_cons, Nd.av_eq]; rfl] at cS
    refine W.seq ?_
    refine W.seq ?_
    refine W.region ?_
    refine W.q (Ev.move (.t rfl)) rfl ?_
    refine W.q (Ev.move (.t rfl)) rfl ?_
    first | refine W.q (Ev.lensl (.t rfl) Try.underlying50) rfl ?_ | refine W.q (Ev.lenar (i := 0) (.t rfl) rfl Try.underlying50) rfl ?_ | refine W.q (Ev.lenar (i := 1) (.t rfl) rfl Try.underlying50) rfl ?_ | refine W.q (Ev.lenar (i := 2) (.t rfl) rfl Try.underlying50) rfl ?_ | refine W.q (Ev.lenar (i := 3) (.t rfl) rfl Try.underlying50) rfl ?_
    refine W.q (Ev.lti (.t rfl) (.t rfl)) rfl ?_
    refine W.nil ?_
    refine W.then ?_
    refine W.is (t := 41) (g := true) (av' := .lit (.bool true)) rfl (congrArg (fun b => AV.lit (.bool b)) (by simp; omega)) ?_
    refine W.condT (.t rfl) ?_
    refine W.skip ?_
    refine W.then ?_
    refine W.seq ?_
    refine W.block ?_
    refine W.seq ?_
    refine W.region ?_
    refine W.q (Ev.move (.t rfl)) rfl ?_
    refine W.q (Ev.move (.t rfl)) rfl ?_
    refine W.q (Ev.move (.t rfl)) rfl ?_
    refine W.q (Ev.at (E := 22) (.t rfl) (.t rfl) Try.underlying50 ty22 (fun _ => ⟨by omega, hgi⟩) rfl rfl) rfl ?_
    first | refine W.q (Ev.lde1 (.t rfl) ag22) rfl ?_ | refine W.q (Ev.ldb1 0 (.t rfl) rfl ag22 rfl) rfl ?_ | refine W.q (Ev.ldb1 1 (.t rfl) rfl ag22 rfl) rfl ?_ | refine W.q (Ev.ldb1 2 (.t rfl) rfl ag22 rfl) rfl ?_ | refine W.q (Ev.ldb1 3 (.t rfl) rfl ag22 rfl) rfl ?_
    refine W.callp (WNodeAt.c_nodeAt X p d hat (by omega)) ⟨(.t rfl), (.t rfl), trivial⟩ rfl ?_
    refine W.q (Ev.move (.t rfl)) rfl ?_
    refine W.q (Ev.extract (.t rfl) rfl) rfl ?_
    refine W.q (Ev.extract (.t rfl) rfl) rfl ?_
    refine W.alloc ty49 rfl rfl ?_
    intro b9
    first | refine W.stb 0 (.t rfl) (.t rfl) rfl ty49 rfl rfl rfl ?_ | refine W.stb 1 (.t rfl) (.t rfl) rfl ty49 rfl rfl rfl ?_ | refine W.stb 2 (.t rfl) (.t rfl) rfl ty49 rfl rfl rfl ?_ | refine W.stb 3 (.t rfl) (.t rfl) rfl ty49 rfl rfl rfl ?_
    refine W.q (Ev.assign (.t rfl)) rfl ?_
    refine W.nil ?_
    refine W.then ?_
    refine W.seq ?_
    refine W.drawnE (ι := Nat) (fun ee c => bif ee 10 then (.box c 49 (bif ee 11 then (Nd.avx d).cells else [AV.lit (.string ⟨#[]⟩), .lit (.slice none 0 0), .lit (.string ⟨#[]⟩), .lit (.slice none 0 0)]) :: [.box b9 49 (Nd.avx d).cells]) else [.box b9 49 (Nd.avx d).cells]) 10 0 (by kernel_rfl) (by kernel_rfl) rfl ?_
    refine DE.q (fun e c hk => (Ev.move (.t rfl))) rfl (fun _ _ => rfl) (by first | exact .inr (fun _ _ => rfl) | exact .inl (by kernel_rfl)) ?_
    refine DE.callp (fun c => WCopied.c_copied X (by omega)) (fun c => ⟨(.t rfl), trivial⟩) rfl (fun _ _ => rfl) (by first | exact .inr (fun _ _ => rfl) | exact .inl (by kernel_rfl)) ?_
    refine DE.q (fun e c hk => (Ev.move (.t rfl))) rfl (fun _ _ => rfl) (by first | exact .inr (fun _ _ => rfl) | exact .inl (by kernel_rfl)) ?_
    refine DE.q (fun e c hk => (Ev.move (.t rfl))) rfl (fun _ _ => rfl) (by first | exact .inr (fun _ _ => rfl) | exact .inl (by kernel_rfl)) ?_
    refine DE.q (fun e c hk => Ev.at (E := 22) (.t rfl) (.t rfl) Try.underlying50 ty22 (fun _ => ⟨by omega, hgi⟩) rfl rfl) rfl (fun _ _ => rfl) (by first | exact .inr (fun _ _ => rfl) | exact .inl (by kernel_rfl)) ?_
    first | refine DE.q (fun e c hk => (Ev.lde1 (.t rfl) ag22)) rfl (fun _ _ => rfl) (by first | exact .inr (fun _ _ => rfl) | exact .inl (by kernel_rfl)) ?_ | refine DE.q (fun e c hk => (Ev.ldb1 0 (.t rfl) rfl ag22 rfl)) rfl (fun _ _ => rfl) (by first | exact .inr (fun _ _ => rfl) | exact .inl (by kernel_rfl)) ?_ | refine DE.q (fun e c hk => (Ev.ldb1 1 (.t rfl) rfl ag22 rfl)) rfl (fun _ _ => rfl) (by first | exact .inr (fun _ _ => rfl) | exact .inl (by kernel_rfl)) ?_ | refine DE.q (fun e c hk => (Ev.ldb1 2 (.t rfl) rfl ag22 rfl)) rfl (fun _ _ => rfl) (by first | exact .inr (fun _ _ => rfl) | exact .inl (by kernel_rfl)) ?_ | refine DE.q (fun e c hk => (Ev.ldb1 3 (.t rfl) rfl ag22 rfl)) rfl (fun _ _ => rfl) (by first | exact .inr (fun _ _ => rfl) | exact .inl (by kernel_rfl)) ?_
    refine DE.callp (fun c => WAt.c_At p (by omega) X d hat hX3 (by omega)) (fun c => ⟨(.t rfl), (.t rfl), trivial⟩) rfl (fun _ _ => rfl) (by first | exact .inr (fun _ _ => rfl) | exact .inl (by kernel_rfl)) ?_
    refine DE.q (fun e c hk => (Ev.move (.t rfl))) rfl (fun _ _ => rfl) (by first | exact .inr (fun _ _ => rfl) | exact .inl (by kernel_rfl)) ?_
    refine DE.q (fun e c hk => (Ev.extract (.t rfl) rfl)) rfl (fun _ _ => rfl) (by first | exact .inr (fun _ _ => rfl) | exact .inl (by kernel_rfl)) ?_
    refine DE.q (fun e c hk => (Ev.extract (.t rfl) rfl)) rfl (fun _ _ => rfl) (by first | exact .inr (fun _ _ => rfl) | exact .inl (by kernel_rfl)) ?_
    refine DE.eff1 (av := fun b => .lit (.pointer (some ⟨b, 0, none⟩))) rfl rfl (fun e c hk L_ hs Q h => ?_) ?_
    · have hk_10 := hk.not
      have hk_11 := hk.down 11 (by kernel_rfl)
      simp only [addE, hk_10, hk_11, Nat.reduceAdd, Nat.reduceEqDiff, ↓reduceIte, cond_true, cond_false] at h ⊢
      exact W.alloc ty49 rfl rfl h
    refine DE.eff0 (fun e c hk L_ hs Q h => ?_) ?_
    · have hk_11 := hk.not
      have hk_10 := hk.up 10 (by kernel_rfl)
      simp only [addE, hk_11, hk_10, Nat.reduceAdd, Nat.reduceEqDiff, ↓reduceIte, cond_true, cond_false] at h ⊢
      first | (refine W.stb 0 (.t (hs _ _ rfl)) (.t (hs _ _ rfl)) rfl ty49 rfl rfl rfl ?_; exact h) | (refine W.stb 1 (.t (hs _ _ rfl)) (.t (hs _ _ rfl)) rfl ty49 rfl rfl rfl ?_; exact h) | (refine W.stb 2 (.t (hs _ _ rfl)) (.t (hs _ _ rfl)) rfl ty49 rfl rfl rfl ?_; exact h) | (refine W.stb 3 (.t (hs _ _ rfl)) (.t (hs _ _ rfl)) rfl ty49 rfl rfl rfl ?_; exact h)
    refine DE.q (fun e c hk => (Ev.assign (.t rfl))) rfl (fun _ _ => rfl) (by first | exact .inr (fun _ _ => rfl) | exact .inl (by kernel_rfl)) ?_
    refine DE.nil (fun b11 e_ he_ => ?_)
    simp only [he_ 10 (by decide), he_ 11 (by decide), cond_true, cond_false]
    refine W.then ?_
    refine W.seq ?_
    refine W.drawnE (ι := Unit) (fun _ _ => _) 31 () (by kernel_rfl) (by kernel_rfl) rfl ?_
    refine DE.q (fun e c hk => (Ev.move (.t rfl))) rfl (fun _ _ => rfl) (by first | exact .inr (fun _ _ => rfl) | exact .inl (by kernel_rfl)) ?_
    refine DE.q (fun e c hk => (Ev.not (.t rfl))) rfl (fun _ _ => rfl) (by first | exact .inr (fun _ _ => rfl) | exact .inl (by kernel_rfl)) ?_
    refine DE.q (fun e c hk => (Ev.move (.t rfl))) rfl (fun _ _ => rfl) (by first | exact .inr (fun _ _ => rfl) | exact .inl (by kernel_rfl)) ?_
    refine DE.qg rfl (fun _ => rfl) (fun e c hk => (Ev.move (.t rfl))) rfl (fun _ _ => rfl) (by first | exact .inr (fun _ _ => rfl) | exact .inl (by kernel_rfl)) ?_
    refine DE.qg rfl (fun _ => rfl) (fun e c hk => (Ev.nei (.c rfl) .k)) rfl (fun _ _ => rfl) (by first | exact .inr (fun _ _ => rfl) | exact .inl (by kernel_rfl)) ?_
    refine DE.q (fun e c hk => (Ev.or (.t rfl) ⟨_, _, rfl, rfl, by simp⟩)) rfl (fun _ _ => rfl) (by first | exact .inr (fun _ _ => rfl) | exact .inl (by kernel_rfl)) ?_
    refine DE.q (fun e c hk => (Ev.move (.t rfl))) rfl (fun _ _ => rfl) (by first | exact .inr (fun _ _ => rfl) | exact .inl (by kernel_rfl)) ?_
    first | refine DE.qg rfl (fun _ => rfl) (fun e c hk => (Ev.lden (.t rfl) ag49 ty49 rfl rfl)) rfl (fun _ _ => rfl) (by first | exact .inr (fun _ _ => rfl) | exact .inl (by kernel_rfl)) ?_ | refine DE.qg rfl (fun _ => rfl) (fun e c hk => (Ev.ldbn 0 (.t rfl) rfl ag49 ty49 rfl)) rfl (fun _ _ => rfl) (by first | exact .inr (fun _ _ => rfl) | exact .inl (by kernel_rfl)) ?_ | refine DE.qg rfl (fun _ => rfl) (fun e c hk => (Ev.ldbn 1 (.t rfl) rfl ag49 ty49 rfl)) rfl (fun _ _ => rfl) (by first | exact .inr (fun _ _ => rfl) | exact .inl (by kernel_rfl)) ?_ | refine DE.qg rfl (fun _ => rfl) (fun e c hk => (Ev.ldbn 2 (.t rfl) rfl ag49 ty49 rfl)) rfl (fun _ _ => rfl) (by first | exact .inr (fun _ _ => rfl) | exact .inl (by kernel_rfl)) ?_ | refine DE.qg rfl (fun _ => rfl) (fun e c hk => (Ev.ldbn 3 (.t rfl) rfl ag49 ty49 rfl)) rfl (fun _ _ => rfl) (by first | exact .inr (fun _ _ => rfl) | exact .inl (by kernel_rfl)) ?_
    refine DE.bsg (es := fun _ => [_]) rfl (fun _ => rfl) Try.underlying44 ty49 (fun c hg => ⟨rfl, (.i rfl (fun _ => hg)), rfl, rfl, trivial⟩) (fun _ => rfl) (by decide) rfl rfl (fun _ _ => rfl) (by first | exact .inr (fun _ _ => rfl) | exact .inl (by kernel_rfl)) ?_
    first | refine DE.qg rfl (fun _ => rfl) (fun e c hk => (Ev.lden (.t rfl) ag49 ty49 rfl rfl)) rfl (fun _ _ => rfl) (by first | exact .inr (fun _ _ => rfl) | exact .inl (by kernel_rfl)) ?_ | refine DE.qg rfl (fun _ => rfl) (fun e c hk => (Ev.ldbn 0 (.t rfl) rfl ag49 ty49 rfl)) rfl (fun _ _ => rfl) (by first | exact .inr (fun _ _ => rfl) | exact .inl (by kernel_rfl)) ?_ | refine DE.qg rfl (fun _ => rfl) (fun e c hk => (Ev.ldbn 1 (.t rfl) rfl ag49 ty49 rfl)) rfl (fun _ _ => rfl) (by first | exact .inr (fun _ _ => rfl) | exact .inl (by kernel_rfl)) ?_ | refine DE.qg rfl (fun _ => rfl) (fun e c hk => (Ev.ldbn 2 (.t rfl) rfl ag49 ty49 rfl)) rfl (fun _ _ => rfl) (by first | exact .inr (fun _ _ => rfl) | exact .inl (by kernel_rfl)) ?_ | refine DE.qg rfl (fun _ => rfl) (fun e c hk => (Ev.ldbn 3 (.t rfl) rfl ag49 ty49 rfl)) rfl (fun _ _ => rfl) (by first | exact .inr (fun _ _ => rfl) | exact .inl (by kernel_rfl)) ?_
    refine DE.bsg (es := fun _ => [_]) rfl (fun _ => rfl) Try.underlying44 ty49 (fun c hg => ⟨rfl, (.i rfl (fun _ => hg)), rfl, rfl, trivial⟩) (fun _ => rfl) (by decide) rfl rfl (fun _ _ => rfl) (by first | exact .inr (fun _ _ => rfl) | exact .inl (by kernel_rfl)) ?_
    refine DE.callg rfl (fun _ => rfl) (fun c hg => cS) (fun c hg => ⟨(.i rfl (fun _ => hg)), (.i rfl (fun _ => hg)), trivial⟩) rfl (fun _ _ => rfl) (by first | exact .inr (fun _ _ => rfl) | exact .inl (by kernel_rfl)) ?_
    refine DE.qg rfl (fun _ => rfl) (fun e c hk => (Ev.not (.c rfl))) rfl (fun _ _ => rfl) (by first | exact .inr (fun _ _ => rfl) | exact .inl (by kernel_rfl)) ?_
    refine DE.q (fun e c hk => (Ev.or (.t rfl) ⟨_, _, rfl, rfl, by simp⟩)) rfl (fun _ _ => rfl) (by first | exact .inr (fun _ _ => rfl) | exact .inl (by kernel_rfl)) ?_
    refine DE.q (fun e c hk => (Ev.move (.t rfl))) rfl (fun _ _ => rfl) (by first | exact .inr (fun _ _ => rfl) | exact .inl (by kernel_rfl)) ?_
    refine DE.qg rfl (fun _ => rfl) (fun e c hk => (Ev.move (.t rfl))) rfl (fun _ _ => rfl) (by first | exact .inr (fun _ _ => rfl) | exact .inl (by kernel_rfl)) ?_
    refine DE.qg rfl (fun _ => rfl) (fun e c hk => (Ev.gti (.c rfl) .k)) rfl (fun _ _ => rfl) (by first | exact .inr (fun _ _ => rfl) | exact .inl (by kernel_rfl)) ?_
    refine DE.qg rfl (fun _ => rfl) (fun e c hk => (Ev.move (.c rfl))) rfl (fun _ _ => rfl) (by first | exact .inr (fun _ _ => rfl) | exact .inl (by kernel_rfl)) ?_
    refine DE.qg rfl (fun _ => rfl) (fun e c hk => (Ev.move (.t rfl))) rfl (fun _ _ => rfl) (by first | exact .inr (fun _ _ => rfl) | exact .inl (by kernel_rfl)) ?_
    refine DE.qg rfl (fun _ => rfl) (fun e c hk => (Ev.move (.t rfl))) rfl (fun _ _ => rfl) (by first | exact .inr (fun _ _ => rfl) | exact .inl (by kernel_rfl)) ?_
    first | refine DE.qg rfl (fun _ => rfl) (fun e c hk => (Ev.sub (.c rfl) .k (fun _ => by omega))) rfl (fun _ _ => rfl) (by first | exact .inr (fun _ _ => rfl) | exact .inl (by kernel_rfl)) ?_ | refine DE.qg rfl (fun _ => rfl) (fun e c hk => (Ev.subw (.c rfl) .k)) rfl (fun _ _ => rfl) (by first | exact .inr (fun _ _ => rfl) | exact .inl (by kernel_rfl)) ?_
    refine DE.qg rfl (fun _ => rfl) (fun e c hk => Ev.at (E := 22) (.c rfl) (.c rfl) Try.underlying50 ty22 (e := pav p0) (fun hg => hgz (by simp at hg; omega)) rfl rfl) rfl (fun _ _ => rfl) (by first | exact .inr (fun _ _ => rfl) | exact .inl (by kernel_rfl)) ?_
    first | refine DE.qg rfl (fun _ => rfl) (fun e c hk => (Ev.lde1 (.c rfl) ag22)) rfl (fun _ _ => rfl) (by first | exact .inr (fun _ _ => rfl) | exact .inl (by kernel_rfl)) ?_ | refine DE.qg rfl (fun _ => rfl) (fun e c hk => (Ev.ldb1 0 (.c rfl) rfl ag22 rfl)) rfl (fun _ _ => rfl) (by first | exact .inr (fun _ _ => rfl) | exact .inl (by kernel_rfl)) ?_ | refine DE.qg rfl (fun _ => rfl) (fun e c hk => (Ev.ldb1 1 (.c rfl) rfl ag22 rfl)) rfl (fun _ _ => rfl) (by first | exact .inr (fun _ _ => rfl) | exact .inl (by kernel_rfl)) ?_ | refine DE.qg rfl (fun _ => rfl) (fun e c hk => (Ev.ldb1 2 (.c rfl) rfl ag22 rfl)) rfl (fun _ _ => rfl) (by first | exact .inr (fun _ _ => rfl) | exact .inl (by kernel_rfl)) ?_ | refine DE.qg rfl (fun _ => rfl) (fun e c hk => (Ev.ldb1 3 (.c rfl) rfl ag22 rfl)) rfl (fun _ _ => rfl) (by first | exact .inr (fun _ _ => rfl) | exact .inl (by kernel_rfl)) ?_
    refine DE.qg rfl (fun _ => rfl) (fun e c hk => (Ev.move (.t rfl))) rfl (fun _ _ => rfl) (by first | exact .inr (fun _ _ => rfl) | exact .inl (by kernel_rfl)) ?_
    refine DE.qg rfl (fun _ => rfl) (fun e c hk => (Ev.move (.t rfl))) rfl (fun _ _ => rfl) (by first | exact .inr (fun _ _ => rfl) | exact .inl (by kernel_rfl)) ?_
    refine DE.qg rfl (fun _ => rfl) (fun e c hk => Ev.at (E := 22) (.c rfl) (.c rfl) Try.underlying50 ty22 (fun _ => ⟨by omega, hgi⟩) rfl rfl) rfl (fun _ _ => rfl) (by first | exact .inr (fun _ _ => rfl) | exact .inl (by kernel_rfl)) ?_
    first | refine DE.qg rfl (fun _ => rfl) (fun e c hk => (Ev.lde1 (.c rfl) ag22)) rfl (fun _ _ => rfl) (by first | exact .inr (fun _ _ => rfl) | exact .inl (by kernel_rfl)) ?_ | refine DE.qg rfl (fun _ => rfl) (fun e c hk => (Ev.ldb1 0 (.c rfl) rfl ag22 rfl)) rfl (fun _ _ => rfl) (by first | exact .inr (fun _ _ => rfl) | exact .inl (by kernel_rfl)) ?_ | refine DE.qg rfl (fun _ => rfl) (fun e c hk => (Ev.ldb1 1 (.c rfl) rfl ag22 rfl)) rfl (fun _ _ => rfl) (by first | exact .inr (fun _ _ => rfl) | exact .inl (by kernel_rfl)) ?_ | refine DE.qg rfl (fun _ => rfl) (fun e c hk => (Ev.ldb1 2 (.c rfl) rfl ag22 rfl)) rfl (fun _ _ => rfl) (by first | exact .inr (fun _ _ => rfl) | exact .inl (by kernel_rfl)) ?_ | refine DE.qg rfl (fun _ => rfl) (fun e c hk => (Ev.ldb1 3 (.c rfl) rfl ag22 rfl)) rfl (fun _ _ => rfl) (by first | exact .inr (fun _ _ => rfl) | exact .inl (by kernel_rfl)) ?_
    refine DE.callg rfl (fun _ => rfl) (fun c hg => WBefore.c_before p0 p (by omega) (by omega)) (fun c hg => ⟨(.i rfl (fun _ => hg)), (.i rfl (fun _ => hg)), trivial⟩) rfl (fun _ _ => rfl) (by first | exact .inr (fun _ _ => rfl) | exact .inl (by kernel_rfl)) ?_
    refine DE.qg rfl (fun _ => rfl) (fun e c hk => (Ev.not (.c rfl))) rfl (fun _ _ => rfl) (by first | exact .inr (fun _ _ => rfl) | exact .inl (by kernel_rfl)) ?_
    refine DE.qg rfl (fun _ => rfl) (fun e c hk => (Ev.and (.c rfl) ⟨_, _, rfl, rfl, by simp⟩)) rfl (fun _ _ => rfl) (by first | exact .inr (fun _ _ => rfl) | exact .inl (by kernel_rfl)) ?_
    refine DE.q (fun e c hk => (Ev.or (.t rfl) ⟨_, _, rfl, rfl, by simp⟩)) rfl (fun _ _ => rfl) (by first | exact .inr (fun _ _ => rfl) | exact .inl (by kernel_rfl)) ?_
    refine DE.nil (fun c_ e_ he_ => ?_)
    dsimp only
    refine W.then ?_
    refine W.is (t := 93) (g := true) (av' := .lit (.bool false)) rfl (congrArg (fun b => AV.lit (.bool b)) (by rcases Nat.eq_zero_or_pos i with h | h <;> first | (subst h; simp; done) | simp [hb h])) ?_
    refine W.condF (.t rfl) ?_
    refine W.skip ?_
    refine W.blk_normal ?_
    refine W.then ?_
    refine W.region ?_
    refine W.q (Ev.move (.t rfl)) rfl ?_
    first | refine W.q (Ev.add (.t rfl) .k (fun _ => by omega)) rfl ?_ | refine W.q (Ev.addw (.t rfl) .k) rfl ?_
    refine W.q (Ev.assign (.t rfl)) rfl ?_
    refine W.nil ?_
    refine W.then ?_
    refine W.reach (D := [_, _]) (i + 1) ⟨rfl, rfl, rfl, trivial⟩ (.refl _) ⟨by show i + 1 ≤ _; omega, by show _ - (i + 1) < _; omega⟩
  · skip
    refine W.seq ?_
    refine W.seq ?_
    refine W.region ?_
    refine W.q (Ev.move (.t rfl)) rfl ?_
    refine W.q (Ev.move (.t rfl)) rfl ?_
    first | refine W.q (Ev.lensl (.t rfl) Try.underlying50) rfl ?_ | refine W.q (Ev.lenar (i := 0) (.t rfl) rfl Try.underlying50) rfl ?_ | refine W.q (Ev.lenar (i := 1) (.t rfl) rfl Try.underlying50) rfl ?_ | refine W.q (Ev.lenar (i := 2) (.t rfl) rfl Try.underlying50) rfl ?_ | refine W.q (Ev.lenar (i := 3) (.t rfl) rfl Try.underlying50) rfl ?_
    refine W.q (Ev.lti (.t rfl) (.t rfl)) rfl ?_
    refine W.nil ?_
    refine W.then ?_
    refine W.is (t := 41) (g := true) (av' := .lit (.bool false)) rfl (congrArg (fun b => AV.lit (.bool b)) (by simp; omega)) ?_
    refine W.condF (.t rfl) ?_
    refine W.exit ?_
    refine W.then_exit ?_
    refine W.then_exit ?_
    refine W.blk_hit ?_
    refine W.then ?_
    refine W.seq ?_
    refine W.region ?_
    refine W.q (Ev.assign .k) rfl ?_
    refine W.nil ?_
    refine W.then ?_
    refine W.ret ?_
    refine W.retn (M' := []) (rs := [.tmp 2]) (avs := [_]) Try.results10 ⟨rfl, trivial⟩ rfl (.refl _) ?_
    exact ⟨rfl, rfl⟩

end LWalkEach

end Go.Proofs.Ytofmjmicgddljaa
