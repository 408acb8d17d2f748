/-
  Merged: Rng WSplit0 WParseB LawS.
-/
import Derived.Test.YtiflifblkpjgpaaDoorG2

section
set_option linter.unusedVariables false
set_option linter.unusedSimpArgs false
set_option linter.unusedSectionVars false
namespace Go.Vl
open Go

theorem wd_nil (a : Act) : wd [] a = a := by cases a; simp [wd]
theorem up_nil {Q : Exit → Act → World → Prop} {e : Exit} {a : Act} {w : World} (h : up [] Q e a w) : Q e a w := by
  obtain ⟨b, rfl, hq⟩ := h
  rwa [wd_nil]

theorem Qok.body {P : Program} {fn : Func} {w0 : World} {N0 Fb : List Nat} {post : AV → List ME → Prop} : Qok (bodyPost P fn (RetR w0 N0 Fb post)) := fun a w ⟨v, r, M', h, _⟩ => by cases h
theorem Qok.bodyM {F : Fence} {n : Nat} {P : Program} {fn : Func} {w0 : World} {N0 Fb : List Nat} {post : AV → List ME → Prop} : Qok (bodyPostM F n P fn (RetR w0 N0 Fb post)) := fun a w ⟨v, r, M', h, _⟩ => by cases h
theorem Qok.round {P : Program} {R : Nat} {K : Ending → World → Prop} : Qok (roundPost P R K) := fun a w h => h

theorem St.enter {P : Program} {n k : Nat} {args : List AV} {M0 : List ME} {w : World} {F : List Nat} {vs : List Value} (hn : k = n) (hlen : Nat.ble args.length n = true) (hF : ∀ b ∈ F, b < w.heap.size)
    (hm : MOk w M0 F) (ha : RepT w (bl M0 ++ F) args vs) : St ⟨P, n, w, bl M0, F⟩ (argL 0 args) M0 { tmps := vs.toArray ++ Array.replicate (k - vs.toArray.size) undef, defers := [] } w := by
  have hl := ha.length
  have hle : args.length ≤ n := Nat.le_of_ble_eq_true hlen
  refine ⟨rfl, ?_, ?_, hm, Fr.refl _ _, hF⟩
  · simp [hn, hl]; omega
  · intro t g av hlk
    obtain ⟨j, rfl, h2, h3⟩ := look_argL args 0 t _ hlk
    obtain ⟨v, hv, hr⟩ := ha.get h2
    have hj : j < vs.length := by
      rcases Nat.lt_or_ge j vs.length with h | h
      · exact h
      · rw [List.getElem?_eq_none h] at hv; cases hv
    have e : ((vs.toArray ++ Array.replicate (k - vs.toArray.size) undef).getD (0 + j) undef) = v := by
      rw [Nat.zero_add, Array.getD_eq_getD_getElem?, Array.getElem?_append_left (by simpa using hj)]
      simp [hv]
    simp only at h3
    subst h3
    exact ⟨fun _ => by rw [e]; exact hr, fun h => by cases h⟩

theorem St.less {x : Cx} {L : List (Tmp × Bool × AV)} {M M' D : List ME} {a : Act} {w : World} (hs : St x L M a w) (hM : List.Perm M (M' ++ D)) : St x L M' a w := by
  obtain ⟨hm, hk, hsub⟩ := hs.mem.sub hM
  exact ⟨hs.defers, hs.size, fun t g av hl => ⟨fun hg => ((hs.slots t g av hl).1 hg).keep hk, (hs.slots t g av hl).2⟩, hm, hs.fr.sub hsub, hs.old⟩

/-- a contract in a fence -/
def FnCI (F : Fence) (n : Nat) (P : Program) (f : FuncId) (args : List AV) (M0 : List ME) (post : AV → List ME → Prop) : Prop :=
  ∀ (w : World) (Fb : List Nat) (vs : List Value), (∀ b ∈ Fb, b < w.heap.size) → MOk w M0 Fb → RepT w (bl M0 ++ Fb) args vs → CallsIn F n P f vs.toArray w (RetR w (bl M0) Fb post)

theorem FnCI.mono {F : Fence} {n : Nat} {P : Program} {f : FuncId} {args : List AV} {M0 : List ME} {post post' : AV → List ME → Prop} (h : FnCI F n P f args M0 post) (hp : ∀ r M, post r M → post' r M) : FnCI F n P f args M0 post' := fun w Fb vs hFb hm ha =>
  CallsIn.mono (h w Fb vs hFb hm ha) fun e w' ⟨v, r, M', he, hq, h3⟩ => ⟨v, r, M', he, hp _ _ hq, h3⟩
theorem FnCI.perm {F : Fence} {n : Nat} {P : Program} {f : FuncId} {args : List AV} {M0 M1 : List ME} {post : AV → List ME → Prop} (h : FnCI F n P f args M0 post) (hp : List.Perm M1 M0) : FnCI F n P f args M1 post := fun w Fb vs hFb hm ha => by
  obtain ⟨hm', hk, hsub⟩ := hm.sub (M' := M0) (D := []) (by rw [List.append_nil]; exact hp)
  have hmem : ∀ b, b ∈ bl M0 ↔ b ∈ bl M1 := fun b => (bl_perm hp).mem_iff.symm
  refine CallsIn.mono (h w Fb vs hFb hm' (RepT.keep hk _ _ ha)) ?_
  rintro e w' ⟨v, r, M', he, hp, hm2, hr, hf⟩
  exact ⟨v, r, M', he, hp, hm2, hr, ⟨hf.os, hf.tape, hf.output, hf.size, fun k hk hn => hf.block k hk (fun h => hn ((hmem k).1 h))⟩⟩

theorem FnCI.mk {F : Fence} {n : Nat} {P : Program} {f : FuncId} {fn : Func} {c : Code} {args : List AV} {M0 : List ME} {post : AV → List ME → Prop} {nt : Nat} (hF : Fok F) (hro : F.round = none) (hf : P.funcs[f]? = some fn) (hb : fn.body = some c) (hn : fn.ntmps = nt)
    (hlen : Nat.ble args.length nt = true)
    (h : ∀ w0 Fb, Qok (bodyPost P fn (RetR w0 (bl M0) Fb post)) → W ⟨P, nt, w0, bl M0, Fb⟩ (argL 0 args) M0 (Jn F n P [] c (bodyPost P fn (RetR w0 (bl M0) Fb post)))) : FnCI F n P f args M0 post := fun w Fb vs hFb hm ha => by
  refine callsIn_of_wp hf hb (hF.fn f) ?_ hro
  have := h w Fb Qok.body _ w (St.enter (k := fn.ntmps) hn hlen hFb hm ha)
  unfold Jn at this
  rw [wd_nil] at this
  exact wpIn_mono this fun e a w h => up_nil h

/-- A function that holds a range over a function. -/
theorem FnC.mkJ (n : Nat) {P : Program} {f : FuncId} {fn : Func} {c : Code} {args : List AV} {M0 : List ME} {post : AV → List ME → Prop} {nt : Nat} (hf : P.funcs[f]? = some fn) (hnm : (fn.name == "runtime.NumGoroutine") = false) (hb : fn.body = some c) (hn : fn.ntmps = nt)
    (hlen : Nat.ble args.length nt = true)
    (h : ∀ w0 Fb, Qok (bodyPostM Fence.wide n P fn (RetR w0 (bl M0) Fb post)) → W ⟨P, nt, w0, bl M0, Fb⟩ (argL 0 args) M0 (Jn Fence.wide n P [] c (bodyPostM Fence.wide n P fn (RetR w0 (bl M0) Fb post)))) : FnC P f args M0 post := by
  refine ⟨⟨fn, hf, hnm, by rw [hb]; rfl⟩, fun w Fb vs hFb hm ha => ?_⟩
  refine (callsIn_wide (n := n)).1 (callsIn_of_wp_marks hf hb trivial ?_)
  have := h w Fb Qok.bodyM _ w (St.enter (k := fn.ntmps) hn hlen hFb hm ha)
  unfold Jn at this
  rw [wd_nil] at this
  exact wpIn_mono this fun e a w h => up_nil h

/-- the mark of the block for the rounds' deferred calls -/
abbrev mark (D : Nat) : List Deferred := [{ target := .collected D, args := #[] }]
abbrev dfd (D : Nat) : ME := .obj D (.deferred (some []))
/-- the record of a loop whose rounds take one value -/
def lrec (f : FuncId) (tmps : Array Value) (p : Tmp) (assign body : Code) (D : Nat) : Loop := { state := .ready, pending := none, fn := f, tmps := tmps, params := #[p], assign := assign, body := body, defers := D }
def lbusy (r : Loop) : Loop := { r with state := .busy }

theorem RdC.mk {P : Program} {n nt R D : Nat} {f : FuncId} {tmps : Array Value} {p : Tmp} {assign body : Code} {sv : Value} {L0 : List (Tmp × Value)} {M1 : List ME} {post : AV → List ME → Prop} (hsz : tmps.size = nt)
    (hL0 : ∀ t v, look (L0.map fun q => (q.1, true, AV.lit q.2)) t = some (true, .lit v) → tmps.getD t undef = v) (hp : Nat.blt p nt = true)
    (h : ∀ w Fb, Qok (fun _ _ _ => False) → Qok (roundPost P R (RetR w (bl (.obj R (.loop (lrec f tmps p assign body D)) :: M1)) Fb post)) → W ⟨P, nt, w, bl (.obj R (.loop (lrec f tmps p assign body D)) :: M1), Fb⟩ ((p, true, .lit sv) :: L0.map fun q => (q.1, true, AV.lit q.2)) (.obj R (.loop (lrec f tmps p assign body D)) :: M1)
      (Jn (Fence.wide.inRound R) n P [] assign (Exit.then (fun a1 w1 => ∃ w2, (Instr.beginRound R).run P w1 = .ok () w2 ∧ Jn (Fence.wide.inRound R) n P [] body (roundPost P R (RetR w (bl (.obj R (.loop (lrec f tmps p assign body D)) :: M1)) Fb post)) a1 w2) (fun _ _ _ => False)))) :
    RdC Fence.wide n P R [sv] (.obj R (.loop (lrec f tmps p assign body D)) :: M1) post := fun w Fb hFb hm => by
  obtain ⟨hh, _⟩ := hm.holds _ List.mem_cons_self
  have hy := run_yield (P := P) (args := #[sv]) hh rfl
  refine ⟨_, _, _, _, hy, roundIn_of_wpIn (F := Fence.wide) trivial ?_⟩
  have hp' : p < tmps.size := by rw [hsz]; simpa using hp
  have hs : St ⟨P, nt, w, bl (.obj R (.loop (lrec f tmps p assign body D)) :: M1), Fb⟩ ((p, true, .lit sv) :: L0.map fun q => (q.1, true, AV.lit q.2)) (.obj R (.loop (lrec f tmps p assign body D)) :: M1) { tmps := tmps.setIfInBounds p sv, defers := [] } w := by
    refine ⟨rfl, by simp [hsz], ?_, hm, Fr.refl _ _, hFb⟩
    intro t g av hl
    rw [look_cons] at hl
    by_cases e : p = t
    · rw [if_pos e] at hl
      cases hl
      subst e
      refine ⟨fun _ => ?_, fun h => by cases h⟩
      have : (tmps.setIfInBounds p sv).getD p undef = sv := by rw [Array.getD_eq_getD_getElem?]; simp [hp']
      rw [this]; exact Rep.lit _
    · rw [if_neg e] at hl
      have key : ∀ (L0 : List (Tmp × Value)), look (L0.map fun q => (q.1, true, AV.lit q.2)) t = some (g, av) → g = true ∧ ∃ v, av = .lit v := by
        intro L0
        induction L0 with
        | nil => intro h; cases h
        | cons q L0 ih =>
          intro h
          rw [List.map_cons, look_cons] at h
          by_cases e : q.1 = t
          · rw [if_pos e] at h; cases h; exact ⟨rfl, _, rfl⟩
          · rw [if_neg e] at h; exact ih h
      obtain ⟨rfl, v, rfl⟩ := key L0 hl
      have hv := hL0 t v hl
      refine ⟨fun _ => ?_, fun h => by cases h⟩
      have : (tmps.setIfInBounds p sv).getD t undef = v := by
        rw [← hv, Array.getD_eq_getD_getElem?, Array.getD_eq_getD_getElem?, Array.getElem?_setIfInBounds_ne e]
      rw [this]; exact Rep.lit _
  have hj := h w Fb (fun _ _ h => h) Qok.round _ _ hs
  unfold Jn at hj
  rw [wd_nil] at hj
  have et : (((#[p] : Array Tmp).zip #[sv]).foldl (fun tmps (x : Tmp × Value) => tmps.setIfInBounds x.1 x.2) tmps) = tmps.setIfInBounds p sv := by simp
  show assign.wpIn _ n P _ { tmps := (((#[p] : Array Tmp).zip #[sv]).foldl (fun tmps (x : Tmp × Value) => tmps.setIfInBounds x.1 x.2) tmps), defers := [] } w
  rw [et]
  refine wpIn_mono hj ?_
  intro e a w' h
  have h := up_nil h
  cases e with
  | normal =>
    obtain ⟨w2, h1, h2⟩ := h
    refine ⟨w2, h1, ?_⟩
    rw [wd_nil] at h2
    exact wpIn_mono h2 fun e a w h => up_nil h
  | _ => exact h

namespace J
variable {x : Cx} {L : List (Tmp × Bool × AV)} {M M1 : List ME} {Q : Exit → Act → World → Prop} {F : Fence} {n : Nat} {ds : List Deferred}
/-- a round begins -/
theorem begin_ {R : Nat} {rec : Loop} {c : Code} (hr : rec.state = .ready) (h : W x L (.obj R (.loop (lbusy rec)) :: M1) (Jn F n x.P ds c Q)) :
    W x L (.obj R (.loop rec) :: M1) (fun a1 w1 => ∃ w2, (Instr.beginRound R).run x.P w1 = .ok () w2 ∧ Jn F n x.P ds c Q a1 w2) := fun a w hs => by
  obtain ⟨hh, _⟩ := hs.mem.holds _ List.mem_cons_self
  refine ⟨_, run_beginRound hh hr, h a _ ?_⟩
  exact hs.write (i := 0) (m' := .obj R (.loop (lbusy rec))) rfl rfl rfl (fun w' _ hnew _ => ⟨hnew, by intro c T fr h; cases h⟩)
/-- a round ends, and the loop goes on -/
theorem endr {R : Nat} {f : FuncId} {tmps : Array Value} {p : Tmp} {assign body : Code} {Dn : Nat} {M' D : List ME} {post : AV → List ME → Prop} (hM0 : List.Perm M (.obj R (.loop (lbusy (lrec f tmps p assign body Dn))) :: (M' ++ D))) (hp : post (.bool true) (.obj R (.loop (lrec f tmps p assign body Dn)) :: M')) :
    W x L M (roundPost x.P R (RetR x.w0 x.N0 x.F post) .normal) := fun a w hs0 => by
  have hs := hs0.less (M' := .obj R (.loop (lbusy (lrec f tmps p assign body Dn))) :: (M' ++ D)) (D := []) (by rw [List.append_nil]; exact hM0)
  obtain ⟨hh, _⟩ := hs.mem.holds _ List.mem_cons_self
  refine ⟨_, _, run_endRound none hh, ?_⟩
  have hs' := hs.write (i := 0) (m' := .obj R (.loop (lrec f tmps p assign body Dn))) (o := .loop (lrec f tmps p assign body Dn)) rfl rfl rfl (fun w' _ hnew _ => ⟨hnew, by intro c T fr h; cases h⟩)
  obtain ⟨hm, hk, hsub⟩ := hs'.mem.sub (M' := .obj R (.loop (lrec f tmps p assign body Dn)) :: M') (D := D) (List.Perm.refl _)
  exact ⟨_, _, _, rfl, hp, hm, Rep.lit _, hs'.fr.sub hsub⟩
/-- A RANGE OVER A FUNCTION that no round leaves, and what stands behind it -/
theorem sr {g : Operand} {p : Tmp} {assign body rest : Code} {id : Nat} {gf : FuncId} {lb : List Value} {Min Mr : List ME} {post : List ME → Prop}
    (hg : Ov true L g (.lit (.func (.func gf) #[] lb.toArray))) (hok : CallOk x.P gf) (hM : List.Perm M (Min ++ Mr))
    (hseq : ∀ (R D : Nat) (f : FuncId) (tmps : Array Value), tmps.size = x.n → (∀ t v, look L t = some (true, .lit v) → tmps.getD t undef = v) →
      FnCI Fence.wide (n - 1) x.P gf (.lit (.func (.yield R) #[] #[]) :: lb.map .lit) (.obj R (.loop (lrec f tmps p assign body D)) :: dfd D :: Min) (fun r M' => ∃ M2, post M2 ∧ M' = .obj R (.loop (lrec f tmps p assign body D)) :: dfd D :: M2))
    (next : ∀ D M2, post M2 → W x L (dfd D :: (M2 ++ Mr)) (Jn Fence.wide n x.P (mark D) rest (fun e b w => Q e (wd (mark D) b) w))) :
    W x L M (Jn Fence.wide n x.P [] (.block id (.rangeFunc g #[p] assign body)) (Exit.then (Jn Fence.wide n x.P [] rest Q) Q)) := by
  intro a w hs
  unfold Jn
  rw [wd_nil]
  refine wpIn_block (wpIn_rangeFunc ?_)
  intro f _
  obtain ⟨fn, hfn, hnm, hbd⟩ := hok
  have hs1 := hs.alloc (.deferred (some [])) (dfd w.heap.size) rfl (fun N hN => ⟨alloc_new _ _, by intro c T fr h; cases h⟩)
  have hsz : (w.alloc (.deferred (some []))).heap.size = w.heap.size + 1 := World.size_alloc _ _
  have hs2 := hs1.alloc (.loop (lrec f a.tmps p assign body w.heap.size)) (.obj (w.heap.size + 1) (.loop (lrec f a.tmps p assign body w.heap.size))) (by rw [hsz]; rfl)
    (fun N hN => ⟨by rw [← hsz]; exact alloc_new _ _, by intro c T fr h; cases h⟩)
  have hv := hg.lit rfl hs
  refine ⟨w.heap.size + 1, mark w.heap.size, ((w.alloc (.deferred (some []))).alloc (.loop (lrec f a.tmps p assign body w.heap.size))), { target := .fn (.func gf) lb.toArray, args := #[.func (.yield (w.heap.size + 1)) #[] #[]] }, ((w.alloc (.deferred (some []))).alloc (.loop (lrec f a.tmps p assign body w.heap.size))), gf, (Value.func (.yield (w.heap.size + 1)) #[] #[] :: lb).toArray, ((w.alloc (.deferred (some []))).alloc (.loop (lrec f a.tmps p assign body w.heap.size))),
    run_enterLoop_outer _ _ _ _ _, ?_, fun _ _ => trivial, ?_, (fun h => by cases h), ?_⟩
  · simp only [resolve, hv]
    simp [go_sem]
  · simp only [invoke, callFunc, Sem.run_bind, run_program, Result.andThen_ok, hfn, hnm, hbd]
    simp [hfn, hnm, hbd]
  · have hM2 : List.Perm (.obj (w.heap.size + 1) (.loop (lrec f a.tmps p assign body w.heap.size)) :: dfd w.heap.size :: M) ((.obj (w.heap.size + 1) (.loop (lrec f a.tmps p assign body w.heap.size)) :: dfd w.heap.size :: Min) ++ Mr) :=
      List.Perm.cons _ (List.Perm.cons _ hM)
    obtain ⟨hF', hm0, hk0⟩ := hs2.ahead hM2
    have hc := hseq (w.heap.size + 1) w.heap.size f a.tmps hs.size (fun t v hl => Rep.lit_iff.1 ((hs.slots t true _ hl).1 rfl))
    refine (hc _ (bl Mr ++ x.F) (Value.func (.yield (w.heap.size + 1)) #[] #[] :: lb) hF' hm0 (by have := RepT.lits (w := (w.alloc (.deferred (some []))).alloc (.loop (lrec f a.tmps p assign body w.heap.size))) (N := bl (.obj (w.heap.size + 1) (.loop (lrec f a.tmps p assign body w.heap.size)) :: dfd w.heap.size :: Min) ++ (bl Mr ++ x.F)) (Value.func (.yield (w.heap.size + 1)) #[] #[] :: lb); rwa [List.map_cons] at this)).mono ?_
    rintro e w' ⟨v, r, M', rfl, ⟨M2, hp, rfl⟩, hm', hrep, hf⟩
    have hs3 := hs2.back hM2 hm' hf
    obtain ⟨hh, _⟩ := hs3.mem.holds _ List.mem_cons_self
    refine ⟨none, _, run_endLoop hh (by simp [lrec]), ?_⟩
    have hs4 := hs3.write (i := 0) (m' := .obj (w.heap.size + 1) (.loop { lrec f a.tmps p assign body w.heap.size with state := .exhausted })) (o := .loop { lrec f a.tmps p assign body w.heap.size with state := .exhausted }) rfl rfl rfl (fun w' _ hnew _ => ⟨hnew, by intro c T fr h; cases h⟩)
    have hs5 := next w.heap.size M2 hp a _ (hs4.less (M' := dfd w.heap.size :: (M2 ++ Mr)) (D := [_]) (List.perm_append_comm (l₁ := [_])))
    unfold Jn at hs5
    have ew : wd (mark w.heap.size) a = { a with defers := mark w.heap.size ++ a.defers } := by simp [wd, hs.defers]
    rw [ew] at hs5
    refine ⟨{ a with defers := mark w.heap.size ++ a.defers }, (wd_nil _).symm, ?_⟩
    show Jn Fence.wide n x.P [] rest Q _ _
    unfold Jn
    rw [wd_nil]
    refine wpIn_mono hs5 ?_
    rintro e a' w' ⟨b, rfl, hq⟩
    exact ⟨_, (wd_nil _).symm, hq⟩
/-- the function that held the loop returns -/
theorem retn {fn : Func} {Dn : Nat} {M' D : List ME} {post : AV → List ME → Prop} {rs : List ResultVar} {avs : List AV} {r : AV} (hres : fn.results = rs.toArray) (hr : ResL x.P L (.obj Dn (.deferred none) :: M1) rs avs) (hr1 : r = resV avs)
    (hM : List.Perm M1 (M' ++ D)) (hp : post r M') : W x L (dfd Dn :: M1) (fun b w => bodyPostM Fence.wide n x.P fn (RetR x.w0 x.N0 x.F post) .ret (wd (mark Dn) b) w) := fun a w hs => by
  obtain ⟨hh, _⟩ := hs.mem.holds _ List.mem_cons_self
  show LeavesInM Fence.wide n x.P fn a.tmps _ (a.defers ++ mark Dn) .returning w
  rw [hs.defers, List.nil_append]
  refine ⟨by simp, .inl ⟨_, _, rfl, run_takeDeferred hh, ?_⟩⟩
  have hs' := hs.write (i := 0) (m' := .obj Dn (.deferred none)) (o := .deferred none) rfl rfl rfl (fun w' _ hnew _ => ⟨hnew, by intro c T fr h; cases h⟩)
  obtain ⟨vs, hvs, hRs⟩ := results_run hs' hr
  have hrun : (results fn a.tmps).run x.P (w.putObj Dn (.deferred none)) = .ok (if h : vs.length = 1 then vs[0] else .tuple vs.toArray) (w.putObj Dn (.deferred none)) := by
    rw [results_eq, hres, List.mapM_toArray]
    simp [World.putObj, hvs]
  obtain ⟨hm, hk, hsub⟩ := hs'.mem.sub (M' := M') (D := .obj Dn (.deferred none) :: D) ((List.Perm.cons _ hM).trans List.perm_middle.symm)
  refine ⟨_, hrun, _, r, M', rfl, hp, hm, Rep.keep hk ?_, hs'.fr.sub hsub⟩
  subst hr1
  exact RepT.res hRs
end J
end Go.Vl
end

section
set_option linter.unusedVariables false
set_option linter.unusedSimpArgs false
set_option maxRecDepth 100000
namespace Go.Proofs.YtiflifblkpjgpaaDoor
open Go.Vl

namespace WSplit0
theorem ty9 : Ty Tryd.prog 9 1 16 (.string ⟨#[]⟩) := Ty.of (by kernel_rfl)
theorem ag3 : IsAgg Tryd.prog 3 false := ⟨_, Tryd.underlying3, rfl⟩
theorem ag9 : IsAgg Tryd.prog 9 false := ⟨_, Tryd.underlying9, rfl⟩
theorem c_splitSeq (s t : List UInt8) : FnC Tryd.prog 19 [.str s, .str t, .int 0] [] (fun r M => ∃ b3 b4 b5 : Nat, r = .lit (.func (.func 26) #[] #[.pointer (some ⟨b4, 0, none⟩), .pointer (some ⟨b3, 0, none⟩), .pointer (some ⟨b5, 0, none⟩)]) ∧ M = [.box b5 3 [.int 0], .box b4 9 [.str t], .box b3 9 [.str s]]) :=  by
  refine FnC.mk Tryd.func19 (by kernel_rfl) rfl Tryd.ntmps19 rfl (fun w0 F => ?_)
  refine W.seq ?_
  refine W.region ?_
  refine W.box (.t rfl) rfl rfl ?_
  intro b3
  refine W.box (.t rfl) rfl rfl ?_
  intro b4
  refine W.box (.t rfl) rfl rfl ?_
  intro b5
  refine W.q (Ev.assign .k) rfl ?_
  refine W.nil ?_
  refine W.then ?_
  refine W.seq ?_
  refine W.region ?_
  refine W.q (Ev.mkfn (caps := [.tmp 4, .tmp 3, .tmp 5]) (vs := [_, _, _]) ⟨(.t rfl), (.t rfl), (.t rfl), trivial⟩) rfl ?_
  refine W.q (Ev.assign (.t rfl)) rfl ?_
  refine W.nil ?_
  refine W.then ?_
  refine W.ret ?_
  refine W.retn (M' := [_, _, _]) (D := []) (rs := [.tmp 6]) (avs := [_]) Tryd.results19 ⟨rfl, trivial⟩ rfl (.refl _) ?_
  exact ⟨_, _, _, rfl, rfl⟩

theorem c_SplitSeq (s t : List UInt8) : FnC Tryd.prog 10 [.str s, .str t] [] (fun r M => ∃ b3 b4 b5 : Nat, r = .lit (.func (.func 26) #[] #[.pointer (some ⟨b4, 0, none⟩), .pointer (some ⟨b3, 0, none⟩), .pointer (some ⟨b5, 0, none⟩)]) ∧ M = [.box b5 3 [.int 0], .box b4 9 [.str t], .box b3 9 [.str s]]) :=  by
  refine FnC.mk Tryd.func10 (by kernel_rfl) rfl Tryd.ntmps10 rfl (fun w0 F => ?_)
  refine W.seq ?_
  refine W.region ?_
  refine W.q (Ev.assign .k) rfl ?_
  refine W.nil ?_
  refine W.then ?_
  refine W.seq ?_
  refine W.region ?_
  refine W.q (Ev.move (.t rfl)) rfl ?_
  refine W.q (Ev.move (.t rfl)) rfl ?_
  refine W.call (c_splitSeq s t) ⟨(.t rfl), (.t rfl), .k, trivial⟩ (.refl _) rfl ?_
  rintro _ _ ⟨b3, b4, b5, rfl, rfl⟩
  refine W.q (Ev.assign (.t rfl)) rfl ?_
  refine W.nil ?_
  refine W.then ?_
  refine W.ret ?_
  refine W.retn (M' := [_, _, _]) (D := []) (rs := [.tmp 4]) (avs := [_]) Tryd.results10 ⟨rfl, trivial⟩ rfl (.refl _) ?_
  exact ⟨_, _, _, rfl, rfl⟩

theorem c_IndexAt (q t : List UInt8) (h : 32 ∉ q) : FnP Tryd.prog 28 [.str (q ++ 32 :: t), .str [32]] (.int (q.length : Int)) := by
  have := WCutB.c_Index1 (q ++ 32 :: t) 32
  rw [Pk.indexByte_cutB, Pk.cutB_at 32 q t h] at this
  exact this
theorem c_IndexNo (q : List UInt8) (h : 32 ∉ q) : FnP Tryd.prog 28 [.str q, .str [32]] (.int (-1)) := by
  have := WCutB.c_Index1 q 32
  rw [Pk.indexByte_cutB, Pk.cutB_no 32 q h] at this
  exact this

theorem c_iter (qs : List (List UInt8)) (hq : ∀ q ∈ qs, 32 ∉ q) (hne : 0 < qs.length) (hlen : (Pk.jn qs).length ≤ 1048576) (R b3 b4 b5 n : Nat) (Inv : Nat → List ME → Prop) (M0 : List ME) (h0 : Inv 0 M0)
    (hr : ∀ k M, k < qs.length → Inv k M → RdC Fence.wide n Tryd.prog R [.string ⟨(qs.getD k []).toArray⟩] M (fun r M' => r = .bool true ∧ Inv (k + 1) M')) :
    FnCI Fence.wide (n + 1) Tryd.prog 26 [.lit (.func (.yield R) #[] #[]), .lit (.pointer (some ⟨b4, 0, none⟩)), .lit (.pointer (some ⟨b3, 0, none⟩)), .lit (.pointer (some ⟨b5, 0, none⟩))] (.box b4 9 [.str [32]] :: .box b3 9 [.str (Pk.jn qs)] :: .box b5 3 [.int 0] :: M0)
      (fun r M' => ∃ M2, Inv qs.length M2 ∧ M' = M2) := by
  refine FnCI.mk Fok.wide rfl Tryd.func26 rfl Tryd.ntmps26 rfl (fun w0 Fb hQ => ?_)
  have hF := Fok.wide
  refine J.s ?_
  refine J.s ?_
  refine J.r hF (by exact hQ) (by rfl) ?_
  first | refine W.q (Ev.lde1 (.t rfl) ag9) rfl ?_ | refine W.q (Ev.ldb1 0 (.t rfl) rfl ag9 rfl) rfl ?_ | refine W.q (Ev.ldb1 1 (.t rfl) rfl ag9 rfl) rfl ?_ | refine W.q (Ev.ldb1 2 (.t rfl) rfl ag9 rfl) rfl ?_ | refine W.q (Ev.ldb1 3 (.t rfl) rfl ag9 rfl) rfl ?_
  refine W.q (Ev.lens (.t rfl) Tryd.underlying9) rfl ?_
  refine W.q (Ev.eqi (.t rfl) .k) rfl ?_
  refine W.nil ?_
  refine W.then ?_
  refine W.is (t := 11) (g := true) (av' := .lit (.bool false)) rfl (congrArg (fun b => AV.lit (.bool b)) (by rfl)) ?_
  refine J.condF (.t rfl) ?_
  refine J.k ?_
  refine W.then ?_
  refine J.s ?_
  refine J.b ?_
  refine J.loop (D := []) (ι := Nat × List ME) (fun _ => [(0, true, .lit (.func (.yield R) #[] #[])), (1, true, .lit (.pointer (some ⟨b4, 0, none⟩))), (2, true, .lit (.pointer (some ⟨b3, 0, none⟩))), (3, true, .lit (.pointer (some ⟨b5, 0, none⟩)))]) (fun z => .box b4 9 [.str [32]] :: .box b3 9 [.str (Pk.jn (qs.drop z.1))] :: .box b5 3 [.int 0] :: z.2) (fun z => z.1 < qs.length ∧ Inv z.1 z.2) (fun z => qs.length - z.1) (0, M0) ⟨rfl, rfl, rfl, rfl, trivial⟩ (by rw [List.append_nil]; exact .refl _) ⟨hne, h0⟩ ?_
  rintro ⟨k, M⟩ ⟨hk, hinv⟩
  dsimp only at hk hinv ⊢
  have hjl := Pk.jn_le qs k
  have hqm := hq _ (getD_memG [] qs k hk)
  rcases (show k + 1 < qs.length ∨ k + 1 = qs.length from by omega) with hlt | hend
  · have hsk := Pk.jn_drop qs k hlt
    rw [hsk] at hjl ⊢
    have hrk := hr k M hk hinv
    generalize qs.getD k [] = q at hrk hqm hjl hsk ⊢
    have hIx := c_IndexAt q (Pk.jn (qs.drop (k + 1))) hqm
    have hl1 : ([32] : List UInt8).length = 1 := rfl
    rw [List.length_append, List.length_cons] at hjl
    have e1 : List.drop (Int.toNat 0) (List.take ((q.length : Int) + 0).toNat (q ++ 32 :: Pk.jn (qs.drop (k + 1)))) = q := by simp
    have e2 : List.drop ((q.length : Int) + (([32] : List UInt8).length : Int)).toNat (List.take ((q ++ 32 :: Pk.jn (qs.drop (k + 1))).length : Int).toNat (q ++ 32 :: Pk.jn (qs.drop (k + 1)))) = Pk.jn (qs.drop (k + 1)) := by rw [hl1, Int.toNat_natCast, List.take_length, show ((q.length : Int) + ((1 : Nat) : Int)).toNat = q.length + 1 from by omega, ← List.drop_drop, List.drop_left]; rfl
    have hql : (q ++ 32 :: Pk.jn (qs.drop (k + 1))).length = q.length + ((Pk.jn (qs.drop (k + 1))).length + 1) := by rw [List.length_append, List.length_cons]
    refine J.b ?_
    refine J.s ?_
    refine J.r hF (by exact hQ) (by rfl) ?_
    first | refine W.q (Ev.lde1 (.t rfl) ag9) rfl ?_ | refine W.q (Ev.ldb1 0 (.t rfl) rfl ag9 rfl) rfl ?_ | refine W.q (Ev.ldb1 1 (.t rfl) rfl ag9 rfl) rfl ?_ | refine W.q (Ev.ldb1 2 (.t rfl) rfl ag9 rfl) rfl ?_ | refine W.q (Ev.ldb1 3 (.t rfl) rfl ag9 rfl) rfl ?_
    first | refine W.q (Ev.lde1 (.t rfl) ag9) rfl ?_ | refine W.q (Ev.ldb1 0 (.t rfl) rfl ag9 rfl) rfl ?_ | refine W.q (Ev.ldb1 1 (.t rfl) rfl ag9 rfl) rfl ?_ | refine W.q (Ev.ldb1 2 (.t rfl) rfl ag9 rfl) rfl ?_ | refine W.q (Ev.ldb1 3 (.t rfl) rfl ag9 rfl) rfl ?_
    refine W.callp (hIx) ⟨(.t rfl), (.t rfl), trivial⟩ rfl ?_
    refine W.q (Ev.assign (.t rfl)) rfl ?_
    refine W.nil ?_
    refine W.then ?_
    refine J.s ?_
    refine J.s ?_
    refine J.r hF (by exact hQ) (by rfl) ?_
    refine W.q (Ev.move (.t rfl)) rfl ?_
    refine W.q (Ev.lti (.t rfl) .k) rfl ?_
    refine W.nil ?_
    refine W.then ?_
    refine W.is (t := 33) (g := true) (av' := .lit (.bool false)) rfl (congrArg (fun b => AV.lit (.bool b)) (by exact decide_eq_false (by omega))) ?_
    refine J.condF (.t rfl) ?_
    refine J.k ?_
    refine W.then ?_
    refine J.s ?_
    refine J.r hF (by exact hQ) (by rfl) ?_
    first | refine W.q (Ev.lde1 (.t rfl) ag9) rfl ?_ | refine W.q (Ev.ldb1 0 (.t rfl) rfl ag9 rfl) rfl ?_ | refine W.q (Ev.ldb1 1 (.t rfl) rfl ag9 rfl) rfl ?_ | refine W.q (Ev.ldb1 2 (.t rfl) rfl ag9 rfl) rfl ?_ | refine W.q (Ev.ldb1 3 (.t rfl) rfl ag9 rfl) rfl ?_
    refine W.q (Ev.move (.t rfl)) rfl ?_
    first | refine W.q (Ev.lde1 (.t rfl) ag3) rfl ?_ | refine W.q (Ev.ldb1 0 (.t rfl) rfl ag3 rfl) rfl ?_ | refine W.q (Ev.ldb1 1 (.t rfl) rfl ag3 rfl) rfl ?_ | refine W.q (Ev.ldb1 2 (.t rfl) rfl ag3 rfl) rfl ?_ | refine W.q (Ev.ldb1 3 (.t rfl) rfl ag3 rfl) rfl ?_
    first | refine W.q (Ev.add (.t rfl) (.t rfl) (fun _ => by omega)) rfl ?_ | refine W.q (Ev.addw (.t rfl) (.t rfl)) rfl ?_
    refine W.q (Ev.subs (lo := none) (hi := some (.tmp 37)) (.t rfl) Tryd.underlying9 rfl (.t rfl) (fun _ => by omega)) rfl ?_
    refine W.is (t := 38) (g := true) (av' := .str q) rfl (congrArg AV.str e1) ?_
    refine W.q (Ev.assign (.t rfl)) rfl ?_
    refine W.nil ?_
    refine W.then ?_
    refine J.s ?_
    refine J.s ?_
    refine J.r2 hF (by exact hQ) [_, _] _ rfl (by rfl) ?_
    refine W.q (Ev.move (.t rfl)) rfl ?_
    refine W.q (Ev.move (.t rfl)) rfl ?_
    refine W.nil ?_
    refine W.then ?_
    refine J.y hF hrk (.t rfl) (.t rfl) ((List.perm_append_comm (l₁ := [_, _, _]))) rfl ?_
    rintro _ M' ⟨rfl, hinv'⟩
    refine W.perm (List.perm_append_comm (l₂ := [_, _, _])) ?_
    refine J.i hF (by exact hQ) (by rfl) ?_
    refine W.q (Ev.not (.t rfl)) rfl ?_
    refine W.nil ?_
    refine W.then ?_
    refine W.is (t := 42) (g := true) (av' := .lit (.bool false)) rfl (congrArg (fun b => AV.lit (.bool b)) (by rfl)) ?_
    refine J.condF (.t rfl) ?_
    refine J.k ?_
    refine W.then ?_
    refine J.r hF (by exact hQ) (by rfl) ?_
    first | refine W.q (Ev.lde1 (.t rfl) ag9) rfl ?_ | refine W.q (Ev.ldb1 0 (.t rfl) rfl ag9 rfl) rfl ?_ | refine W.q (Ev.ldb1 1 (.t rfl) rfl ag9 rfl) rfl ?_ | refine W.q (Ev.ldb1 2 (.t rfl) rfl ag9 rfl) rfl ?_ | refine W.q (Ev.ldb1 3 (.t rfl) rfl ag9 rfl) rfl ?_
    refine W.q (Ev.move (.t rfl)) rfl ?_
    first | refine W.q (Ev.lde1 (.t rfl) ag9) rfl ?_ | refine W.q (Ev.ldb1 0 (.t rfl) rfl ag9 rfl) rfl ?_ | refine W.q (Ev.ldb1 1 (.t rfl) rfl ag9 rfl) rfl ?_ | refine W.q (Ev.ldb1 2 (.t rfl) rfl ag9 rfl) rfl ?_ | refine W.q (Ev.ldb1 3 (.t rfl) rfl ag9 rfl) rfl ?_
    refine W.q (Ev.lens (.t rfl) Tryd.underlying9) rfl ?_
    first | refine W.q (Ev.add (.t rfl) (.t rfl) (fun _ => by omega)) rfl ?_ | refine W.q (Ev.addw (.t rfl) (.t rfl)) rfl ?_
    refine W.q (Ev.subs (lo := some (.tmp 47)) (hi := none) (.t rfl) Tryd.underlying9 (.t rfl) rfl (fun _ => by omega)) rfl ?_
    refine W.is (t := 48) (g := true) (av' := .str (Pk.jn (qs.drop (k + 1)))) rfl (congrArg AV.str e2) ?_
    first | refine W.stb 0 (.t rfl) (.t rfl) rfl ty9 rfl rfl rfl ?_ | refine W.stb 1 (.t rfl) (.t rfl) rfl ty9 rfl rfl rfl ?_ | refine W.stb 2 (.t rfl) (.t rfl) rfl ty9 rfl rfl rfl ?_ | refine W.stb 3 (.t rfl) (.t rfl) rfl ty9 rfl rfl rfl ?_
    refine W.nil ?_
    refine W.blk_normal ?_
    refine W.then ?_
    refine W.reach (D := []) (k + 1, M') ⟨rfl, rfl, rfl, rfl, trivial⟩ (by rw [List.append_nil]; exact .refl _) ⟨⟨hlt, hinv'⟩, by show qs.length - (k + 1) < qs.length - k; omega⟩
  · have hsk := Pk.jn_last qs k hend
    rw [hsk] at hjl ⊢
    have hrk := hr k M hk hinv
    generalize qs.getD k [] = q at hrk hqm hjl hsk ⊢
    have hIx := c_IndexNo q hqm
    refine J.b ?_
    refine J.s ?_
    refine J.r hF (by exact hQ) (by rfl) ?_
    first | refine W.q (Ev.lde1 (.t rfl) ag9) rfl ?_ | refine W.q (Ev.ldb1 0 (.t rfl) rfl ag9 rfl) rfl ?_ | refine W.q (Ev.ldb1 1 (.t rfl) rfl ag9 rfl) rfl ?_ | refine W.q (Ev.ldb1 2 (.t rfl) rfl ag9 rfl) rfl ?_ | refine W.q (Ev.ldb1 3 (.t rfl) rfl ag9 rfl) rfl ?_
    first | refine W.q (Ev.lde1 (.t rfl) ag9) rfl ?_ | refine W.q (Ev.ldb1 0 (.t rfl) rfl ag9 rfl) rfl ?_ | refine W.q (Ev.ldb1 1 (.t rfl) rfl ag9 rfl) rfl ?_ | refine W.q (Ev.ldb1 2 (.t rfl) rfl ag9 rfl) rfl ?_ | refine W.q (Ev.ldb1 3 (.t rfl) rfl ag9 rfl) rfl ?_
    refine W.callp (hIx) ⟨(.t rfl), (.t rfl), trivial⟩ rfl ?_
    refine W.q (Ev.assign (.t rfl)) rfl ?_
    refine W.nil ?_
    refine W.then ?_
    refine J.s ?_
    refine J.s ?_
    refine J.r hF (by exact hQ) (by rfl) ?_
    refine W.q (Ev.move (.t rfl)) rfl ?_
    refine W.q (Ev.lti (.t rfl) .k) rfl ?_
    refine W.nil ?_
    refine W.then ?_
    refine W.is (t := 33) (g := true) (av' := .lit (.bool true)) rfl (congrArg (fun b => AV.lit (.bool b)) (by rfl)) ?_
    refine J.condT (.t rfl) ?_
    refine J.ex ?_
    refine W.then_exit ?_
    refine W.blk_miss rfl ?_
    refine W.then_exit ?_
    refine W.blk_hit ?_
    refine W.then ?_
    refine J.r2 hF (by exact hQ) [_, _] _ rfl (by rfl) ?_
    refine W.q (Ev.move (.t rfl)) rfl ?_
    first | refine W.q (Ev.lde1 (.t rfl) ag9) rfl ?_ | refine W.q (Ev.ldb1 0 (.t rfl) rfl ag9 rfl) rfl ?_ | refine W.q (Ev.ldb1 1 (.t rfl) rfl ag9 rfl) rfl ?_ | refine W.q (Ev.ldb1 2 (.t rfl) rfl ag9 rfl) rfl ?_ | refine W.q (Ev.ldb1 3 (.t rfl) rfl ag9 rfl) rfl ?_
    refine W.nil ?_
    refine W.then ?_
    refine J.y hF hrk (.t rfl) (.t rfl) ((List.perm_append_comm (l₁ := [_, _, _]))) rfl ?_
    rintro _ M' ⟨rfl, hinv'⟩
    refine W.perm (List.perm_append_comm (l₂ := [_, _, _])) ?_
    refine J.i hF (by exact hQ) (by rfl) ?_
    refine W.nil ?_
    refine W.endn (M' := M') (D := [_, _, _]) (rs := []) (avs := []) Tryd.results26 trivial rfl (List.perm_append_comm (l₁ := [_, _, _])) ?_
    exact ⟨M', hend ▸ hinv', rfl⟩

end WSplit0

end Go.Proofs.YtiflifblkpjgpaaDoor
end

section
set_option linter.unusedVariables false
set_option linter.unusedSimpArgs false
set_option maxRecDepth 100000
namespace Go.Proofs.YtiflifblkpjgpaaDoor
open Go.Vl

namespace WParseB
theorem ty4 : Ty Tryd.prog 4 1 1 (.bool false) := Ty.of (by kernel_rfl)
theorem ty9 : Ty Tryd.prog 9 1 16 (.string ⟨#[]⟩) := Ty.of (by kernel_rfl)
theorem ty23 : Ty Tryd.prog 23 1 24 (.slice none 0 0) := Ty.of (by kernel_rfl)
theorem ty31 : Ty Tryd.prog 31 3 40 (.agg #[.string ⟨#[]⟩, .string ⟨#[]⟩, .bool false]) := Ty.of (by kernel_rfl)
theorem ag4 : IsAgg Tryd.prog 4 false := ⟨_, Tryd.underlying4, rfl⟩
theorem ag9 : IsAgg Tryd.prog 9 false := ⟨_, Tryd.underlying9, rfl⟩
theorem ag23 : IsAgg Tryd.prog 23 false := ⟨_, Tryd.underlying23, rfl⟩
theorem ag31 : IsAgg Tryd.prog 31 true := ⟨_, Tryd.underlying31, rfl⟩
theorem fa31_0 : FieldAt Tryd.prog 31 0 0 1 false := ⟨_, _, Tryd.underlying31, rfl, rfl, ty9.size, ag9, by decide⟩
theorem fa31_1 : FieldAt Tryd.prog 31 1 1 1 false := ⟨_, _, Tryd.underlying31, rfl, rfl, ty9.size, ag9, by decide⟩
theorem st31 : StructAt Tryd.prog 31 [(0, 1), (1, 1), (2, 1)] := ⟨_, Tryd.underlying31, rfl, ty9.size, rfl, ty9.size, rfl, ty4.size, trivial⟩
theorem ni23 : NotInt Tryd.prog 23 := .inl ⟨_, Tryd.underlying23⟩
theorem c_parse (ps : List Pk) (qs : List (List UInt8)) (hj : Pk.jn qs = Pk.tx ps) (htl : (Pk.tx ps).length ≤ 120) (hfold : qs.foldl Pk.step ([], true) = (ps, true)) (hqm : ∀ w ∈ qs, 32 ∉ w ∧ w.length ≤ 9) (hne : 0 < qs.length) (hql : qs.length ≤ 20)
    (hd : ∀ p ∈ ps, Pk.drn p) (hp0 : 0 < ps.length) (hp1 : ps.length ≤ 10) : FnP Tryd.prog 6 [.str (Pk.jn qs)] (.tup [.sl 3 (ps.map kav), .int 0]) := by
  have hjl : (Pk.jn qs).length ≤ 120 := by rw [hj]; exact htl
  refine FnC.mkJ 10 Tryd.func6 (by kernel_rfl) rfl Tryd.ntmps6 rfl (fun w0 Fb hQ => ?_)
  have hF := Fok.wide
  refine J.s ?_
  refine J.r hF (by exact fun a w h => hQ a w h) (by rfl) ?_
  refine W.q (Ev.assign .k) rfl ?_
  refine W.q (Ev.assign .k) rfl ?_
  refine W.nil ?_
  refine W.then ?_
  refine J.s ?_
  refine J.s ?_
  refine J.r hF (by exact fun a w h => hQ a w h) (by rfl) ?_
  refine W.q (Ev.move (.t rfl)) rfl ?_
  refine W.q (Ev.lens (.t rfl) Tryd.underlying9) rfl ?_
  refine W.q (Ev.gti (.t rfl) .k) rfl ?_
  refine W.nil ?_
  refine W.then ?_
  refine W.is (t := 13) (g := true) (av' := .lit (.bool false)) rfl (congrArg (fun b => AV.lit (.bool b)) (by exact decide_eq_false (by omega))) ?_
  refine J.condF (.t rfl) ?_
  refine J.k ?_
  refine W.then ?_
  refine J.s ?_
  refine J.r hF (by exact fun a w h => hQ a w h) (by rfl) ?_
  refine W.alloc ty23 rfl rfl ?_
  intro b4
  refine W.nil ?_
  refine W.then ?_
  refine J.s ?_
  refine J.r hF (by exact fun a w h => hQ a w h) (by rfl) ?_
  refine W.alloc ty4 rfl rfl ?_
  intro b5
  first | refine W.stb 0 (.t rfl) .k rfl ty4 rfl rfl rfl ?_ | refine W.stb 1 (.t rfl) .k rfl ty4 rfl rfl rfl ?_ | refine W.stb 2 (.t rfl) .k rfl ty4 rfl rfl rfl ?_ | refine W.stb 3 (.t rfl) .k rfl ty4 rfl rfl rfl ?_ | refine W.stb 4 (.t rfl) .k rfl ty4 rfl rfl rfl ?_ | refine W.stb 5 (.t rfl) .k rfl ty4 rfl rfl rfl ?_ | refine W.stb 6 (.t rfl) .k rfl ty4 rfl rfl rfl ?_
  refine W.nil ?_
  refine W.then ?_
  refine J.s ?_
  refine J.s ?_
  refine J.r hF (by exact fun a w h => hQ a w h) (by rfl) ?_
  refine W.q (Ev.move (.t rfl)) rfl ?_
  refine W.call (WSplit0.c_SplitSeq (Pk.jn qs) [32]) ⟨(.t rfl), .k, trivial⟩ (.refl _) rfl ?_
  rintro _ _ ⟨s3, s4, s5, rfl, rfl⟩
  refine W.nil ?_
  refine W.then ?_
  refine W.own_nil 31 3 ?_
  refine J.sr (gf := 26) (lb := [.pointer (some ⟨s4, 0, none⟩), .pointer (some ⟨s3, 0, none⟩), .pointer (some ⟨s5, 0, none⟩)]) (Min := [.box b4 23 [.lit (.slice none 0 0)], .arr (.slice none 0 0) 31 3 [], .box b5 4 [.bool true], .box s4 9 [.str [32]], .box s3 9 [.str (Pk.jn qs)], .box s5 3 [.int 0]]) (Mr := []) (post := fun M2 => ∃ v, M2 = [.box b4 23 [.lit v], .arr v 31 3 ((Pk.stt qs qs.length).1.map kav), .box b5 4 [.bool (Pk.stt qs qs.length).2]]) (.t rfl) (CallOk.of Tryd.func26 (by kernel_rfl) (by kernel_rfl)) (by rw [List.append_nil]; exact ((List.perm_middle (l₁ := [_, _, _, _, _])).trans <| List.Perm.cons _ <| List.Perm.cons _ <| (List.perm_middle (l₁ := [_, _, _])).trans <| List.Perm.cons _ <| (List.perm_middle (l₁ := [_])).trans <| List.Perm.cons _ <| (List.perm_middle (l₁ := [_])).trans <| List.Perm.cons _ <| List.Perm.cons _ <| .refl _)) (fun R D f tmps hsz hlk => ?_) (fun D M2 hM2 => ?_)
  · have h4 := hlk 4 _ rfl
    have h5 := hlk 5 _ rfl
    refine FnCI.mono (FnCI.perm (WSplit0.c_iter qs (fun q hq => (hqm q hq).1) hne (by omega) R s3 s4 s5 8 (fun k M => ∃ M2, (∃ v, M2 = [.box b4 23 [.lit v], .arr v 31 3 ((Pk.stt qs k).1.map kav), .box b5 4 [.bool (Pk.stt qs k).2]]) ∧ M = .obj R (.loop (lrec f tmps 16 _ _ D)) :: dfd D :: M2) _ ⟨_, ⟨.slice none 0 0, rfl⟩, rfl⟩ ?_) (List.perm_append_comm (l₁ := [_, _, _, _, _]) (l₂ := [_, _, _]))) (fun r M ⟨M2, ⟨M3, hv, hM2⟩, hM⟩ => ⟨M3, hv, hM.trans hM2⟩)
    rintro k M hk ⟨_, ⟨v, rfl⟩, rfl⟩
    have hst := Pk.stt_succ qs k hk
    have hol := Pk.stt_len qs k
    have hwl := (hqm _ (getD_memG [] qs k hk)).2
    generalize qs.getD k [] = w at *
    obtain ⟨out, d, hod⟩ : ∃ out d, Pk.stt qs k = (out, d) := ⟨_, _, rfl⟩
    rw [hod] at hst hol ⊢
    dsimp only at hol ⊢
    have homl : (out.map kav).length = out.length := List.length_map ..
    refine RdC.mk (L0 := [(4, .pointer (some ⟨b4, 0, none⟩)), (5, .pointer (some ⟨b5, 0, none⟩))]) hsz (fun t v hl => ?_) rfl (fun w1 Fb1 hQ1 hQ => ?_)
    · simp only [List.map, look_cons, look_nil] at hl
      by_cases e4 : 4 = t
      · rw [if_pos e4] at hl; cases hl; rw [← e4]; exact h4
      · rw [if_neg e4] at hl
        by_cases e5 : 5 = t
        · rw [if_pos e5] at hl; cases hl; rw [← e5]; exact h5
        · rw [if_neg e5] at hl; cases hl
    have hF := Fok.rnd R
    refine J.r hF (by exact fun a w h => hQ1 a w h) (by rfl) ?_
    refine W.q (Ev.assign (.t rfl)) rfl ?_
    refine W.nil ?_
    refine W.then ?_
    refine J.begin_ rfl ?_
    refine J.b ?_
    refine J.s ?_
    refine J.s ?_
    refine J.r hF (by exact fun a w h => hQ a w h) (by rfl) ?_
    refine W.q (Ev.move (.t rfl)) rfl ?_
    refine W.q (Ev.eqs (.t rfl) .k) rfl ?_
    refine W.nil ?_
    refine W.then ?_
    refine J.cond (.t rfl) (fun hc_t18 => ?_) (fun hc_t18 => ?_)
    · have hw : w = [62] := beq_iff_eq.1 hc_t18
      refine J.s ?_
      refine J.r hF (by exact fun a w h => hQ a w h) (by rfl) ?_
      first | refine W.stb 0 (.t rfl) .k rfl ty4 rfl rfl rfl ?_ | refine W.stb 1 (.t rfl) .k rfl ty4 rfl rfl rfl ?_ | refine W.stb 2 (.t rfl) .k rfl ty4 rfl rfl rfl ?_ | refine W.stb 3 (.t rfl) .k rfl ty4 rfl rfl rfl ?_ | refine W.stb 4 (.t rfl) .k rfl ty4 rfl rfl rfl ?_ | refine W.stb 5 (.t rfl) .k rfl ty4 rfl rfl rfl ?_ | refine W.stb 6 (.t rfl) .k rfl ty4 rfl rfl rfl ?_
      refine W.nil ?_
      refine W.then ?_
      refine J.ex ?_
      refine W.then_exit ?_
      refine W.blk_hit ?_
      refine J.endr (M' := [dfd D, .box b4 23 [.lit v], .arr v 31 3 (out.map kav), .box b5 4 [.bool false]]) (D := []) (.refl _) ⟨rfl, _, ⟨v, ?_⟩, rfl⟩; rw [hst, hw, Pk.step_gt]
    · have hw : w ≠ [62] := by simpa using hc_t18
      refine J.k ?_
      refine W.then ?_
      refine J.s ?_
      refine J.r hF (by exact fun a w h => hQ a w h) (by rfl) ?_
      first | refine W.q (Ev.lde1 (.t rfl) ag4) rfl ?_ | refine W.q (Ev.ldb1 0 (.t rfl) rfl ag4 rfl) rfl ?_ | refine W.q (Ev.ldb1 1 (.t rfl) rfl ag4 rfl) rfl ?_ | refine W.q (Ev.ldb1 2 (.t rfl) rfl ag4 rfl) rfl ?_ | refine W.q (Ev.ldb1 3 (.t rfl) rfl ag4 rfl) rfl ?_ | refine W.q (Ev.ldb1 4 (.t rfl) rfl ag4 rfl) rfl ?_ | refine W.q (Ev.ldb1 5 (.t rfl) rfl ag4 rfl) rfl ?_ | refine W.q (Ev.ldb1 6 (.t rfl) rfl ag4 rfl) rfl ?_
      refine W.q (Ev.build ty31 st31 rfl (fun hg => ⟨_, _, _, rfl, (.t rfl), rfl, rfl, rfl, rfl⟩)) rfl ?_
      refine W.alloc ty31 rfl rfl ?_
      intro b7
      first | refine W.stb 0 (.t rfl) (.t rfl) rfl ty31 rfl rfl rfl ?_ | refine W.stb 1 (.t rfl) (.t rfl) rfl ty31 rfl rfl rfl ?_ | refine W.stb 2 (.t rfl) (.t rfl) rfl ty31 rfl rfl rfl ?_ | refine W.stb 3 (.t rfl) (.t rfl) rfl ty31 rfl rfl rfl ?_ | refine W.stb 4 (.t rfl) (.t rfl) rfl ty31 rfl rfl rfl ?_ | refine W.stb 5 (.t rfl) (.t rfl) rfl ty31 rfl rfl rfl ?_ | refine W.stb 6 (.t rfl) (.t rfl) rfl ty31 rfl rfl rfl ?_
      refine W.nil ?_
      refine W.then ?_
      refine J.s ?_
      refine J.r hF (by exact fun a w h => hQ a w h) (by rfl) ?_
      refine W.q (Ev.move (.t rfl)) rfl ?_
      refine W.callp (WCutB.c_Cut w 91 (by omega)) ⟨(.t rfl), .k, trivial⟩ rfl ?_
      refine W.q (Ev.move (.t rfl)) rfl ?_
      refine W.q (Ev.extract (.t rfl) rfl) rfl ?_
      refine W.q (Ev.extract (.t rfl) rfl) rfl ?_
      refine W.q (Ev.extract (.t rfl) rfl) rfl ?_
      refine W.q (Ev.assign (.t rfl)) rfl ?_
      refine W.q (Ev.assign (.t rfl)) rfl ?_
      refine W.q (Ev.assign (.t rfl)) rfl ?_
      refine W.nil ?_
      refine W.then ?_
      refine J.s ?_
      refine J.r hF (by exact fun a w h => hQ a w h) (by rfl) ?_
      refine W.q (Ev.move (.t rfl)) rfl ?_
      first | refine W.q (Ev.fae (.t rfl) fa31_0 rfl) rfl ?_ | refine W.q (Ev.fab (.t rfl) fa31_0) rfl ?_ | refine W.q (Ev.faa (.t rfl) fa31_0) rfl ?_
      first | refine W.stb 0 (.t rfl) (.t rfl) rfl ty9 rfl rfl rfl ?_ | refine W.stb 1 (.t rfl) (.t rfl) rfl ty9 rfl rfl rfl ?_ | refine W.stb 2 (.t rfl) (.t rfl) rfl ty9 rfl rfl rfl ?_ | refine W.stb 3 (.t rfl) (.t rfl) rfl ty9 rfl rfl rfl ?_ | refine W.stb 4 (.t rfl) (.t rfl) rfl ty9 rfl rfl rfl ?_ | refine W.stb 5 (.t rfl) (.t rfl) rfl ty9 rfl rfl rfl ?_ | refine W.stb 6 (.t rfl) (.t rfl) rfl ty9 rfl rfl rfl ?_
      refine W.nil ?_
      refine W.then ?_
      refine J.s ?_
      refine J.s ?_
      refine J.r hF (by exact fun a w h => hQ a w h) (by rfl) ?_
      refine W.q (Ev.move (.t rfl)) rfl ?_
      refine W.q (Ev.eqs (.t rfl) .k) rfl ?_
      refine W.nil ?_
      refine W.then ?_
      refine J.cond (.t rfl) (fun hc_t30 => ?_) (fun hc_t30 => ?_)
      · have hn : Pk.nmw w = [] := if_pos (beq_iff_eq.1 hc_t30)
        refine J.r hF (by exact fun a w h => hQ a w h) (by rfl) ?_
        first | refine W.q (Ev.fae (.t rfl) fa31_0 rfl) rfl ?_ | refine W.q (Ev.fab (.t rfl) fa31_0) rfl ?_ | refine W.q (Ev.faa (.t rfl) fa31_0) rfl ?_
        first | refine W.stb 0 (.t rfl) .k rfl ty9 rfl rfl rfl ?_ | refine W.stb 1 (.t rfl) .k rfl ty9 rfl rfl rfl ?_ | refine W.stb 2 (.t rfl) .k rfl ty9 rfl rfl rfl ?_ | refine W.stb 3 (.t rfl) .k rfl ty9 rfl rfl rfl ?_ | refine W.stb 4 (.t rfl) .k rfl ty9 rfl rfl rfl ?_ | refine W.stb 5 (.t rfl) .k rfl ty9 rfl rfl rfl ?_ | refine W.stb 6 (.t rfl) .k rfl ty9 rfl rfl rfl ?_
        refine W.nil ?_
        refine W.then ?_
        refine J.s ?_
        refine J.s ?_
        refine J.r hF (by exact fun a w h => hQ a w h) (by rfl) ?_
        refine W.q (Ev.move (.t rfl)) rfl ?_
        refine W.nil ?_
        refine W.then ?_
        refine J.cond (.t rfl) (fun hc_t32 => ?_) (fun hc_t32 => ?_)
        · have ha : Pk.atw w = Go.Lib.trimSuffix (Pk.cutB 91 w).2.1 [93] := if_pos hc_t32
          refine J.r hF (by exact fun a w h => hQ a w h) (by rfl) ?_
          refine W.q (Ev.move (.t rfl)) rfl ?_
          refine W.callp (WCutB.c_CutSuffix (Pk.cutB 91 w).2.1 [93] (by have := (Pk.cutB_len 91 w).2; omega)) ⟨(.t rfl), .k, trivial⟩ rfl ?_
          refine W.q (Ev.move (.t rfl)) rfl ?_
          refine W.q (Ev.extract (.t rfl) rfl) rfl ?_
          refine W.q (Ev.extract (.t rfl) rfl) rfl ?_
          first | refine W.q (Ev.fae (.t rfl) fa31_1 rfl) rfl ?_ | refine W.q (Ev.fab (.t rfl) fa31_1) rfl ?_ | refine W.q (Ev.faa (.t rfl) fa31_1) rfl ?_
          first | refine W.stb 0 (.t rfl) (.t rfl) rfl ty9 rfl rfl rfl ?_ | refine W.stb 1 (.t rfl) (.t rfl) rfl ty9 rfl rfl rfl ?_ | refine W.stb 2 (.t rfl) (.t rfl) rfl ty9 rfl rfl rfl ?_ | refine W.stb 3 (.t rfl) (.t rfl) rfl ty9 rfl rfl rfl ?_ | refine W.stb 4 (.t rfl) (.t rfl) rfl ty9 rfl rfl rfl ?_ | refine W.stb 5 (.t rfl) (.t rfl) rfl ty9 rfl rfl rfl ?_ | refine W.stb 6 (.t rfl) (.t rfl) rfl ty9 rfl rfl rfl ?_
          refine W.nil ?_
          refine W.then ?_
          refine J.s ?_
          refine J.r hF (by exact fun a w h => hQ a w h) (by rfl) ?_
          first | refine W.q (Ev.lde1 (.t rfl) ag23) rfl ?_ | refine W.q (Ev.ldb1 0 (.t rfl) rfl ag23 rfl) rfl ?_ | refine W.q (Ev.ldb1 1 (.t rfl) rfl ag23 rfl) rfl ?_ | refine W.q (Ev.ldb1 2 (.t rfl) rfl ag23 rfl) rfl ?_ | refine W.q (Ev.ldb1 3 (.t rfl) rfl ag23 rfl) rfl ?_ | refine W.q (Ev.ldb1 4 (.t rfl) rfl ag23 rfl) rfl ?_ | refine W.q (Ev.ldb1 5 (.t rfl) rfl ag23 rfl) rfl ?_ | refine W.q (Ev.ldb1 6 (.t rfl) rfl ag23 rfl) rfl ?_
          first | refine W.q (Ev.lden (.t rfl) ag31 ty31 rfl rfl) rfl ?_ | refine W.q (Ev.ldbn 0 (.t rfl) rfl ag31 ty31 rfl) rfl ?_ | refine W.q (Ev.ldbn 1 (.t rfl) rfl ag31 ty31 rfl) rfl ?_ | refine W.q (Ev.ldbn 2 (.t rfl) rfl ag31 ty31 rfl) rfl ?_ | refine W.q (Ev.ldbn 3 (.t rfl) rfl ag31 ty31 rfl) rfl ?_ | refine W.q (Ev.ldbn 4 (.t rfl) rfl ag31 ty31 rfl) rfl ?_ | refine W.q (Ev.ldbn 5 (.t rfl) rfl ag31 ty31 rfl) rfl ?_ | refine W.q (Ev.ldbn 6 (.t rfl) rfl ag31 ty31 rfl) rfl ?_
          refine W.bs (es := [_]) Tryd.underlying23 ty31 ⟨rfl, (.t rfl), rfl, rfl, trivial⟩ rfl (by decide) rfl rfl ?_
          first | refine W.app 0 (.t rfl) rfl (.sl (.t rfl) (by first | (simp [AV.okc, shV]; done) | (intro e he; rw [List.mem_singleton.1 he]; rfl))) Tryd.underlying23 ni23 ty31 rfl rfl (by first | omega | (simp; omega)) rfl ?_ | refine W.app 1 (.t rfl) rfl (.sl (.t rfl) (by first | (simp [AV.okc, shV]; done) | (intro e he; rw [List.mem_singleton.1 he]; rfl))) Tryd.underlying23 ni23 ty31 rfl rfl (by first | omega | (simp; omega)) rfl ?_ | refine W.app 2 (.t rfl) rfl (.sl (.t rfl) (by first | (simp [AV.okc, shV]; done) | (intro e he; rw [List.mem_singleton.1 he]; rfl))) Tryd.underlying23 ni23 ty31 rfl rfl (by first | omega | (simp; omega)) rfl ?_ | refine W.app 3 (.t rfl) rfl (.sl (.t rfl) (by first | (simp [AV.okc, shV]; done) | (intro e he; rw [List.mem_singleton.1 he]; rfl))) Tryd.underlying23 ni23 ty31 rfl rfl (by first | omega | (simp; omega)) rfl ?_ | refine W.app 4 (.t rfl) rfl (.sl (.t rfl) (by first | (simp [AV.okc, shV]; done) | (intro e he; rw [List.mem_singleton.1 he]; rfl))) Tryd.underlying23 ni23 ty31 rfl rfl (by first | omega | (simp; omega)) rfl ?_ | refine W.app 5 (.t rfl) rfl (.sl (.t rfl) (by first | (simp [AV.okc, shV]; done) | (intro e he; rw [List.mem_singleton.1 he]; rfl))) Tryd.underlying23 ni23 ty31 rfl rfl (by first | omega | (simp; omega)) rfl ?_ | refine W.app 6 (.t rfl) rfl (.sl (.t rfl) (by first | (simp [AV.okc, shV]; done) | (intro e he; rw [List.mem_singleton.1 he]; rfl))) Tryd.underlying23 ni23 ty31 rfl rfl (by first | omega | (simp; omega)) rfl ?_ | refine W.app 0 (.t rfl) rfl (.arr 0 (.t rfl) rfl (by first | (simp [AV.okc, shV]; done) | (intro e he; rw [List.mem_singleton.1 he]; rfl))) Tryd.underlying23 ni23 ty31 rfl rfl (by first | omega | (simp; omega)) rfl ?_ | refine W.app 0 (.t rfl) rfl (.arr 1 (.t rfl) rfl (by first | (simp [AV.okc, shV]; done) | (intro e he; rw [List.mem_singleton.1 he]; rfl))) Tryd.underlying23 ni23 ty31 rfl rfl (by first | omega | (simp; omega)) rfl ?_ | refine W.app 0 (.t rfl) rfl (.arr 2 (.t rfl) rfl (by first | (simp [AV.okc, shV]; done) | (intro e he; rw [List.mem_singleton.1 he]; rfl))) Tryd.underlying23 ni23 ty31 rfl rfl (by first | omega | (simp; omega)) rfl ?_ | refine W.app 0 (.t rfl) rfl (.arr 3 (.t rfl) rfl (by first | (simp [AV.okc, shV]; done) | (intro e he; rw [List.mem_singleton.1 he]; rfl))) Tryd.underlying23 ni23 ty31 rfl rfl (by first | omega | (simp; omega)) rfl ?_ | refine W.app 0 (.t rfl) rfl (.arr 4 (.t rfl) rfl (by first | (simp [AV.okc, shV]; done) | (intro e he; rw [List.mem_singleton.1 he]; rfl))) Tryd.underlying23 ni23 ty31 rfl rfl (by first | omega | (simp; omega)) rfl ?_ | refine W.app 0 (.t rfl) rfl (.arr 5 (.t rfl) rfl (by first | (simp [AV.okc, shV]; done) | (intro e he; rw [List.mem_singleton.1 he]; rfl))) Tryd.underlying23 ni23 ty31 rfl rfl (by first | omega | (simp; omega)) rfl ?_ | refine W.app 0 (.t rfl) rfl (.arr 6 (.t rfl) rfl (by first | (simp [AV.okc, shV]; done) | (intro e he; rw [List.mem_singleton.1 he]; rfl))) Tryd.underlying23 ni23 ty31 rfl rfl (by first | omega | (simp; omega)) rfl ?_ | refine W.app 1 (.t rfl) rfl (.arr 0 (.t rfl) rfl (by first | (simp [AV.okc, shV]; done) | (intro e he; rw [List.mem_singleton.1 he]; rfl))) Tryd.underlying23 ni23 ty31 rfl rfl (by first | omega | (simp; omega)) rfl ?_ | refine W.app 1 (.t rfl) rfl (.arr 1 (.t rfl) rfl (by first | (simp [AV.okc, shV]; done) | (intro e he; rw [List.mem_singleton.1 he]; rfl))) Tryd.underlying23 ni23 ty31 rfl rfl (by first | omega | (simp; omega)) rfl ?_ | refine W.app 1 (.t rfl) rfl (.arr 2 (.t rfl) rfl (by first | (simp [AV.okc, shV]; done) | (intro e he; rw [List.mem_singleton.1 he]; rfl))) Tryd.underlying23 ni23 ty31 rfl rfl (by first | omega | (simp; omega)) rfl ?_ | refine W.app 1 (.t rfl) rfl (.arr 3 (.t rfl) rfl (by first | (simp [AV.okc, shV]; done) | (intro e he; rw [List.mem_singleton.1 he]; rfl))) Tryd.underlying23 ni23 ty31 rfl rfl (by first | omega | (simp; omega)) rfl ?_ | refine W.app 1 (.t rfl) rfl (.arr 4 (.t rfl) rfl (by first | (simp [AV.okc, shV]; done) | (intro e he; rw [List.mem_singleton.1 he]; rfl))) Tryd.underlying23 ni23 ty31 rfl rfl (by first | omega | (simp; omega)) rfl ?_ | refine W.app 1 (.t rfl) rfl (.arr 5 (.t rfl) rfl (by first | (simp [AV.okc, shV]; done) | (intro e he; rw [List.mem_singleton.1 he]; rfl))) Tryd.underlying23 ni23 ty31 rfl rfl (by first | omega | (simp; omega)) rfl ?_ | refine W.app 1 (.t rfl) rfl (.arr 6 (.t rfl) rfl (by first | (simp [AV.okc, shV]; done) | (intro e he; rw [List.mem_singleton.1 he]; rfl))) Tryd.underlying23 ni23 ty31 rfl rfl (by first | omega | (simp; omega)) rfl ?_ | refine W.app 2 (.t rfl) rfl (.arr 0 (.t rfl) rfl (by first | (simp [AV.okc, shV]; done) | (intro e he; rw [List.mem_singleton.1 he]; rfl))) Tryd.underlying23 ni23 ty31 rfl rfl (by first | omega | (simp; omega)) rfl ?_ | refine W.app 2 (.t rfl) rfl (.arr 1 (.t rfl) rfl (by first | (simp [AV.okc, shV]; done) | (intro e he; rw [List.mem_singleton.1 he]; rfl))) Tryd.underlying23 ni23 ty31 rfl rfl (by first | omega | (simp; omega)) rfl ?_ | refine W.app 2 (.t rfl) rfl (.arr 2 (.t rfl) rfl (by first | (simp [AV.okc, shV]; done) | (intro e he; rw [List.mem_singleton.1 he]; rfl))) Tryd.underlying23 ni23 ty31 rfl rfl (by first | omega | (simp; omega)) rfl ?_ | refine W.app 2 (.t rfl) rfl (.arr 3 (.t rfl) rfl (by first | (simp [AV.okc, shV]; done) | (intro e he; rw [List.mem_singleton.1 he]; rfl))) Tryd.underlying23 ni23 ty31 rfl rfl (by first | omega | (simp; omega)) rfl ?_ | refine W.app 2 (.t rfl) rfl (.arr 4 (.t rfl) rfl (by first | (simp [AV.okc, shV]; done) | (intro e he; rw [List.mem_singleton.1 he]; rfl))) Tryd.underlying23 ni23 ty31 rfl rfl (by first | omega | (simp; omega)) rfl ?_ | refine W.app 2 (.t rfl) rfl (.arr 5 (.t rfl) rfl (by first | (simp [AV.okc, shV]; done) | (intro e he; rw [List.mem_singleton.1 he]; rfl))) Tryd.underlying23 ni23 ty31 rfl rfl (by first | omega | (simp; omega)) rfl ?_ | refine W.app 2 (.t rfl) rfl (.arr 6 (.t rfl) rfl (by first | (simp [AV.okc, shV]; done) | (intro e he; rw [List.mem_singleton.1 he]; rfl))) Tryd.underlying23 ni23 ty31 rfl rfl (by first | omega | (simp; omega)) rfl ?_ | refine W.app 3 (.t rfl) rfl (.arr 0 (.t rfl) rfl (by first | (simp [AV.okc, shV]; done) | (intro e he; rw [List.mem_singleton.1 he]; rfl))) Tryd.underlying23 ni23 ty31 rfl rfl (by first | omega | (simp; omega)) rfl ?_ | refine W.app 3 (.t rfl) rfl (.arr 1 (.t rfl) rfl (by first | (simp [AV.okc, shV]; done) | (intro e he; rw [List.mem_singleton.1 he]; rfl))) Tryd.underlying23 ni23 ty31 rfl rfl (by first | omega | (simp; omega)) rfl ?_ | refine W.app 3 (.t rfl) rfl (.arr 2 (.t rfl) rfl (by first | (simp [AV.okc, shV]; done) | (intro e he; rw [List.mem_singleton.1 he]; rfl))) Tryd.underlying23 ni23 ty31 rfl rfl (by first | omega | (simp; omega)) rfl ?_ | refine W.app 3 (.t rfl) rfl (.arr 3 (.t rfl) rfl (by first | (simp [AV.okc, shV]; done) | (intro e he; rw [List.mem_singleton.1 he]; rfl))) Tryd.underlying23 ni23 ty31 rfl rfl (by first | omega | (simp; omega)) rfl ?_ | refine W.app 3 (.t rfl) rfl (.arr 4 (.t rfl) rfl (by first | (simp [AV.okc, shV]; done) | (intro e he; rw [List.mem_singleton.1 he]; rfl))) Tryd.underlying23 ni23 ty31 rfl rfl (by first | omega | (simp; omega)) rfl ?_ | refine W.app 3 (.t rfl) rfl (.arr 5 (.t rfl) rfl (by first | (simp [AV.okc, shV]; done) | (intro e he; rw [List.mem_singleton.1 he]; rfl))) Tryd.underlying23 ni23 ty31 rfl rfl (by first | omega | (simp; omega)) rfl ?_ | refine W.app 3 (.t rfl) rfl (.arr 6 (.t rfl) rfl (by first | (simp [AV.okc, shV]; done) | (intro e he; rw [List.mem_singleton.1 he]; rfl))) Tryd.underlying23 ni23 ty31 rfl rfl (by first | omega | (simp; omega)) rfl ?_ | refine W.app 4 (.t rfl) rfl (.arr 0 (.t rfl) rfl (by first | (simp [AV.okc, shV]; done) | (intro e he; rw [List.mem_singleton.1 he]; rfl))) Tryd.underlying23 ni23 ty31 rfl rfl (by first | omega | (simp; omega)) rfl ?_ | refine W.app 4 (.t rfl) rfl (.arr 1 (.t rfl) rfl (by first | (simp [AV.okc, shV]; done) | (intro e he; rw [List.mem_singleton.1 he]; rfl))) Tryd.underlying23 ni23 ty31 rfl rfl (by first | omega | (simp; omega)) rfl ?_ | refine W.app 4 (.t rfl) rfl (.arr 2 (.t rfl) rfl (by first | (simp [AV.okc, shV]; done) | (intro e he; rw [List.mem_singleton.1 he]; rfl))) Tryd.underlying23 ni23 ty31 rfl rfl (by first | omega | (simp; omega)) rfl ?_ | refine W.app 4 (.t rfl) rfl (.arr 3 (.t rfl) rfl (by first | (simp [AV.okc, shV]; done) | (intro e he; rw [List.mem_singleton.1 he]; rfl))) Tryd.underlying23 ni23 ty31 rfl rfl (by first | omega | (simp; omega)) rfl ?_ | refine W.app 4 (.t rfl) rfl (.arr 4 (.t rfl) rfl (by first | (simp [AV.okc, shV]; done) | (intro e he; rw [List.mem_singleton.1 he]; rfl))) Tryd.underlying23 ni23 ty31 rfl rfl (by first | omega | (simp; omega)) rfl ?_ | refine W.app 4 (.t rfl) rfl (.arr 5 (.t rfl) rfl (by first | (simp [AV.okc, shV]; done) | (intro e he; rw [List.mem_singleton.1 he]; rfl))) Tryd.underlying23 ni23 ty31 rfl rfl (by first | omega | (simp; omega)) rfl ?_ | refine W.app 4 (.t rfl) rfl (.arr 6 (.t rfl) rfl (by first | (simp [AV.okc, shV]; done) | (intro e he; rw [List.mem_singleton.1 he]; rfl))) Tryd.underlying23 ni23 ty31 rfl rfl (by first | omega | (simp; omega)) rfl ?_ | refine W.app 5 (.t rfl) rfl (.arr 0 (.t rfl) rfl (by first | (simp [AV.okc, shV]; done) | (intro e he; rw [List.mem_singleton.1 he]; rfl))) Tryd.underlying23 ni23 ty31 rfl rfl (by first | omega | (simp; omega)) rfl ?_ | refine W.app 5 (.t rfl) rfl (.arr 1 (.t rfl) rfl (by first | (simp [AV.okc, shV]; done) | (intro e he; rw [List.mem_singleton.1 he]; rfl))) Tryd.underlying23 ni23 ty31 rfl rfl (by first | omega | (simp; omega)) rfl ?_ | refine W.app 5 (.t rfl) rfl (.arr 2 (.t rfl) rfl (by first | (simp [AV.okc, shV]; done) | (intro e he; rw [List.mem_singleton.1 he]; rfl))) Tryd.underlying23 ni23 ty31 rfl rfl (by first | omega | (simp; omega)) rfl ?_ | refine W.app 5 (.t rfl) rfl (.arr 3 (.t rfl) rfl (by first | (simp [AV.okc, shV]; done) | (intro e he; rw [List.mem_singleton.1 he]; rfl))) Tryd.underlying23 ni23 ty31 rfl rfl (by first | omega | (simp; omega)) rfl ?_ | refine W.app 5 (.t rfl) rfl (.arr 4 (.t rfl) rfl (by first | (simp [AV.okc, shV]; done) | (intro e he; rw [List.mem_singleton.1 he]; rfl))) Tryd.underlying23 ni23 ty31 rfl rfl (by first | omega | (simp; omega)) rfl ?_ | refine W.app 5 (.t rfl) rfl (.arr 5 (.t rfl) rfl (by first | (simp [AV.okc, shV]; done) | (intro e he; rw [List.mem_singleton.1 he]; rfl))) Tryd.underlying23 ni23 ty31 rfl rfl (by first | omega | (simp; omega)) rfl ?_ | refine W.app 5 (.t rfl) rfl (.arr 6 (.t rfl) rfl (by first | (simp [AV.okc, shV]; done) | (intro e he; rw [List.mem_singleton.1 he]; rfl))) Tryd.underlying23 ni23 ty31 rfl rfl (by first | omega | (simp; omega)) rfl ?_ | refine W.app 6 (.t rfl) rfl (.arr 0 (.t rfl) rfl (by first | (simp [AV.okc, shV]; done) | (intro e he; rw [List.mem_singleton.1 he]; rfl))) Tryd.underlying23 ni23 ty31 rfl rfl (by first | omega | (simp; omega)) rfl ?_ | refine W.app 6 (.t rfl) rfl (.arr 1 (.t rfl) rfl (by first | (simp [AV.okc, shV]; done) | (intro e he; rw [List.mem_singleton.1 he]; rfl))) Tryd.underlying23 ni23 ty31 rfl rfl (by first | omega | (simp; omega)) rfl ?_ | refine W.app 6 (.t rfl) rfl (.arr 2 (.t rfl) rfl (by first | (simp [AV.okc, shV]; done) | (intro e he; rw [List.mem_singleton.1 he]; rfl))) Tryd.underlying23 ni23 ty31 rfl rfl (by first | omega | (simp; omega)) rfl ?_ | refine W.app 6 (.t rfl) rfl (.arr 3 (.t rfl) rfl (by first | (simp [AV.okc, shV]; done) | (intro e he; rw [List.mem_singleton.1 he]; rfl))) Tryd.underlying23 ni23 ty31 rfl rfl (by first | omega | (simp; omega)) rfl ?_ | refine W.app 6 (.t rfl) rfl (.arr 4 (.t rfl) rfl (by first | (simp [AV.okc, shV]; done) | (intro e he; rw [List.mem_singleton.1 he]; rfl))) Tryd.underlying23 ni23 ty31 rfl rfl (by first | omega | (simp; omega)) rfl ?_ | refine W.app 6 (.t rfl) rfl (.arr 5 (.t rfl) rfl (by first | (simp [AV.okc, shV]; done) | (intro e he; rw [List.mem_singleton.1 he]; rfl))) Tryd.underlying23 ni23 ty31 rfl rfl (by first | omega | (simp; omega)) rfl ?_ | refine W.app 6 (.t rfl) rfl (.arr 6 (.t rfl) rfl (by first | (simp [AV.okc, shV]; done) | (intro e he; rw [List.mem_singleton.1 he]; rfl))) Tryd.underlying23 ni23 ty31 rfl rfl (by first | omega | (simp; omega)) rfl ?_
          intro v42
          first | refine W.arr_inv 0 rfl (fun a42 n42 c42 h42 => ?_) | refine W.arr_inv 1 rfl (fun a42 n42 c42 h42 => ?_) | refine W.arr_inv 2 rfl (fun a42 n42 c42 h42 => ?_) | refine W.arr_inv 3 rfl (fun a42 n42 c42 h42 => ?_) | refine W.arr_inv 4 rfl (fun a42 n42 c42 h42 => ?_) | refine W.arr_inv 5 rfl (fun a42 n42 c42 h42 => ?_)
          subst h42
          first | refine W.stb 0 (.t rfl) (.t rfl) rfl ty23 rfl rfl rfl ?_ | refine W.stb 1 (.t rfl) (.t rfl) rfl ty23 rfl rfl rfl ?_ | refine W.stb 2 (.t rfl) (.t rfl) rfl ty23 rfl rfl rfl ?_ | refine W.stb 3 (.t rfl) (.t rfl) rfl ty23 rfl rfl rfl ?_ | refine W.stb 4 (.t rfl) (.t rfl) rfl ty23 rfl rfl rfl ?_ | refine W.stb 5 (.t rfl) (.t rfl) rfl ty23 rfl rfl rfl ?_ | refine W.stb 6 (.t rfl) (.t rfl) rfl ty23 rfl rfl rfl ?_
          refine W.nil ?_
          refine W.then ?_
          refine J.r hF (by exact fun a w h => hQ a w h) (by rfl) ?_
          first | refine W.stb 0 (.t rfl) .k rfl ty4 rfl rfl rfl ?_ | refine W.stb 1 (.t rfl) .k rfl ty4 rfl rfl rfl ?_ | refine W.stb 2 (.t rfl) .k rfl ty4 rfl rfl rfl ?_ | refine W.stb 3 (.t rfl) .k rfl ty4 rfl rfl rfl ?_ | refine W.stb 4 (.t rfl) .k rfl ty4 rfl rfl rfl ?_ | refine W.stb 5 (.t rfl) .k rfl ty4 rfl rfl rfl ?_ | refine W.stb 6 (.t rfl) .k rfl ty4 rfl rfl rfl ?_
          refine W.nil ?_
          refine W.blk_normal ?_
          refine J.endr (M' := [dfd D, _, _, _]) (D := [_]) ((List.perm_middle (l₁ := [_])).trans <| List.Perm.cons _ <| (List.perm_middle (l₁ := [_])).trans <| List.Perm.cons _ <| (List.perm_middle (l₁ := [_])).trans <| List.Perm.cons _ <| (List.perm_middle (l₁ := [_])).trans <| List.Perm.cons _ <| (List.perm_middle (l₁ := [_])).trans <| List.Perm.cons _ <| List.Perm.cons _ <| .refl _) ⟨rfl, _, ⟨.slice a42 n42 c42, ?_⟩, rfl⟩
          rw [hst, Pk.step, if_neg hw]
          dsimp only
          rw [hn, ha, List.map_append]
          rfl
        · have ha : Pk.atw w = [] := if_neg (by rw [hc_t32]; decide)
          refine J.k ?_
          refine W.then ?_
          refine J.s ?_
          refine J.r hF (by exact fun a w h => hQ a w h) (by rfl) ?_
          first | refine W.q (Ev.lde1 (.t rfl) ag23) rfl ?_ | refine W.q (Ev.ldb1 0 (.t rfl) rfl ag23 rfl) rfl ?_ | refine W.q (Ev.ldb1 1 (.t rfl) rfl ag23 rfl) rfl ?_ | refine W.q (Ev.ldb1 2 (.t rfl) rfl ag23 rfl) rfl ?_ | refine W.q (Ev.ldb1 3 (.t rfl) rfl ag23 rfl) rfl ?_ | refine W.q (Ev.ldb1 4 (.t rfl) rfl ag23 rfl) rfl ?_ | refine W.q (Ev.ldb1 5 (.t rfl) rfl ag23 rfl) rfl ?_ | refine W.q (Ev.ldb1 6 (.t rfl) rfl ag23 rfl) rfl ?_
          first | refine W.q (Ev.lden (.t rfl) ag31 ty31 rfl rfl) rfl ?_ | refine W.q (Ev.ldbn 0 (.t rfl) rfl ag31 ty31 rfl) rfl ?_ | refine W.q (Ev.ldbn 1 (.t rfl) rfl ag31 ty31 rfl) rfl ?_ | refine W.q (Ev.ldbn 2 (.t rfl) rfl ag31 ty31 rfl) rfl ?_ | refine W.q (Ev.ldbn 3 (.t rfl) rfl ag31 ty31 rfl) rfl ?_ | refine W.q (Ev.ldbn 4 (.t rfl) rfl ag31 ty31 rfl) rfl ?_ | refine W.q (Ev.ldbn 5 (.t rfl) rfl ag31 ty31 rfl) rfl ?_ | refine W.q (Ev.ldbn 6 (.t rfl) rfl ag31 ty31 rfl) rfl ?_
          refine W.bs (es := [_]) Tryd.underlying23 ty31 ⟨rfl, (.t rfl), rfl, rfl, trivial⟩ rfl (by decide) rfl rfl ?_
          first | refine W.app 0 (.t rfl) rfl (.sl (.t rfl) (by first | (simp [AV.okc, shV]; done) | (intro e he; rw [List.mem_singleton.1 he]; rfl))) Tryd.underlying23 ni23 ty31 rfl rfl (by first | omega | (simp; omega)) rfl ?_ | refine W.app 1 (.t rfl) rfl (.sl (.t rfl) (by first | (simp [AV.okc, shV]; done) | (intro e he; rw [List.mem_singleton.1 he]; rfl))) Tryd.underlying23 ni23 ty31 rfl rfl (by first | omega | (simp; omega)) rfl ?_ | refine W.app 2 (.t rfl) rfl (.sl (.t rfl) (by first | (simp [AV.okc, shV]; done) | (intro e he; rw [List.mem_singleton.1 he]; rfl))) Tryd.underlying23 ni23 ty31 rfl rfl (by first | omega | (simp; omega)) rfl ?_ | refine W.app 3 (.t rfl) rfl (.sl (.t rfl) (by first | (simp [AV.okc, shV]; done) | (intro e he; rw [List.mem_singleton.1 he]; rfl))) Tryd.underlying23 ni23 ty31 rfl rfl (by first | omega | (simp; omega)) rfl ?_ | refine W.app 4 (.t rfl) rfl (.sl (.t rfl) (by first | (simp [AV.okc, shV]; done) | (intro e he; rw [List.mem_singleton.1 he]; rfl))) Tryd.underlying23 ni23 ty31 rfl rfl (by first | omega | (simp; omega)) rfl ?_ | refine W.app 5 (.t rfl) rfl (.sl (.t rfl) (by first | (simp [AV.okc, shV]; done) | (intro e he; rw [List.mem_singleton.1 he]; rfl))) Tryd.underlying23 ni23 ty31 rfl rfl (by first | omega | (simp; omega)) rfl ?_ | refine W.app 6 (.t rfl) rfl (.sl (.t rfl) (by first | (simp [AV.okc, shV]; done) | (intro e he; rw [List.mem_singleton.1 he]; rfl))) Tryd.underlying23 ni23 ty31 rfl rfl (by first | omega | (simp; omega)) rfl ?_ | refine W.app 0 (.t rfl) rfl (.arr 0 (.t rfl) rfl (by first | (simp [AV.okc, shV]; done) | (intro e he; rw [List.mem_singleton.1 he]; rfl))) Tryd.underlying23 ni23 ty31 rfl rfl (by first | omega | (simp; omega)) rfl ?_ | refine W.app 0 (.t rfl) rfl (.arr 1 (.t rfl) rfl (by first | (simp [AV.okc, shV]; done) | (intro e he; rw [List.mem_singleton.1 he]; rfl))) Tryd.underlying23 ni23 ty31 rfl rfl (by first | omega | (simp; omega)) rfl ?_ | refine W.app 0 (.t rfl) rfl (.arr 2 (.t rfl) rfl (by first | (simp [AV.okc, shV]; done) | (intro e he; rw [List.mem_singleton.1 he]; rfl))) Tryd.underlying23 ni23 ty31 rfl rfl (by first | omega | (simp; omega)) rfl ?_ | refine W.app 0 (.t rfl) rfl (.arr 3 (.t rfl) rfl (by first | (simp [AV.okc, shV]; done) | (intro e he; rw [List.mem_singleton.1 he]; rfl))) Tryd.underlying23 ni23 ty31 rfl rfl (by first | omega | (simp; omega)) rfl ?_ | refine W.app 0 (.t rfl) rfl (.arr 4 (.t rfl) rfl (by first | (simp [AV.okc, shV]; done) | (intro e he; rw [List.mem_singleton.1 he]; rfl))) Tryd.underlying23 ni23 ty31 rfl rfl (by first | omega | (simp; omega)) rfl ?_ | refine W.app 0 (.t rfl) rfl (.arr 5 (.t rfl) rfl (by first | (simp [AV.okc, shV]; done) | (intro e he; rw [List.mem_singleton.1 he]; rfl))) Tryd.underlying23 ni23 ty31 rfl rfl (by first | omega | (simp; omega)) rfl ?_ | refine W.app 0 (.t rfl) rfl (.arr 6 (.t rfl) rfl (by first | (simp [AV.okc, shV]; done) | (intro e he; rw [List.mem_singleton.1 he]; rfl))) Tryd.underlying23 ni23 ty31 rfl rfl (by first | omega | (simp; omega)) rfl ?_ | refine W.app 1 (.t rfl) rfl (.arr 0 (.t rfl) rfl (by first | (simp [AV.okc, shV]; done) | (intro e he; rw [List.mem_singleton.1 he]; rfl))) Tryd.underlying23 ni23 ty31 rfl rfl (by first | omega | (simp; omega)) rfl ?_ | refine W.app 1 (.t rfl) rfl (.arr 1 (.t rfl) rfl (by first | (simp [AV.okc, shV]; done) | (intro e he; rw [List.mem_singleton.1 he]; rfl))) Tryd.underlying23 ni23 ty31 rfl rfl (by first | omega | (simp; omega)) rfl ?_ | refine W.app 1 (.t rfl) rfl (.arr 2 (.t rfl) rfl (by first | (simp [AV.okc, shV]; done) | (intro e he; rw [List.mem_singleton.1 he]; rfl))) Tryd.underlying23 ni23 ty31 rfl rfl (by first | omega | (simp; omega)) rfl ?_ | refine W.app 1 (.t rfl) rfl (.arr 3 (.t rfl) rfl (by first | (simp [AV.okc, shV]; done) | (intro e he; rw [List.mem_singleton.1 he]; rfl))) Tryd.underlying23 ni23 ty31 rfl rfl (by first | omega | (simp; omega)) rfl ?_ | refine W.app 1 (.t rfl) rfl (.arr 4 (.t rfl) rfl (by first | (simp [AV.okc, shV]; done) | (intro e he; rw [List.mem_singleton.1 he]; rfl))) Tryd.underlying23 ni23 ty31 rfl rfl (by first | omega | (simp; omega)) rfl ?_ | refine W.app 1 (.t rfl) rfl (.arr 5 (.t rfl) rfl (by first | (simp [AV.okc, shV]; done) | (intro e he; rw [List.mem_singleton.1 he]; rfl))) Tryd.underlying23 ni23 ty31 rfl rfl (by first | omega | (simp; omega)) rfl ?_ | refine W.app 1 (.t rfl) rfl (.arr 6 (.t rfl) rfl (by first | (simp [AV.okc, shV]; done) | (intro e he; rw [List.mem_singleton.1 he]; rfl))) Tryd.underlying23 ni23 ty31 rfl rfl (by first | omega | (simp; omega)) rfl ?_ | refine W.app 2 (.t rfl) rfl (.arr 0 (.t rfl) rfl (by first | (simp [AV.okc, shV]; done) | (intro e he; rw [List.mem_singleton.1 he]; rfl))) Tryd.underlying23 ni23 ty31 rfl rfl (by first | omega | (simp; omega)) rfl ?_ | refine W.app 2 (.t rfl) rfl (.arr 1 (.t rfl) rfl (by first | (simp [AV.okc, shV]; done) | (intro e he; rw [List.mem_singleton.1 he]; rfl))) Tryd.underlying23 ni23 ty31 rfl rfl (by first | omega | (simp; omega)) rfl ?_ | refine W.app 2 (.t rfl) rfl (.arr 2 (.t rfl) rfl (by first | (simp [AV.okc, shV]; done) | (intro e he; rw [List.mem_singleton.1 he]; rfl))) Tryd.underlying23 ni23 ty31 rfl rfl (by first | omega | (simp; omega)) rfl ?_ | refine W.app 2 (.t rfl) rfl (.arr 3 (.t rfl) rfl (by first | (simp [AV.okc, shV]; done) | (intro e he; rw [List.mem_singleton.1 he]; rfl))) Tryd.underlying23 ni23 ty31 rfl rfl (by first | omega | (simp; omega)) rfl ?_ | refine W.app 2 (.t rfl) rfl (.arr 4 (.t rfl) rfl (by first | (simp [AV.okc, shV]; done) | (intro e he; rw [List.mem_singleton.1 he]; rfl))) Tryd.underlying23 ni23 ty31 rfl rfl (by first | omega | (simp; omega)) rfl ?_ | refine W.app 2 (.t rfl) rfl (.arr 5 (.t rfl) rfl (by first | (simp [AV.okc, shV]; done) | (intro e he; rw [List.mem_singleton.1 he]; rfl))) Tryd.underlying23 ni23 ty31 rfl rfl (by first | omega | (simp; omega)) rfl ?_ | refine W.app 2 (.t rfl) rfl (.arr 6 (.t rfl) rfl (by first | (simp [AV.okc, shV]; done) | (intro e he; rw [List.mem_singleton.1 he]; rfl))) Tryd.underlying23 ni23 ty31 rfl rfl (by first | omega | (simp; omega)) rfl ?_ | refine W.app 3 (.t rfl) rfl (.arr 0 (.t rfl) rfl (by first | (simp [AV.okc, shV]; done) | (intro e he; rw [List.mem_singleton.1 he]; rfl))) Tryd.underlying23 ni23 ty31 rfl rfl (by first | omega | (simp; omega)) rfl ?_ | refine W.app 3 (.t rfl) rfl (.arr 1 (.t rfl) rfl (by first | (simp [AV.okc, shV]; done) | (intro e he; rw [List.mem_singleton.1 he]; rfl))) Tryd.underlying23 ni23 ty31 rfl rfl (by first | omega | (simp; omega)) rfl ?_ | refine W.app 3 (.t rfl) rfl (.arr 2 (.t rfl) rfl (by first | (simp [AV.okc, shV]; done) | (intro e he; rw [List.mem_singleton.1 he]; rfl))) Tryd.underlying23 ni23 ty31 rfl rfl (by first | omega | (simp; omega)) rfl ?_ | refine W.app 3 (.t rfl) rfl (.arr 3 (.t rfl) rfl (by first | (simp [AV.okc, shV]; done) | (intro e he; rw [List.mem_singleton.1 he]; rfl))) Tryd.underlying23 ni23 ty31 rfl rfl (by first | omega | (simp; omega)) rfl ?_ | refine W.app 3 (.t rfl) rfl (.arr 4 (.t rfl) rfl (by first | (simp [AV.okc, shV]; done) | (intro e he; rw [List.mem_singleton.1 he]; rfl))) Tryd.underlying23 ni23 ty31 rfl rfl (by first | omega | (simp; omega)) rfl ?_ | refine W.app 3 (.t rfl) rfl (.arr 5 (.t rfl) rfl (by first | (simp [AV.okc, shV]; done) | (intro e he; rw [List.mem_singleton.1 he]; rfl))) Tryd.underlying23 ni23 ty31 rfl rfl (by first | omega | (simp; omega)) rfl ?_ | refine W.app 3 (.t rfl) rfl (.arr 6 (.t rfl) rfl (by first | (simp [AV.okc, shV]; done) | (intro e he; rw [List.mem_singleton.1 he]; rfl))) Tryd.underlying23 ni23 ty31 rfl rfl (by first | omega | (simp; omega)) rfl ?_ | refine W.app 4 (.t rfl) rfl (.arr 0 (.t rfl) rfl (by first | (simp [AV.okc, shV]; done) | (intro e he; rw [List.mem_singleton.1 he]; rfl))) Tryd.underlying23 ni23 ty31 rfl rfl (by first | omega | (simp; omega)) rfl ?_ | refine W.app 4 (.t rfl) rfl (.arr 1 (.t rfl) rfl (by first | (simp [AV.okc, shV]; done) | (intro e he; rw [List.mem_singleton.1 he]; rfl))) Tryd.underlying23 ni23 ty31 rfl rfl (by first | omega | (simp; omega)) rfl ?_ | refine W.app 4 (.t rfl) rfl (.arr 2 (.t rfl) rfl (by first | (simp [AV.okc, shV]; done) | (intro e he; rw [List.mem_singleton.1 he]; rfl))) Tryd.underlying23 ni23 ty31 rfl rfl (by first | omega | (simp; omega)) rfl ?_ | refine W.app 4 (.t rfl) rfl (.arr 3 (.t rfl) rfl (by first | (simp [AV.okc, shV]; done) | (intro e he; rw [List.mem_singleton.1 he]; rfl))) Tryd.underlying23 ni23 ty31 rfl rfl (by first | omega | (simp; omega)) rfl ?_ | refine W.app 4 (.t rfl) rfl (.arr 4 (.t rfl) rfl (by first | (simp [AV.okc, shV]; done) | (intro e he; rw [List.mem_singleton.1 he]; rfl))) Tryd.underlying23 ni23 ty31 rfl rfl (by first | omega | (simp; omega)) rfl ?_ | refine W.app 4 (.t rfl) rfl (.arr 5 (.t rfl) rfl (by first | (simp [AV.okc, shV]; done) | (intro e he; rw [List.mem_singleton.1 he]; rfl))) Tryd.underlying23 ni23 ty31 rfl rfl (by first | omega | (simp; omega)) rfl ?_ | refine W.app 4 (.t rfl) rfl (.arr 6 (.t rfl) rfl (by first | (simp [AV.okc, shV]; done) | (intro e he; rw [List.mem_singleton.1 he]; rfl))) Tryd.underlying23 ni23 ty31 rfl rfl (by first | omega | (simp; omega)) rfl ?_ | refine W.app 5 (.t rfl) rfl (.arr 0 (.t rfl) rfl (by first | (simp [AV.okc, shV]; done) | (intro e he; rw [List.mem_singleton.1 he]; rfl))) Tryd.underlying23 ni23 ty31 rfl rfl (by first | omega | (simp; omega)) rfl ?_ | refine W.app 5 (.t rfl) rfl (.arr 1 (.t rfl) rfl (by first | (simp [AV.okc, shV]; done) | (intro e he; rw [List.mem_singleton.1 he]; rfl))) Tryd.underlying23 ni23 ty31 rfl rfl (by first | omega | (simp; omega)) rfl ?_ | refine W.app 5 (.t rfl) rfl (.arr 2 (.t rfl) rfl (by first | (simp [AV.okc, shV]; done) | (intro e he; rw [List.mem_singleton.1 he]; rfl))) Tryd.underlying23 ni23 ty31 rfl rfl (by first | omega | (simp; omega)) rfl ?_ | refine W.app 5 (.t rfl) rfl (.arr 3 (.t rfl) rfl (by first | (simp [AV.okc, shV]; done) | (intro e he; rw [List.mem_singleton.1 he]; rfl))) Tryd.underlying23 ni23 ty31 rfl rfl (by first | omega | (simp; omega)) rfl ?_ | refine W.app 5 (.t rfl) rfl (.arr 4 (.t rfl) rfl (by first | (simp [AV.okc, shV]; done) | (intro e he; rw [List.mem_singleton.1 he]; rfl))) Tryd.underlying23 ni23 ty31 rfl rfl (by first | omega | (simp; omega)) rfl ?_ | refine W.app 5 (.t rfl) rfl (.arr 5 (.t rfl) rfl (by first | (simp [AV.okc, shV]; done) | (intro e he; rw [List.mem_singleton.1 he]; rfl))) Tryd.underlying23 ni23 ty31 rfl rfl (by first | omega | (simp; omega)) rfl ?_ | refine W.app 5 (.t rfl) rfl (.arr 6 (.t rfl) rfl (by first | (simp [AV.okc, shV]; done) | (intro e he; rw [List.mem_singleton.1 he]; rfl))) Tryd.underlying23 ni23 ty31 rfl rfl (by first | omega | (simp; omega)) rfl ?_ | refine W.app 6 (.t rfl) rfl (.arr 0 (.t rfl) rfl (by first | (simp [AV.okc, shV]; done) | (intro e he; rw [List.mem_singleton.1 he]; rfl))) Tryd.underlying23 ni23 ty31 rfl rfl (by first | omega | (simp; omega)) rfl ?_ | refine W.app 6 (.t rfl) rfl (.arr 1 (.t rfl) rfl (by first | (simp [AV.okc, shV]; done) | (intro e he; rw [List.mem_singleton.1 he]; rfl))) Tryd.underlying23 ni23 ty31 rfl rfl (by first | omega | (simp; omega)) rfl ?_ | refine W.app 6 (.t rfl) rfl (.arr 2 (.t rfl) rfl (by first | (simp [AV.okc, shV]; done) | (intro e he; rw [List.mem_singleton.1 he]; rfl))) Tryd.underlying23 ni23 ty31 rfl rfl (by first | omega | (simp; omega)) rfl ?_ | refine W.app 6 (.t rfl) rfl (.arr 3 (.t rfl) rfl (by first | (simp [AV.okc, shV]; done) | (intro e he; rw [List.mem_singleton.1 he]; rfl))) Tryd.underlying23 ni23 ty31 rfl rfl (by first | omega | (simp; omega)) rfl ?_ | refine W.app 6 (.t rfl) rfl (.arr 4 (.t rfl) rfl (by first | (simp [AV.okc, shV]; done) | (intro e he; rw [List.mem_singleton.1 he]; rfl))) Tryd.underlying23 ni23 ty31 rfl rfl (by first | omega | (simp; omega)) rfl ?_ | refine W.app 6 (.t rfl) rfl (.arr 5 (.t rfl) rfl (by first | (simp [AV.okc, shV]; done) | (intro e he; rw [List.mem_singleton.1 he]; rfl))) Tryd.underlying23 ni23 ty31 rfl rfl (by first | omega | (simp; omega)) rfl ?_ | refine W.app 6 (.t rfl) rfl (.arr 6 (.t rfl) rfl (by first | (simp [AV.okc, shV]; done) | (intro e he; rw [List.mem_singleton.1 he]; rfl))) Tryd.underlying23 ni23 ty31 rfl rfl (by first | omega | (simp; omega)) rfl ?_
          intro v42
          first | refine W.arr_inv 0 rfl (fun a42 n42 c42 h42 => ?_) | refine W.arr_inv 1 rfl (fun a42 n42 c42 h42 => ?_) | refine W.arr_inv 2 rfl (fun a42 n42 c42 h42 => ?_) | refine W.arr_inv 3 rfl (fun a42 n42 c42 h42 => ?_) | refine W.arr_inv 4 rfl (fun a42 n42 c42 h42 => ?_) | refine W.arr_inv 5 rfl (fun a42 n42 c42 h42 => ?_)
          subst h42
          first | refine W.stb 0 (.t rfl) (.t rfl) rfl ty23 rfl rfl rfl ?_ | refine W.stb 1 (.t rfl) (.t rfl) rfl ty23 rfl rfl rfl ?_ | refine W.stb 2 (.t rfl) (.t rfl) rfl ty23 rfl rfl rfl ?_ | refine W.stb 3 (.t rfl) (.t rfl) rfl ty23 rfl rfl rfl ?_ | refine W.stb 4 (.t rfl) (.t rfl) rfl ty23 rfl rfl rfl ?_ | refine W.stb 5 (.t rfl) (.t rfl) rfl ty23 rfl rfl rfl ?_ | refine W.stb 6 (.t rfl) (.t rfl) rfl ty23 rfl rfl rfl ?_
          refine W.nil ?_
          refine W.then ?_
          refine J.r hF (by exact fun a w h => hQ a w h) (by rfl) ?_
          first | refine W.stb 0 (.t rfl) .k rfl ty4 rfl rfl rfl ?_ | refine W.stb 1 (.t rfl) .k rfl ty4 rfl rfl rfl ?_ | refine W.stb 2 (.t rfl) .k rfl ty4 rfl rfl rfl ?_ | refine W.stb 3 (.t rfl) .k rfl ty4 rfl rfl rfl ?_ | refine W.stb 4 (.t rfl) .k rfl ty4 rfl rfl rfl ?_ | refine W.stb 5 (.t rfl) .k rfl ty4 rfl rfl rfl ?_ | refine W.stb 6 (.t rfl) .k rfl ty4 rfl rfl rfl ?_
          refine W.nil ?_
          refine W.blk_normal ?_
          refine J.endr (M' := [dfd D, _, _, _]) (D := [_]) ((List.perm_middle (l₁ := [_])).trans <| List.Perm.cons _ <| (List.perm_middle (l₁ := [_])).trans <| List.Perm.cons _ <| (List.perm_middle (l₁ := [_])).trans <| List.Perm.cons _ <| (List.perm_middle (l₁ := [_])).trans <| List.Perm.cons _ <| (List.perm_middle (l₁ := [_])).trans <| List.Perm.cons _ <| List.Perm.cons _ <| .refl _) ⟨rfl, _, ⟨.slice a42 n42 c42, ?_⟩, rfl⟩
          rw [hst, Pk.step, if_neg hw]
          dsimp only
          rw [hn, ha, List.map_append]
          rfl
      · have hn : Pk.nmw w = (Pk.cutB 91 w).1 := if_neg (by simpa using hc_t30)
        refine J.k ?_
        refine W.then ?_
        refine J.s ?_
        refine J.s ?_
        refine J.r hF (by exact fun a w h => hQ a w h) (by rfl) ?_
        refine W.q (Ev.move (.t rfl)) rfl ?_
        refine W.nil ?_
        refine W.then ?_
        refine J.cond (.t rfl) (fun hc_t32 => ?_) (fun hc_t32 => ?_)
        · have ha : Pk.atw w = Go.Lib.trimSuffix (Pk.cutB 91 w).2.1 [93] := if_pos hc_t32
          refine J.r hF (by exact fun a w h => hQ a w h) (by rfl) ?_
          refine W.q (Ev.move (.t rfl)) rfl ?_
          refine W.callp (WCutB.c_CutSuffix (Pk.cutB 91 w).2.1 [93] (by have := (Pk.cutB_len 91 w).2; omega)) ⟨(.t rfl), .k, trivial⟩ rfl ?_
          refine W.q (Ev.move (.t rfl)) rfl ?_
          refine W.q (Ev.extract (.t rfl) rfl) rfl ?_
          refine W.q (Ev.extract (.t rfl) rfl) rfl ?_
          first | refine W.q (Ev.fae (.t rfl) fa31_1 rfl) rfl ?_ | refine W.q (Ev.fab (.t rfl) fa31_1) rfl ?_ | refine W.q (Ev.faa (.t rfl) fa31_1) rfl ?_
          first | refine W.stb 0 (.t rfl) (.t rfl) rfl ty9 rfl rfl rfl ?_ | refine W.stb 1 (.t rfl) (.t rfl) rfl ty9 rfl rfl rfl ?_ | refine W.stb 2 (.t rfl) (.t rfl) rfl ty9 rfl rfl rfl ?_ | refine W.stb 3 (.t rfl) (.t rfl) rfl ty9 rfl rfl rfl ?_ | refine W.stb 4 (.t rfl) (.t rfl) rfl ty9 rfl rfl rfl ?_ | refine W.stb 5 (.t rfl) (.t rfl) rfl ty9 rfl rfl rfl ?_ | refine W.stb 6 (.t rfl) (.t rfl) rfl ty9 rfl rfl rfl ?_
          refine W.nil ?_
          refine W.then ?_
          refine J.s ?_
          refine J.r hF (by exact fun a w h => hQ a w h) (by rfl) ?_
          first | refine W.q (Ev.lde1 (.t rfl) ag23) rfl ?_ | refine W.q (Ev.ldb1 0 (.t rfl) rfl ag23 rfl) rfl ?_ | refine W.q (Ev.ldb1 1 (.t rfl) rfl ag23 rfl) rfl ?_ | refine W.q (Ev.ldb1 2 (.t rfl) rfl ag23 rfl) rfl ?_ | refine W.q (Ev.ldb1 3 (.t rfl) rfl ag23 rfl) rfl ?_ | refine W.q (Ev.ldb1 4 (.t rfl) rfl ag23 rfl) rfl ?_ | refine W.q (Ev.ldb1 5 (.t rfl) rfl ag23 rfl) rfl ?_ | refine W.q (Ev.ldb1 6 (.t rfl) rfl ag23 rfl) rfl ?_
          first | refine W.q (Ev.lden (.t rfl) ag31 ty31 rfl rfl) rfl ?_ | refine W.q (Ev.ldbn 0 (.t rfl) rfl ag31 ty31 rfl) rfl ?_ | refine W.q (Ev.ldbn 1 (.t rfl) rfl ag31 ty31 rfl) rfl ?_ | refine W.q (Ev.ldbn 2 (.t rfl) rfl ag31 ty31 rfl) rfl ?_ | refine W.q (Ev.ldbn 3 (.t rfl) rfl ag31 ty31 rfl) rfl ?_ | refine W.q (Ev.ldbn 4 (.t rfl) rfl ag31 ty31 rfl) rfl ?_ | refine W.q (Ev.ldbn 5 (.t rfl) rfl ag31 ty31 rfl) rfl ?_ | refine W.q (Ev.ldbn 6 (.t rfl) rfl ag31 ty31 rfl) rfl ?_
          refine W.bs (es := [_]) Tryd.underlying23 ty31 ⟨rfl, (.t rfl), rfl, rfl, trivial⟩ rfl (by decide) rfl rfl ?_
          first | refine W.app 0 (.t rfl) rfl (.sl (.t rfl) (by first | (simp [AV.okc, shV]; done) | (intro e he; rw [List.mem_singleton.1 he]; rfl))) Tryd.underlying23 ni23 ty31 rfl rfl (by first | omega | (simp; omega)) rfl ?_ | refine W.app 1 (.t rfl) rfl (.sl (.t rfl) (by first | (simp [AV.okc, shV]; done) | (intro e he; rw [List.mem_singleton.1 he]; rfl))) Tryd.underlying23 ni23 ty31 rfl rfl (by first | omega | (simp; omega)) rfl ?_ | refine W.app 2 (.t rfl) rfl (.sl (.t rfl) (by first | (simp [AV.okc, shV]; done) | (intro e he; rw [List.mem_singleton.1 he]; rfl))) Tryd.underlying23 ni23 ty31 rfl rfl (by first | omega | (simp; omega)) rfl ?_ | refine W.app 3 (.t rfl) rfl (.sl (.t rfl) (by first | (simp [AV.okc, shV]; done) | (intro e he; rw [List.mem_singleton.1 he]; rfl))) Tryd.underlying23 ni23 ty31 rfl rfl (by first | omega | (simp; omega)) rfl ?_ | refine W.app 4 (.t rfl) rfl (.sl (.t rfl) (by first | (simp [AV.okc, shV]; done) | (intro e he; rw [List.mem_singleton.1 he]; rfl))) Tryd.underlying23 ni23 ty31 rfl rfl (by first | omega | (simp; omega)) rfl ?_ | refine W.app 5 (.t rfl) rfl (.sl (.t rfl) (by first | (simp [AV.okc, shV]; done) | (intro e he; rw [List.mem_singleton.1 he]; rfl))) Tryd.underlying23 ni23 ty31 rfl rfl (by first | omega | (simp; omega)) rfl ?_ | refine W.app 6 (.t rfl) rfl (.sl (.t rfl) (by first | (simp [AV.okc, shV]; done) | (intro e he; rw [List.mem_singleton.1 he]; rfl))) Tryd.underlying23 ni23 ty31 rfl rfl (by first | omega | (simp; omega)) rfl ?_ | refine W.app 0 (.t rfl) rfl (.arr 0 (.t rfl) rfl (by first | (simp [AV.okc, shV]; done) | (intro e he; rw [List.mem_singleton.1 he]; rfl))) Tryd.underlying23 ni23 ty31 rfl rfl (by first | omega | (simp; omega)) rfl ?_ | refine W.app 0 (.t rfl) rfl (.arr 1 (.t rfl) rfl (by first | (simp [AV.okc, shV]; done) | (intro e he; rw [List.mem_singleton.1 he]; rfl))) Tryd.underlying23 ni23 ty31 rfl rfl (by first | omega | (simp; omega)) rfl ?_ | refine W.app 0 (.t rfl) rfl (.arr 2 (.t rfl) rfl (by first | (simp [AV.okc, shV]; done) | (intro e he; rw [List.mem_singleton.1 he]; rfl))) Tryd.underlying23 ni23 ty31 rfl rfl (by first | omega | (simp; omega)) rfl ?_ | refine W.app 0 (.t rfl) rfl (.arr 3 (.t rfl) rfl (by first | (simp [AV.okc, shV]; done) | (intro e he; rw [List.mem_singleton.1 he]; rfl))) Tryd.underlying23 ni23 ty31 rfl rfl (by first | omega | (simp; omega)) rfl ?_ | refine W.app 0 (.t rfl) rfl (.arr 4 (.t rfl) rfl (by first | (simp [AV.okc, shV]; done) | (intro e he; rw [List.mem_singleton.1 he]; rfl))) Tryd.underlying23 ni23 ty31 rfl rfl (by first | omega | (simp; omega)) rfl ?_ | refine W.app 0 (.t rfl) rfl (.arr 5 (.t rfl) rfl (by first | (simp [AV.okc, shV]; done) | (intro e he; rw [List.mem_singleton.1 he]; rfl))) Tryd.underlying23 ni23 ty31 rfl rfl (by first | omega | (simp; omega)) rfl ?_ | refine W.app 0 (.t rfl) rfl (.arr 6 (.t rfl) rfl (by first | (simp [AV.okc, shV]; done) | (intro e he; rw [List.mem_singleton.1 he]; rfl))) Tryd.underlying23 ni23 ty31 rfl rfl (by first | omega | (simp; omega)) rfl ?_ | refine W.app 1 (.t rfl) rfl (.arr 0 (.t rfl) rfl (by first | (simp [AV.okc, shV]; done) | (intro e he; rw [List.mem_singleton.1 he]; rfl))) Tryd.underlying23 ni23 ty31 rfl rfl (by first | omega | (simp; omega)) rfl ?_ | refine W.app 1 (.t rfl) rfl (.arr 1 (.t rfl) rfl (by first | (simp [AV.okc, shV]; done) | (intro e he; rw [List.mem_singleton.1 he]; rfl))) Tryd.underlying23 ni23 ty31 rfl rfl (by first | omega | (simp; omega)) rfl ?_ | refine W.app 1 (.t rfl) rfl (.arr 2 (.t rfl) rfl (by first | (simp [AV.okc, shV]; done) | (intro e he; rw [List.mem_singleton.1 he]; rfl))) Tryd.underlying23 ni23 ty31 rfl rfl (by first | omega | (simp; omega)) rfl ?_ | refine W.app 1 (.t rfl) rfl (.arr 3 (.t rfl) rfl (by first | (simp [AV.okc, shV]; done) | (intro e he; rw [List.mem_singleton.1 he]; rfl))) Tryd.underlying23 ni23 ty31 rfl rfl (by first | omega | (simp; omega)) rfl ?_ | refine W.app 1 (.t rfl) rfl (.arr 4 (.t rfl) rfl (by first | (simp [AV.okc, shV]; done) | (intro e he; rw [List.mem_singleton.1 he]; rfl))) Tryd.underlying23 ni23 ty31 rfl rfl (by first | omega | (simp; omega)) rfl ?_ | refine W.app 1 (.t rfl) rfl (.arr 5 (.t rfl) rfl (by first | (simp [AV.okc, shV]; done) | (intro e he; rw [List.mem_singleton.1 he]; rfl))) Tryd.underlying23 ni23 ty31 rfl rfl (by first | omega | (simp; omega)) rfl ?_ | refine W.app 1 (.t rfl) rfl (.arr 6 (.t rfl) rfl (by first | (simp [AV.okc, shV]; done) | (intro e he; rw [List.mem_singleton.1 he]; rfl))) Tryd.underlying23 ni23 ty31 rfl rfl (by first | omega | (simp; omega)) rfl ?_ | refine W.app 2 (.t rfl) rfl (.arr 0 (.t rfl) rfl (by first | (simp [AV.okc, shV]; done) | (intro e he; rw [List.mem_singleton.1 he]; rfl))) Tryd.underlying23 ni23 ty31 rfl rfl (by first | omega | (simp; omega)) rfl ?_ | refine W.app 2 (.t rfl) rfl (.arr 1 (.t rfl) rfl (by first | (simp [AV.okc, shV]; done) | (intro e he; rw [List.mem_singleton.1 he]; rfl))) Tryd.underlying23 ni23 ty31 rfl rfl (by first | omega | (simp; omega)) rfl ?_ | refine W.app 2 (.t rfl) rfl (.arr 2 (.t rfl) rfl (by first | (simp [AV.okc, shV]; done) | (intro e he; rw [List.mem_singleton.1 he]; rfl))) Tryd.underlying23 ni23 ty31 rfl rfl (by first | omega | (simp; omega)) rfl ?_ | refine W.app 2 (.t rfl) rfl (.arr 3 (.t rfl) rfl (by first | (simp [AV.okc, shV]; done) | (intro e he; rw [List.mem_singleton.1 he]; rfl))) Tryd.underlying23 ni23 ty31 rfl rfl (by first | omega | (simp; omega)) rfl ?_ | refine W.app 2 (.t rfl) rfl (.arr 4 (.t rfl) rfl (by first | (simp [AV.okc, shV]; done) | (intro e he; rw [List.mem_singleton.1 he]; rfl))) Tryd.underlying23 ni23 ty31 rfl rfl (by first | omega | (simp; omega)) rfl ?_ | refine W.app 2 (.t rfl) rfl (.arr 5 (.t rfl) rfl (by first | (simp [AV.okc, shV]; done) | (intro e he; rw [List.mem_singleton.1 he]; rfl))) Tryd.underlying23 ni23 ty31 rfl rfl (by first | omega | (simp; omega)) rfl ?_ | refine W.app 2 (.t rfl) rfl (.arr 6 (.t rfl) rfl (by first | (simp [AV.okc, shV]; done) | (intro e he; rw [List.mem_singleton.1 he]; rfl))) Tryd.underlying23 ni23 ty31 rfl rfl (by first | omega | (simp; omega)) rfl ?_ | refine W.app 3 (.t rfl) rfl (.arr 0 (.t rfl) rfl (by first | (simp [AV.okc, shV]; done) | (intro e he; rw [List.mem_singleton.1 he]; rfl))) Tryd.underlying23 ni23 ty31 rfl rfl (by first | omega | (simp; omega)) rfl ?_ | refine W.app 3 (.t rfl) rfl (.arr 1 (.t rfl) rfl (by first | (simp [AV.okc, shV]; done) | (intro e he; rw [List.mem_singleton.1 he]; rfl))) Tryd.underlying23 ni23 ty31 rfl rfl (by first | omega | (simp; omega)) rfl ?_ | refine W.app 3 (.t rfl) rfl (.arr 2 (.t rfl) rfl (by first | (simp [AV.okc, shV]; done) | (intro e he; rw [List.mem_singleton.1 he]; rfl))) Tryd.underlying23 ni23 ty31 rfl rfl (by first | omega | (simp; omega)) rfl ?_ | refine W.app 3 (.t rfl) rfl (.arr 3 (.t rfl) rfl (by first | (simp [AV.okc, shV]; done) | (intro e he; rw [List.mem_singleton.1 he]; rfl))) Tryd.underlying23 ni23 ty31 rfl rfl (by first | omega | (simp; omega)) rfl ?_ | refine W.app 3 (.t rfl) rfl (.arr 4 (.t rfl) rfl (by first | (simp [AV.okc, shV]; done) | (intro e he; rw [List.mem_singleton.1 he]; rfl))) Tryd.underlying23 ni23 ty31 rfl rfl (by first | omega | (simp; omega)) rfl ?_ | refine W.app 3 (.t rfl) rfl (.arr 5 (.t rfl) rfl (by first | (simp [AV.okc, shV]; done) | (intro e he; rw [List.mem_singleton.1 he]; rfl))) Tryd.underlying23 ni23 ty31 rfl rfl (by first | omega | (simp; omega)) rfl ?_ | refine W.app 3 (.t rfl) rfl (.arr 6 (.t rfl) rfl (by first | (simp [AV.okc, shV]; done) | (intro e he; rw [List.mem_singleton.1 he]; rfl))) Tryd.underlying23 ni23 ty31 rfl rfl (by first | omega | (simp; omega)) rfl ?_ | refine W.app 4 (.t rfl) rfl (.arr 0 (.t rfl) rfl (by first | (simp [AV.okc, shV]; done) | (intro e he; rw [List.mem_singleton.1 he]; rfl))) Tryd.underlying23 ni23 ty31 rfl rfl (by first | omega | (simp; omega)) rfl ?_ | refine W.app 4 (.t rfl) rfl (.arr 1 (.t rfl) rfl (by first | (simp [AV.okc, shV]; done) | (intro e he; rw [List.mem_singleton.1 he]; rfl))) Tryd.underlying23 ni23 ty31 rfl rfl (by first | omega | (simp; omega)) rfl ?_ | refine W.app 4 (.t rfl) rfl (.arr 2 (.t rfl) rfl (by first | (simp [AV.okc, shV]; done) | (intro e he; rw [List.mem_singleton.1 he]; rfl))) Tryd.underlying23 ni23 ty31 rfl rfl (by first | omega | (simp; omega)) rfl ?_ | refine W.app 4 (.t rfl) rfl (.arr 3 (.t rfl) rfl (by first | (simp [AV.okc, shV]; done) | (intro e he; rw [List.mem_singleton.1 he]; rfl))) Tryd.underlying23 ni23 ty31 rfl rfl (by first | omega | (simp; omega)) rfl ?_ | refine W.app 4 (.t rfl) rfl (.arr 4 (.t rfl) rfl (by first | (simp [AV.okc, shV]; done) | (intro e he; rw [List.mem_singleton.1 he]; rfl))) Tryd.underlying23 ni23 ty31 rfl rfl (by first | omega | (simp; omega)) rfl ?_ | refine W.app 4 (.t rfl) rfl (.arr 5 (.t rfl) rfl (by first | (simp [AV.okc, shV]; done) | (intro e he; rw [List.mem_singleton.1 he]; rfl))) Tryd.underlying23 ni23 ty31 rfl rfl (by first | omega | (simp; omega)) rfl ?_ | refine W.app 4 (.t rfl) rfl (.arr 6 (.t rfl) rfl (by first | (simp [AV.okc, shV]; done) | (intro e he; rw [List.mem_singleton.1 he]; rfl))) Tryd.underlying23 ni23 ty31 rfl rfl (by first | omega | (simp; omega)) rfl ?_ | refine W.app 5 (.t rfl) rfl (.arr 0 (.t rfl) rfl (by first | (simp [AV.okc, shV]; done) | (intro e he; rw [List.mem_singleton.1 he]; rfl))) Tryd.underlying23 ni23 ty31 rfl rfl (by first | omega | (simp; omega)) rfl ?_ | refine W.app 5 (.t rfl) rfl (.arr 1 (.t rfl) rfl (by first | (simp [AV.okc, shV]; done) | (intro e he; rw [List.mem_singleton.1 he]; rfl))) Tryd.underlying23 ni23 ty31 rfl rfl (by first | omega | (simp; omega)) rfl ?_ | refine W.app 5 (.t rfl) rfl (.arr 2 (.t rfl) rfl (by first | (simp [AV.okc, shV]; done) | (intro e he; rw [List.mem_singleton.1 he]; rfl))) Tryd.underlying23 ni23 ty31 rfl rfl (by first | omega | (simp; omega)) rfl ?_ | refine W.app 5 (.t rfl) rfl (.arr 3 (.t rfl) rfl (by first | (simp [AV.okc, shV]; done) | (intro e he; rw [List.mem_singleton.1 he]; rfl))) Tryd.underlying23 ni23 ty31 rfl rfl (by first | omega | (simp; omega)) rfl ?_ | refine W.app 5 (.t rfl) rfl (.arr 4 (.t rfl) rfl (by first | (simp [AV.okc, shV]; done) | (intro e he; rw [List.mem_singleton.1 he]; rfl))) Tryd.underlying23 ni23 ty31 rfl rfl (by first | omega | (simp; omega)) rfl ?_ | refine W.app 5 (.t rfl) rfl (.arr 5 (.t rfl) rfl (by first | (simp [AV.okc, shV]; done) | (intro e he; rw [List.mem_singleton.1 he]; rfl))) Tryd.underlying23 ni23 ty31 rfl rfl (by first | omega | (simp; omega)) rfl ?_ | refine W.app 5 (.t rfl) rfl (.arr 6 (.t rfl) rfl (by first | (simp [AV.okc, shV]; done) | (intro e he; rw [List.mem_singleton.1 he]; rfl))) Tryd.underlying23 ni23 ty31 rfl rfl (by first | omega | (simp; omega)) rfl ?_ | refine W.app 6 (.t rfl) rfl (.arr 0 (.t rfl) rfl (by first | (simp [AV.okc, shV]; done) | (intro e he; rw [List.mem_singleton.1 he]; rfl))) Tryd.underlying23 ni23 ty31 rfl rfl (by first | omega | (simp; omega)) rfl ?_ | refine W.app 6 (.t rfl) rfl (.arr 1 (.t rfl) rfl (by first | (simp [AV.okc, shV]; done) | (intro e he; rw [List.mem_singleton.1 he]; rfl))) Tryd.underlying23 ni23 ty31 rfl rfl (by first | omega | (simp; omega)) rfl ?_ | refine W.app 6 (.t rfl) rfl (.arr 2 (.t rfl) rfl (by first | (simp [AV.okc, shV]; done) | (intro e he; rw [List.mem_singleton.1 he]; rfl))) Tryd.underlying23 ni23 ty31 rfl rfl (by first | omega | (simp; omega)) rfl ?_ | refine W.app 6 (.t rfl) rfl (.arr 3 (.t rfl) rfl (by first | (simp [AV.okc, shV]; done) | (intro e he; rw [List.mem_singleton.1 he]; rfl))) Tryd.underlying23 ni23 ty31 rfl rfl (by first | omega | (simp; omega)) rfl ?_ | refine W.app 6 (.t rfl) rfl (.arr 4 (.t rfl) rfl (by first | (simp [AV.okc, shV]; done) | (intro e he; rw [List.mem_singleton.1 he]; rfl))) Tryd.underlying23 ni23 ty31 rfl rfl (by first | omega | (simp; omega)) rfl ?_ | refine W.app 6 (.t rfl) rfl (.arr 5 (.t rfl) rfl (by first | (simp [AV.okc, shV]; done) | (intro e he; rw [List.mem_singleton.1 he]; rfl))) Tryd.underlying23 ni23 ty31 rfl rfl (by first | omega | (simp; omega)) rfl ?_ | refine W.app 6 (.t rfl) rfl (.arr 6 (.t rfl) rfl (by first | (simp [AV.okc, shV]; done) | (intro e he; rw [List.mem_singleton.1 he]; rfl))) Tryd.underlying23 ni23 ty31 rfl rfl (by first | omega | (simp; omega)) rfl ?_
          intro v42
          first | refine W.arr_inv 0 rfl (fun a42 n42 c42 h42 => ?_) | refine W.arr_inv 1 rfl (fun a42 n42 c42 h42 => ?_) | refine W.arr_inv 2 rfl (fun a42 n42 c42 h42 => ?_) | refine W.arr_inv 3 rfl (fun a42 n42 c42 h42 => ?_) | refine W.arr_inv 4 rfl (fun a42 n42 c42 h42 => ?_) | refine W.arr_inv 5 rfl (fun a42 n42 c42 h42 => ?_)
          subst h42
          first | refine W.stb 0 (.t rfl) (.t rfl) rfl ty23 rfl rfl rfl ?_ | refine W.stb 1 (.t rfl) (.t rfl) rfl ty23 rfl rfl rfl ?_ | refine W.stb 2 (.t rfl) (.t rfl) rfl ty23 rfl rfl rfl ?_ | refine W.stb 3 (.t rfl) (.t rfl) rfl ty23 rfl rfl rfl ?_ | refine W.stb 4 (.t rfl) (.t rfl) rfl ty23 rfl rfl rfl ?_ | refine W.stb 5 (.t rfl) (.t rfl) rfl ty23 rfl rfl rfl ?_ | refine W.stb 6 (.t rfl) (.t rfl) rfl ty23 rfl rfl rfl ?_
          refine W.nil ?_
          refine W.then ?_
          refine J.r hF (by exact fun a w h => hQ a w h) (by rfl) ?_
          first | refine W.stb 0 (.t rfl) .k rfl ty4 rfl rfl rfl ?_ | refine W.stb 1 (.t rfl) .k rfl ty4 rfl rfl rfl ?_ | refine W.stb 2 (.t rfl) .k rfl ty4 rfl rfl rfl ?_ | refine W.stb 3 (.t rfl) .k rfl ty4 rfl rfl rfl ?_ | refine W.stb 4 (.t rfl) .k rfl ty4 rfl rfl rfl ?_ | refine W.stb 5 (.t rfl) .k rfl ty4 rfl rfl rfl ?_ | refine W.stb 6 (.t rfl) .k rfl ty4 rfl rfl rfl ?_
          refine W.nil ?_
          refine W.blk_normal ?_
          refine J.endr (M' := [dfd D, _, _, _]) (D := [_]) ((List.perm_middle (l₁ := [_])).trans <| List.Perm.cons _ <| (List.perm_middle (l₁ := [_])).trans <| List.Perm.cons _ <| (List.perm_middle (l₁ := [_])).trans <| List.Perm.cons _ <| (List.perm_middle (l₁ := [_])).trans <| List.Perm.cons _ <| (List.perm_middle (l₁ := [_])).trans <| List.Perm.cons _ <| List.Perm.cons _ <| .refl _) ⟨rfl, _, ⟨.slice a42 n42 c42, ?_⟩, rfl⟩
          rw [hst, Pk.step, if_neg hw]
          dsimp only
          rw [hn, ha, List.map_append]
          rfl
        · have ha : Pk.atw w = [] := if_neg (by rw [hc_t32]; decide)
          refine J.k ?_
          refine W.then ?_
          refine J.s ?_
          refine J.r hF (by exact fun a w h => hQ a w h) (by rfl) ?_
          first | refine W.q (Ev.lde1 (.t rfl) ag23) rfl ?_ | refine W.q (Ev.ldb1 0 (.t rfl) rfl ag23 rfl) rfl ?_ | refine W.q (Ev.ldb1 1 (.t rfl) rfl ag23 rfl) rfl ?_ | refine W.q (Ev.ldb1 2 (.t rfl) rfl ag23 rfl) rfl ?_ | refine W.q (Ev.ldb1 3 (.t rfl) rfl ag23 rfl) rfl ?_ | refine W.q (Ev.ldb1 4 (.t rfl) rfl ag23 rfl) rfl ?_ | refine W.q (Ev.ldb1 5 (.t rfl) rfl ag23 rfl) rfl ?_ | refine W.q (Ev.ldb1 6 (.t rfl) rfl ag23 rfl) rfl ?_
          first | refine W.q (Ev.lden (.t rfl) ag31 ty31 rfl rfl) rfl ?_ | refine W.q (Ev.ldbn 0 (.t rfl) rfl ag31 ty31 rfl) rfl ?_ | refine W.q (Ev.ldbn 1 (.t rfl) rfl ag31 ty31 rfl) rfl ?_ | refine W.q (Ev.ldbn 2 (.t rfl) rfl ag31 ty31 rfl) rfl ?_ | refine W.q (Ev.ldbn 3 (.t rfl) rfl ag31 ty31 rfl) rfl ?_ | refine W.q (Ev.ldbn 4 (.t rfl) rfl ag31 ty31 rfl) rfl ?_ | refine W.q (Ev.ldbn 5 (.t rfl) rfl ag31 ty31 rfl) rfl ?_ | refine W.q (Ev.ldbn 6 (.t rfl) rfl ag31 ty31 rfl) rfl ?_
          refine W.bs (es := [_]) Tryd.underlying23 ty31 ⟨rfl, (.t rfl), rfl, rfl, trivial⟩ rfl (by decide) rfl rfl ?_
          first | refine W.app 0 (.t rfl) rfl (.sl (.t rfl) (by first | (simp [AV.okc, shV]; done) | (intro e he; rw [List.mem_singleton.1 he]; rfl))) Tryd.underlying23 ni23 ty31 rfl rfl (by first | omega | (simp; omega)) rfl ?_ | refine W.app 1 (.t rfl) rfl (.sl (.t rfl) (by first | (simp [AV.okc, shV]; done) | (intro e he; rw [List.mem_singleton.1 he]; rfl))) Tryd.underlying23 ni23 ty31 rfl rfl (by first | omega | (simp; omega)) rfl ?_ | refine W.app 2 (.t rfl) rfl (.sl (.t rfl) (by first | (simp [AV.okc, shV]; done) | (intro e he; rw [List.mem_singleton.1 he]; rfl))) Tryd.underlying23 ni23 ty31 rfl rfl (by first | omega | (simp; omega)) rfl ?_ | refine W.app 3 (.t rfl) rfl (.sl (.t rfl) (by first | (simp [AV.okc, shV]; done) | (intro e he; rw [List.mem_singleton.1 he]; rfl))) Tryd.underlying23 ni23 ty31 rfl rfl (by first | omega | (simp; omega)) rfl ?_ | refine W.app 4 (.t rfl) rfl (.sl (.t rfl) (by first | (simp [AV.okc, shV]; done) | (intro e he; rw [List.mem_singleton.1 he]; rfl))) Tryd.underlying23 ni23 ty31 rfl rfl (by first | omega | (simp; omega)) rfl ?_ | refine W.app 5 (.t rfl) rfl (.sl (.t rfl) (by first | (simp [AV.okc, shV]; done) | (intro e he; rw [List.mem_singleton.1 he]; rfl))) Tryd.underlying23 ni23 ty31 rfl rfl (by first | omega | (simp; omega)) rfl ?_ | refine W.app 6 (.t rfl) rfl (.sl (.t rfl) (by first | (simp [AV.okc, shV]; done) | (intro e he; rw [List.mem_singleton.1 he]; rfl))) Tryd.underlying23 ni23 ty31 rfl rfl (by first | omega | (simp; omega)) rfl ?_ | refine W.app 0 (.t rfl) rfl (.arr 0 (.t rfl) rfl (by first | (simp [AV.okc, shV]; done) | (intro e he; rw [List.mem_singleton.1 he]; rfl))) Tryd.underlying23 ni23 ty31 rfl rfl (by first | omega | (simp; omega)) rfl ?_ | refine W.app 0 (.t rfl) rfl (.arr 1 (.t rfl) rfl (by first | (simp [AV.okc, shV]; done) | (intro e he; rw [List.mem_singleton.1 he]; rfl))) Tryd.underlying23 ni23 ty31 rfl rfl (by first | omega | (simp; omega)) rfl ?_ | refine W.app 0 (.t rfl) rfl (.arr 2 (.t rfl) rfl (by first | (simp [AV.okc, shV]; done) | (intro e he; rw [List.mem_singleton.1 he]; rfl))) Tryd.underlying23 ni23 ty31 rfl rfl (by first | omega | (simp; omega)) rfl ?_ | refine W.app 0 (.t rfl) rfl (.arr 3 (.t rfl) rfl (by first | (simp [AV.okc, shV]; done) | (intro e he; rw [List.mem_singleton.1 he]; rfl))) Tryd.underlying23 ni23 ty31 rfl rfl (by first | omega | (simp; omega)) rfl ?_ | refine W.app 0 (.t rfl) rfl (.arr 4 (.t rfl) rfl (by first | (simp [AV.okc, shV]; done) | (intro e he; rw [List.mem_singleton.1 he]; rfl))) Tryd.underlying23 ni23 ty31 rfl rfl (by first | omega | (simp; omega)) rfl ?_ | refine W.app 0 (.t rfl) rfl (.arr 5 (.t rfl) rfl (by first | (simp [AV.okc, shV]; done) | (intro e he; rw [List.mem_singleton.1 he]; rfl))) Tryd.underlying23 ni23 ty31 rfl rfl (by first | omega | (simp; omega)) rfl ?_ | refine W.app 0 (.t rfl) rfl (.arr 6 (.t rfl) rfl (by first | (simp [AV.okc, shV]; done) | (intro e he; rw [List.mem_singleton.1 he]; rfl))) Tryd.underlying23 ni23 ty31 rfl rfl (by first | omega | (simp; omega)) rfl ?_ | refine W.app 1 (.t rfl) rfl (.arr 0 (.t rfl) rfl (by first | (simp [AV.okc, shV]; done) | (intro e he; rw [List.mem_singleton.1 he]; rfl))) Tryd.underlying23 ni23 ty31 rfl rfl (by first | omega | (simp; omega)) rfl ?_ | refine W.app 1 (.t rfl) rfl (.arr 1 (.t rfl) rfl (by first | (simp [AV.okc, shV]; done) | (intro e he; rw [List.mem_singleton.1 he]; rfl))) Tryd.underlying23 ni23 ty31 rfl rfl (by first | omega | (simp; omega)) rfl ?_ | refine W.app 1 (.t rfl) rfl (.arr 2 (.t rfl) rfl (by first | (simp [AV.okc, shV]; done) | (intro e he; rw [List.mem_singleton.1 he]; rfl))) Tryd.underlying23 ni23 ty31 rfl rfl (by first | omega | (simp; omega)) rfl ?_ | refine W.app 1 (.t rfl) rfl (.arr 3 (.t rfl) rfl (by first | (simp [AV.okc, shV]; done) | (intro e he; rw [List.mem_singleton.1 he]; rfl))) Tryd.underlying23 ni23 ty31 rfl rfl (by first | omega | (simp; omega)) rfl ?_ | refine W.app 1 (.t rfl) rfl (.arr 4 (.t rfl) rfl (by first | (simp [AV.okc, shV]; done) | (intro e he; rw [List.mem_singleton.1 he]; rfl))) Tryd.underlying23 ni23 ty31 rfl rfl (by first | omega | (simp; omega)) rfl ?_ | refine W.app 1 (.t rfl) rfl (.arr 5 (.t rfl) rfl (by first | (simp [AV.okc, shV]; done) | (intro e he; rw [List.mem_singleton.1 he]; rfl))) Tryd.underlying23 ni23 ty31 rfl rfl (by first | omega | (simp; omega)) rfl ?_ | refine W.app 1 (.t rfl) rfl (.arr 6 (.t rfl) rfl (by first | (simp [AV.okc, shV]; done) | (intro e he; rw [List.mem_singleton.1 he]; rfl))) Tryd.underlying23 ni23 ty31 rfl rfl (by first | omega | (simp; omega)) rfl ?_ | refine W.app 2 (.t rfl) rfl (.arr 0 (.t rfl) rfl (by first | (simp [AV.okc, shV]; done) | (intro e he; rw [List.mem_singleton.1 he]; rfl))) Tryd.underlying23 ni23 ty31 rfl rfl (by first | omega | (simp; omega)) rfl ?_ | refine W.app 2 (.t rfl) rfl (.arr 1 (.t rfl) rfl (by first | (simp [AV.okc, shV]; done) | (intro e he; rw [List.mem_singleton.1 he]; rfl))) Tryd.underlying23 ni23 ty31 rfl rfl (by first | omega | (simp; omega)) rfl ?_ | refine W.app 2 (.t rfl) rfl (.arr 2 (.t rfl) rfl (by first | (simp [AV.okc, shV]; done) | (intro e he; rw [List.mem_singleton.1 he]; rfl))) Tryd.underlying23 ni23 ty31 rfl rfl (by first | omega | (simp; omega)) rfl ?_ | refine W.app 2 (.t rfl) rfl (.arr 3 (.t rfl) rfl (by first | (simp [AV.okc, shV]; done) | (intro e he; rw [List.mem_singleton.1 he]; rfl))) Tryd.underlying23 ni23 ty31 rfl rfl (by first | omega | (simp; omega)) rfl ?_ | refine W.app 2 (.t rfl) rfl (.arr 4 (.t rfl) rfl (by first | (simp [AV.okc, shV]; done) | (intro e he; rw [List.mem_singleton.1 he]; rfl))) Tryd.underlying23 ni23 ty31 rfl rfl (by first | omega | (simp; omega)) rfl ?_ | refine W.app 2 (.t rfl) rfl (.arr 5 (.t rfl) rfl (by first | (simp [AV.okc, shV]; done) | (intro e he; rw [List.mem_singleton.1 he]; rfl))) Tryd.underlying23 ni23 ty31 rfl rfl (by first | omega | (simp; omega)) rfl ?_ | refine W.app 2 (.t rfl) rfl (.arr 6 (.t rfl) rfl (by first | (simp [AV.okc, shV]; done) | (intro e he; rw [List.mem_singleton.1 he]; rfl))) Tryd.underlying23 ni23 ty31 rfl rfl (by first | omega | (simp; omega)) rfl ?_ | refine W.app 3 (.t rfl) rfl (.arr 0 (.t rfl) rfl (by first | (simp [AV.okc, shV]; done) | (intro e he; rw [List.mem_singleton.1 he]; rfl))) Tryd.underlying23 ni23 ty31 rfl rfl (by first | omega | (simp; omega)) rfl ?_ | refine W.app 3 (.t rfl) rfl (.arr 1 (.t rfl) rfl (by first | (simp [AV.okc, shV]; done) | (intro e he; rw [List.mem_singleton.1 he]; rfl))) Tryd.underlying23 ni23 ty31 rfl rfl (by first | omega | (simp; omega)) rfl ?_ | refine W.app 3 (.t rfl) rfl (.arr 2 (.t rfl) rfl (by first | (simp [AV.okc, shV]; done) | (intro e he; rw [List.mem_singleton.1 he]; rfl))) Tryd.underlying23 ni23 ty31 rfl rfl (by first | omega | (simp; omega)) rfl ?_ | refine W.app 3 (.t rfl) rfl (.arr 3 (.t rfl) rfl (by first | (simp [AV.okc, shV]; done) | (intro e he; rw [List.mem_singleton.1 he]; rfl))) Tryd.underlying23 ni23 ty31 rfl rfl (by first | omega | (simp; omega)) rfl ?_ | refine W.app 3 (.t rfl) rfl (.arr 4 (.t rfl) rfl (by first | (simp [AV.okc, shV]; done) | (intro e he; rw [List.mem_singleton.1 he]; rfl))) Tryd.underlying23 ni23 ty31 rfl rfl (by first | omega | (simp; omega)) rfl ?_ | refine W.app 3 (.t rfl) rfl (.arr 5 (.t rfl) rfl (by first | (simp [AV.okc, shV]; done) | (intro e he; rw [List.mem_singleton.1 he]; rfl))) Tryd.underlying23 ni23 ty31 rfl rfl (by first | omega | (simp; omega)) rfl ?_ | refine W.app 3 (.t rfl) rfl (.arr 6 (.t rfl) rfl (by first | (simp [AV.okc, shV]; done) | (intro e he; rw [List.mem_singleton.1 he]; rfl))) Tryd.underlying23 ni23 ty31 rfl rfl (by first | omega | (simp; omega)) rfl ?_ | refine W.app 4 (.t rfl) rfl (.arr 0 (.t rfl) rfl (by first | (simp [AV.okc, shV]; done) | (intro e he; rw [List.mem_singleton.1 he]; rfl))) Tryd.underlying23 ni23 ty31 rfl rfl (by first | omega | (simp; omega)) rfl ?_ | refine W.app 4 (.t rfl) rfl (.arr 1 (.t rfl) rfl (by first | (simp [AV.okc, shV]; done) | (intro e he; rw [List.mem_singleton.1 he]; rfl))) Tryd.underlying23 ni23 ty31 rfl rfl (by first | omega | (simp; omega)) rfl ?_ | refine W.app 4 (.t rfl) rfl (.arr 2 (.t rfl) rfl (by first | (simp [AV.okc, shV]; done) | (intro e he; rw [List.mem_singleton.1 he]; rfl))) Tryd.underlying23 ni23 ty31 rfl rfl (by first | omega | (simp; omega)) rfl ?_ | refine W.app 4 (.t rfl) rfl (.arr 3 (.t rfl) rfl (by first | (simp [AV.okc, shV]; done) | (intro e he; rw [List.mem_singleton.1 he]; rfl))) Tryd.underlying23 ni23 ty31 rfl rfl (by first | omega | (simp; omega)) rfl ?_ | refine W.app 4 (.t rfl) rfl (.arr 4 (.t rfl) rfl (by first | (simp [AV.okc, shV]; done) | (intro e he; rw [List.mem_singleton.1 he]; rfl))) Tryd.underlying23 ni23 ty31 rfl rfl (by first | omega | (simp; omega)) rfl ?_ | refine W.app 4 (.t rfl) rfl (.arr 5 (.t rfl) rfl (by first | (simp [AV.okc, shV]; done) | (intro e he; rw [List.mem_singleton.1 he]; rfl))) Tryd.underlying23 ni23 ty31 rfl rfl (by first | omega | (simp; omega)) rfl ?_ | refine W.app 4 (.t rfl) rfl (.arr 6 (.t rfl) rfl (by first | (simp [AV.okc, shV]; done) | (intro e he; rw [List.mem_singleton.1 he]; rfl))) Tryd.underlying23 ni23 ty31 rfl rfl (by first | omega | (simp; omega)) rfl ?_ | refine W.app 5 (.t rfl) rfl (.arr 0 (.t rfl) rfl (by first | (simp [AV.okc, shV]; done) | (intro e he; rw [List.mem_singleton.1 he]; rfl))) Tryd.underlying23 ni23 ty31 rfl rfl (by first | omega | (simp; omega)) rfl ?_ | refine W.app 5 (.t rfl) rfl (.arr 1 (.t rfl) rfl (by first | (simp [AV.okc, shV]; done) | (intro e he; rw [List.mem_singleton.1 he]; rfl))) Tryd.underlying23 ni23 ty31 rfl rfl (by first | omega | (simp; omega)) rfl ?_ | refine W.app 5 (.t rfl) rfl (.arr 2 (.t rfl) rfl (by first | (simp [AV.okc, shV]; done) | (intro e he; rw [List.mem_singleton.1 he]; rfl))) Tryd.underlying23 ni23 ty31 rfl rfl (by first | omega | (simp; omega)) rfl ?_ | refine W.app 5 (.t rfl) rfl (.arr 3 (.t rfl) rfl (by first | (simp [AV.okc, shV]; done) | (intro e he; rw [List.mem_singleton.1 he]; rfl))) Tryd.underlying23 ni23 ty31 rfl rfl (by first | omega | (simp; omega)) rfl ?_ | refine W.app 5 (.t rfl) rfl (.arr 4 (.t rfl) rfl (by first | (simp [AV.okc, shV]; done) | (intro e he; rw [List.mem_singleton.1 he]; rfl))) Tryd.underlying23 ni23 ty31 rfl rfl (by first | omega | (simp; omega)) rfl ?_ | refine W.app 5 (.t rfl) rfl (.arr 5 (.t rfl) rfl (by first | (simp [AV.okc, shV]; done) | (intro e he; rw [List.mem_singleton.1 he]; rfl))) Tryd.underlying23 ni23 ty31 rfl rfl (by first | omega | (simp; omega)) rfl ?_ | refine W.app 5 (.t rfl) rfl (.arr 6 (.t rfl) rfl (by first | (simp [AV.okc, shV]; done) | (intro e he; rw [List.mem_singleton.1 he]; rfl))) Tryd.underlying23 ni23 ty31 rfl rfl (by first | omega | (simp; omega)) rfl ?_ | refine W.app 6 (.t rfl) rfl (.arr 0 (.t rfl) rfl (by first | (simp [AV.okc, shV]; done) | (intro e he; rw [List.mem_singleton.1 he]; rfl))) Tryd.underlying23 ni23 ty31 rfl rfl (by first | omega | (simp; omega)) rfl ?_ | refine W.app 6 (.t rfl) rfl (.arr 1 (.t rfl) rfl (by first | (simp [AV.okc, shV]; done) | (intro e he; rw [List.mem_singleton.1 he]; rfl))) Tryd.underlying23 ni23 ty31 rfl rfl (by first | omega | (simp; omega)) rfl ?_ | refine W.app 6 (.t rfl) rfl (.arr 2 (.t rfl) rfl (by first | (simp [AV.okc, shV]; done) | (intro e he; rw [List.mem_singleton.1 he]; rfl))) Tryd.underlying23 ni23 ty31 rfl rfl (by first | omega | (simp; omega)) rfl ?_ | refine W.app 6 (.t rfl) rfl (.arr 3 (.t rfl) rfl (by first | (simp [AV.okc, shV]; done) | (intro e he; rw [List.mem_singleton.1 he]; rfl))) Tryd.underlying23 ni23 ty31 rfl rfl (by first | omega | (simp; omega)) rfl ?_ | refine W.app 6 (.t rfl) rfl (.arr 4 (.t rfl) rfl (by first | (simp [AV.okc, shV]; done) | (intro e he; rw [List.mem_singleton.1 he]; rfl))) Tryd.underlying23 ni23 ty31 rfl rfl (by first | omega | (simp; omega)) rfl ?_ | refine W.app 6 (.t rfl) rfl (.arr 5 (.t rfl) rfl (by first | (simp [AV.okc, shV]; done) | (intro e he; rw [List.mem_singleton.1 he]; rfl))) Tryd.underlying23 ni23 ty31 rfl rfl (by first | omega | (simp; omega)) rfl ?_ | refine W.app 6 (.t rfl) rfl (.arr 6 (.t rfl) rfl (by first | (simp [AV.okc, shV]; done) | (intro e he; rw [List.mem_singleton.1 he]; rfl))) Tryd.underlying23 ni23 ty31 rfl rfl (by first | omega | (simp; omega)) rfl ?_
          intro v42
          first | refine W.arr_inv 0 rfl (fun a42 n42 c42 h42 => ?_) | refine W.arr_inv 1 rfl (fun a42 n42 c42 h42 => ?_) | refine W.arr_inv 2 rfl (fun a42 n42 c42 h42 => ?_) | refine W.arr_inv 3 rfl (fun a42 n42 c42 h42 => ?_) | refine W.arr_inv 4 rfl (fun a42 n42 c42 h42 => ?_) | refine W.arr_inv 5 rfl (fun a42 n42 c42 h42 => ?_)
          subst h42
          first | refine W.stb 0 (.t rfl) (.t rfl) rfl ty23 rfl rfl rfl ?_ | refine W.stb 1 (.t rfl) (.t rfl) rfl ty23 rfl rfl rfl ?_ | refine W.stb 2 (.t rfl) (.t rfl) rfl ty23 rfl rfl rfl ?_ | refine W.stb 3 (.t rfl) (.t rfl) rfl ty23 rfl rfl rfl ?_ | refine W.stb 4 (.t rfl) (.t rfl) rfl ty23 rfl rfl rfl ?_ | refine W.stb 5 (.t rfl) (.t rfl) rfl ty23 rfl rfl rfl ?_ | refine W.stb 6 (.t rfl) (.t rfl) rfl ty23 rfl rfl rfl ?_
          refine W.nil ?_
          refine W.then ?_
          refine J.r hF (by exact fun a w h => hQ a w h) (by rfl) ?_
          first | refine W.stb 0 (.t rfl) .k rfl ty4 rfl rfl rfl ?_ | refine W.stb 1 (.t rfl) .k rfl ty4 rfl rfl rfl ?_ | refine W.stb 2 (.t rfl) .k rfl ty4 rfl rfl rfl ?_ | refine W.stb 3 (.t rfl) .k rfl ty4 rfl rfl rfl ?_ | refine W.stb 4 (.t rfl) .k rfl ty4 rfl rfl rfl ?_ | refine W.stb 5 (.t rfl) .k rfl ty4 rfl rfl rfl ?_ | refine W.stb 6 (.t rfl) .k rfl ty4 rfl rfl rfl ?_
          refine W.nil ?_
          refine W.blk_normal ?_
          refine J.endr (M' := [dfd D, _, _, _]) (D := [_]) ((List.perm_middle (l₁ := [_])).trans <| List.Perm.cons _ <| (List.perm_middle (l₁ := [_])).trans <| List.Perm.cons _ <| (List.perm_middle (l₁ := [_])).trans <| List.Perm.cons _ <| (List.perm_middle (l₁ := [_])).trans <| List.Perm.cons _ <| (List.perm_middle (l₁ := [_])).trans <| List.Perm.cons _ <| List.Perm.cons _ <| .refl _) ⟨rfl, _, ⟨.slice a42 n42 c42, ?_⟩, rfl⟩
          rw [hst, Pk.step, if_neg hw]
          dsimp only
          rw [hn, ha, List.map_append]
          rfl
  · obtain ⟨v, rfl⟩ := hM2
    rw [Pk.stt_all, hfold]
    refine W.freezeA (M1 := [dfd D, .box b4 23 [.lit v], .box b5 4 [.bool true]]) (M2 := [dfd D, .box b4 23 [.sl 3 (ps.map kav)], .box b5 4 [.bool true]]) (D := []) (v := v) (L' := []) (List.perm_middle (l₁ := [_, _])) trivial ⟨.refl _, .box ⟨.hit, trivial⟩, .refl _, trivial⟩ ?_
    refine J.s ?_
    refine J.s ?_
    refine J.r hF (by exact fun a w h => hQ (wd (Go.Vl.mark D) a) w h) (by rfl) ?_
    first | refine W.q (Ev.lde1 (.t rfl) ag23) rfl ?_ | refine W.q (Ev.ldb1 0 (.t rfl) rfl ag23 rfl) rfl ?_ | refine W.q (Ev.ldb1 1 (.t rfl) rfl ag23 rfl) rfl ?_ | refine W.q (Ev.ldb1 2 (.t rfl) rfl ag23 rfl) rfl ?_ | refine W.q (Ev.ldb1 3 (.t rfl) rfl ag23 rfl) rfl ?_ | refine W.q (Ev.ldb1 4 (.t rfl) rfl ag23 rfl) rfl ?_ | refine W.q (Ev.ldb1 5 (.t rfl) rfl ag23 rfl) rfl ?_ | refine W.q (Ev.ldb1 6 (.t rfl) rfl ag23 rfl) rfl ?_
    refine W.callp (WCheckB.c_check ps hp0 hp1 (fun p hp => WPicksB.ok_drn (hd p hp))) ⟨(.t rfl), trivial⟩ rfl ?_
    refine W.q (Ev.nei (.t rfl) .k) rfl ?_
    refine W.q (Ev.move (.t rfl)) rfl ?_
    first | refine W.qgF rfl rfl (Ev.lde1 (.t rfl) ag23) rfl ?_ | refine W.qgF rfl rfl (Ev.ldb1 0 (.t rfl) rfl ag23 rfl) rfl ?_ | refine W.qgF rfl rfl (Ev.ldb1 1 (.t rfl) rfl ag23 rfl) rfl ?_ | refine W.qgF rfl rfl (Ev.ldb1 2 (.t rfl) rfl ag23 rfl) rfl ?_ | refine W.qgF rfl rfl (Ev.ldb1 3 (.t rfl) rfl ag23 rfl) rfl ?_ | refine W.qgF rfl rfl (Ev.ldb1 4 (.t rfl) rfl ag23 rfl) rfl ?_ | refine W.qgF rfl rfl (Ev.ldb1 5 (.t rfl) rfl ag23 rfl) rfl ?_ | refine W.qgF rfl rfl (Ev.ldb1 6 (.t rfl) rfl ag23 rfl) rfl ?_
    refine W.callgF (Min := []) (caps := []) (avs := [_]) rfl rfl (fun hg => WTextB.c_text ps hd hp1) (fun hg => .f) (fun hg => ⟨(.i rfl (fun _ => hg)), trivial⟩) rfl (.refl _) rfl ?_
    refine W.qgF rfl rfl (Ev.move (.t rfl)) rfl ?_
    refine W.qgF rfl rfl (Ev.nes (.c rfl) (.c rfl)) rfl ?_
    refine W.q (Ev.or (.t rfl) ⟨_, _, rfl, rfl, by first | (simp; done) | (intro hg_ hp_; simp [hp_]; done) | (simp <;> omega; done) | (simp_all; done) | grind⟩) rfl ?_
    refine W.nil ?_
    refine W.then ?_
    refine W.is (t := 51) (g := true) (av' := .lit (.bool false)) rfl (congrArg (fun b => AV.lit (.bool b)) (by rw [hj]; simp)) ?_
    refine J.condF (.t rfl) ?_
    refine J.k ?_
    refine W.then ?_
    refine J.s ?_
    refine J.r hF (by exact fun a w h => hQ (wd (Go.Vl.mark D) a) w h) (by rfl) ?_
    first | refine W.q (Ev.lde1 (.t rfl) ag23) rfl ?_ | refine W.q (Ev.ldb1 0 (.t rfl) rfl ag23 rfl) rfl ?_ | refine W.q (Ev.ldb1 1 (.t rfl) rfl ag23 rfl) rfl ?_ | refine W.q (Ev.ldb1 2 (.t rfl) rfl ag23 rfl) rfl ?_ | refine W.q (Ev.ldb1 3 (.t rfl) rfl ag23 rfl) rfl ?_ | refine W.q (Ev.ldb1 4 (.t rfl) rfl ag23 rfl) rfl ?_ | refine W.q (Ev.ldb1 5 (.t rfl) rfl ag23 rfl) rfl ?_ | refine W.q (Ev.ldb1 6 (.t rfl) rfl ag23 rfl) rfl ?_
    refine W.q (Ev.assign (.t rfl)) rfl ?_
    refine W.q (Ev.assign .k) rfl ?_
    refine W.nil ?_
    refine W.then ?_
    refine J.ret ?_
    refine J.retn (M' := []) (D := _) (rs := [.tmp 2, .tmp 3]) (avs := [_, _]) Tryd.results6 ⟨rfl, rfl, trivial⟩ rfl (.refl _) ?_
    exact ⟨rfl, rfl⟩

end WParseB

end Go.Proofs.YtiflifblkpjgpaaDoor
end

section
set_option linter.unusedVariables false
set_option linter.unusedSimpArgs false
namespace Go.Vl
open Go.RowKit (Below)
mutual
/-- the cells of a datum without pointers -/
def dcells : DataW Unit → List Value
  | .lit (.int k z) => [.int k z]
  | .agg ps => dcellsL ps
  | _ => []
def dcellsL : List (DataW Unit) → List Value
  | [] => []
  | d :: l => dcells d ++ dcellsL l
end
end Go.Vl
end
