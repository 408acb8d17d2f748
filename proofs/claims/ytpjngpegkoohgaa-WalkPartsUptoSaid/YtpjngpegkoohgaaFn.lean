/-
  Contracts of functions over the logic of Vl: how one is entered, met at a call, and left.
-/
import Derived.Test.YtpjngpegkoohgaaVl
set_option linter.unusedVariables false
set_option linter.unusedSimpArgs false
set_option linter.unusedSectionVars false
namespace Go.Vl

/-- What a call comes to. -/
def RetR (w0 : World) (N0 F : List Nat) (post : AV → List ME → Prop) (e : Ending) (w' : World) : Prop :=
  ∃ v r M', e = .returned v ∧ post r M' ∧ MOk w' M' F ∧ Rep w' (bl M' ++ F) r v ∧ Fr w0 N0 w' (bl M')

/-- A function that the program has, with a body. -/
def CallOk (P : Program) (f : FuncId) : Prop := ∃ fn, P.funcs[f]? = some fn ∧ (fn.name == "runtime.NumGoroutine") = false ∧ fn.body.isNone = false

/-- A CONTRACT. -/
def FnC (P : Program) (f : FuncId) (args : List AV) (M0 : List ME) (post : AV → List ME → Prop) : Prop :=
  CallOk P f ∧ ∀ (w : World) (F : List Nat) (vs : List Value), (∀ b ∈ F, b < w.heap.size) → MOk w M0 F → RepT w (bl M0 ++ F) args vs → Calls P f vs.toArray w (RetR w (bl M0) F post)

/-- A contract without mutable blocks, of one result. -/
abbrev FnP (P : Program) (f : FuncId) (args : List AV) (r : AV) : Prop := FnC P f args [] (fun r' M' => r' = r ∧ M' = [])

theorem FnC.mono {P : Program} {f : FuncId} {args : List AV} {M0 : List ME} {post post' : AV → List ME → Prop} (h : FnC P f args M0 post) (hp : ∀ r M', post r M' → post' r M') : FnC P f args M0 post' :=
  ⟨h.1, fun w F vs hF hm ha => (h.2 w F vs hF hm ha).mono fun e w' ⟨v, r, M', h1, h2, h3⟩ => ⟨v, r, M', h1, hp _ _ h2, h3⟩⟩

def argL : Nat → List AV → List (Tmp × Bool × AV)
  | _, [] => []
  | i, a :: r => (i, true, a) :: argL (i + 1) r

theorem look_argL : ∀ (args : List AV) (i t : Nat) (p : Bool × AV), look (argL i args) t = some p → ∃ j, t = i + j ∧ args[j]? = some p.2 ∧ p.1 = true
  | [], i, t, p, h => by cases h
  | a :: r, i, t, p, h => by
    rw [argL, look_cons] at h
    by_cases e : i = t
    · rw [if_pos e] at h; cases h; exact ⟨0, by omega, rfl, rfl⟩
    · rw [if_neg e] at h
      obtain ⟨j, h1, h2, h3⟩ := look_argL r (i + 1) t p h
      exact ⟨j + 1, by omega, by simpa using h2, h3⟩

theorem RepT.get {w : World} {N : List Nat} : ∀ {args : List AV} {vs : List Value} {j : Nat} {av : AV}, RepT w N args vs → args[j]? = some av → ∃ v, vs[j]? = some v ∧ Rep w N av v
  | [], vs, j, av, h, hj => by simp at hj
  | a :: r, vs, j, av, h, hj => by
    simp only [RepT] at h
    obtain ⟨v, vs', rfl, ⟨h1, h2⟩, h3⟩ := h
    cases j with
    | zero => simp at hj; subst hj; exact ⟨v, rfl, h1, h2⟩
    | succ j => simpa using RepT.get h3 (by simpa using hj)
theorem RepT.length {w : World} {N : List Nat} : ∀ {args : List AV} {vs : List Value}, RepT w N args vs → vs.length = args.length
  | [], vs, h => by simp only [RepT] at h; subst h; rfl
  | a :: r, vs, h => by
    simp only [RepT] at h
    obtain ⟨v, vs', rfl, _, h3⟩ := h
    simp [RepT.length h3]

/-- A CONTRACT IS ENTERED. -/
theorem FnC.mk {P : Program} {f : FuncId} {fn : Func} {c : Code} {args : List AV} {M0 : List ME} {post : AV → List ME → Prop} {n : Nat} (hf : P.funcs[f]? = some fn) (hnm : (fn.name == "runtime.NumGoroutine") = false) (hb : fn.body = some c) (hn : fn.ntmps = n)
    (hlen : Nat.ble args.length n = true)
    (h : ∀ w0 F, W ⟨P, n, w0, bl M0, F⟩ (argL 0 args) M0 (Code.wp P c (bodyPost P fn (RetR w0 (bl M0) F post)))) : FnC P f args M0 post := by
  refine ⟨⟨fn, hf, hnm, by rw [hb]; rfl⟩, fun w F vs hF hm ha => ?_⟩
  refine calls_of_wp hf hb (h w F _ w ?_)
  have hl := ha.length
  have hle : args.length ≤ n := Nat.le_of_ble_eq_true hlen
  refine ⟨rfl, ?_, ?_, hm, Fr.refl _ _, hF⟩
  · simp [hn, hl]; omega
  · intro t g av hlk
    obtain ⟨j, rfl, h2, h3⟩ := look_argL args 0 t _ hlk
    obtain ⟨v, hv, hr⟩ := ha.get h2
    have hj : j < vs.length := by
      rcases Nat.lt_or_ge j vs.length with h | h
      · exact h
      · rw [List.getElem?_eq_none h] at hv; cases hv
    have e : ((vs.toArray ++ Array.replicate (fn.ntmps - vs.toArray.size) undef).getD (0 + j) undef) = v := by
      rw [Nat.zero_add, Array.getD_eq_getD_getElem?, Array.getElem?_append_left (by simpa using hj)]
      simp [hv]
    simp only at h3
    subst h3
    exact ⟨fun _ => by rw [e]; exact hr, fun h => by cases h⟩

section calls
variable {x : Cx} {L : List (Tmp × Bool × AV)} {M : List ME} {ops : Array Oper} {Q : Exit → Act → World → Prop} {rest : List Oper}

def ArgsOv (L : List (Tmp × Bool × AV)) : List Operand → List AV → Prop
  | [], [] => True
  | o :: os, a :: as => Ov true L o a ∧ ArgsOv L os as
  | _, _ => False

theorem ArgsOv.rep {a : Act} {w : World} (hs : St x L M a w) : ∀ {os : List Operand} {avs : List AV}, ArgsOv L os avs → RepT w (bl M ++ x.F) avs (os.map a.eval)
  | [], [], _ => by simp [RepT]
  | o :: os, av :: as, h => by
    simp only [RepT, List.map_cons]
    exact ⟨_, _, rfl, h.1.rep rfl hs, ArgsOv.rep hs h.2⟩
  | [], _ :: _, h => h.elim
  | _ :: _, [], h => h.elim

theorem RepT.append {w : World} {N : List Nat} : ∀ {as bs : List AV} {us vs : List Value}, RepT w N as us → RepT w N bs vs → RepT w N (as ++ bs) (us ++ vs)
  | [], bs, us, vs, h, h' => by simp only [RepT] at h; subst h; simpa using h'
  | a :: as, bs, us, vs, h, h' => by
    simp only [RepT] at h
    obtain ⟨v, us', rfl, h1, h2⟩ := h
    simp only [List.cons_append, RepT]
    exact ⟨_, _, rfl, h1, RepT.append h2 h'⟩
theorem RepT.lits {w : World} {N : List Nat} : ∀ (vs : List Value), RepT w N (vs.map .lit) vs
  | [] => by simp [RepT]
  | v :: vs => by
    simp only [List.map_cons, RepT]
    exact ⟨_, _, rfl, Rep.lit v, RepT.lits vs⟩

theorem bl_sub_of_perm {M Min Mr : List ME} (hM : List.Perm M (Min ++ Mr)) : ∀ b, b ∈ bl M ↔ b ∈ bl Min ∨ b ∈ bl Mr := fun b => by
  rw [(bl_perm hM).mem_iff, bl_append, List.mem_append]

theorem heap_lt {w : World} {b : Nat} {o : Obj} (h : w.heap[b]? = some o) : b < w.heap.size := by
  rcases Nat.lt_or_ge b w.heap.size with h' | h'
  · exact h'
  · rw [Array.getElem?_eq_none h'] at h; cases h

theorem ME.blk_some {w : World} {N : List Nat} {m : ME} (h : m.holds w N) : ∀ b ∈ m.blks, b < w.heap.size := by
  intro b hb
  cases m with
  | box b' T cs =>
    obtain ⟨cur, hc, _⟩ := h
    simp [ME.blks] at hb; subst hb; exact heap_lt hc
  | arr v T k es =>
    obtain ⟨a, cap, e, h1, h2, h3⟩ := h
    rcases h3 with ⟨rfl, _⟩ | ⟨g, off, cur, lo, hi, rfl, hc, _⟩
    · subst e; simp [ME.blks] at hb
    · subst e; simp [ME.blks] at hb; subst hb; exact heap_lt hc
  | obj b' o =>
    simp [ME.blks] at hb; subst hb; exact heap_lt h.1

theorem bl_lt {w : World} {M : List ME} {F : List Nat} (h : MOk w M F) : ∀ b ∈ bl M, b < w.heap.size := by
  intro b hb
  simp only [bl, List.mem_flatMap] at hb
  obtain ⟨m, hm, hb⟩ := hb
  exact ME.blk_some (h.holds m hm) b hb

theorem mem4 {b : Nat} {M' Mr : List ME} {F : List Nat} : b ∈ bl (M' ++ Mr) ++ F ↔ b ∈ bl M' ++ (bl Mr ++ F) := by
  rw [bl_append, List.append_assoc]

/-- ahead of a call: what is handed over -/
theorem St.ahead {a : Act} {w : World} {Min Mr : List ME} (hs : St x L M a w) (hM : List.Perm M (Min ++ Mr)) :
    (∀ b ∈ bl Mr ++ x.F, b < w.heap.size) ∧ MOk w Min (bl Mr ++ x.F) ∧ Keep w (bl M ++ x.F) w (bl Min ++ (bl Mr ++ x.F)) := by
  have hmem := bl_sub_of_perm hM
  have hnd : (bl Min ++ bl Mr).Nodup := by rw [← bl_append]; exact (bl_perm hM).nodup_iff.1 hs.mem.nodup
  obtain ⟨hn1, hn2, hn3⟩ := List.nodup_append.1 hnd
  have hk : Keep w (bl M ++ x.F) w (bl Min ++ (bl Mr ++ x.F)) := fun b c T fr hb hc => ⟨fun h => hb (by
    simp only [List.mem_append] at h ⊢
    rw [hmem b]
    rcases h with h | h | h <;> simp [h]), hc⟩
  refine ⟨?_, ⟨hn1, ?_, ?_⟩, hk⟩
  · intro b hb
    rcases List.mem_append.1 hb with hb | hb
    · exact bl_lt hs.mem b ((hmem b).2 (.inr hb))
    · exact Nat.lt_of_lt_of_le (hs.old b hb) hs.fr.size
  · intro b hb h
    rcases List.mem_append.1 h with h | h
    · exact hn3 b hb b h rfl
    · exact hs.mem.apart b ((hmem b).2 (.inl hb)) h
  · intro m hm
    exact ME.holds_keep hk (fun _ _ => rfl) (hs.mem.holds m (hM.mem_iff.2 (List.mem_append_left _ hm)))

/-- behind a call: what was not handed over is as it was -/
theorem St.back {a : Act} {w w' : World} {Min Mr M' : List ME} (hs : St x L M a w) (hM : List.Perm M (Min ++ Mr)) (hm' : MOk w' M' (bl Mr ++ x.F)) (hf : Fr w (bl Min) w' (bl M')) :
    St x L (M' ++ Mr) a w' := by
  have hmem := bl_sub_of_perm hM
  have hnd : (bl Min ++ bl Mr).Nodup := by rw [← bl_append]; exact (bl_perm hM).nodup_iff.1 hs.mem.nodup
  obtain ⟨hn1, hn2, hn3⟩ := List.nodup_append.1 hnd
  have hk : Keep w (bl M ++ x.F) w' (bl (M' ++ Mr) ++ x.F) := by
    intro b c T fr hb hc
    have h1 := hf.block b (heap_lt hc) (fun h => hb (List.mem_append_left _ ((hmem b).2 (.inl h))))
    refine ⟨?_, by rw [h1.1]; exact hc⟩
    rw [mem4]
    intro h
    simp only [List.mem_append] at h hb
    rw [hmem b] at hb
    rcases h with h | h | h
    · exact h1.2 h
    · exact hb (.inl (.inr h))
    · exact hb (.inr h)
  have hdisj : ∀ b, b ∈ bl Mr → b ∉ bl Min ∧ b ∉ bl M' ∧ w'.heap[b]? = w.heap[b]? := by
    intro b hb
    have hni : b ∉ bl Min := fun h => hn3 b h b hb rfl
    have h1 := hf.block b (bl_lt hs.mem b ((hmem b).2 (.inr hb))) hni
    exact ⟨hni, h1.2, h1.1⟩
  refine hs.world hk ⟨?_, ?_, ?_⟩ ⟨hf.os.trans hs.fr.os, hf.tape.trans hs.fr.tape, hf.output.trans hs.fr.output, Nat.le_trans hs.fr.size hf.size, ?_⟩
  · rw [bl_append, List.nodup_append]
    exact ⟨hm'.nodup, hn2, fun b hb c hc e => (hdisj c hc).2.1 (e ▸ hb)⟩
  · intro b hb h
    rw [bl_append] at hb
    rcases List.mem_append.1 hb with hb | hb
    · exact hm'.apart b hb (List.mem_append_right _ h)
    · exact hs.mem.apart b ((hmem b).2 (.inr hb)) h
  · intro m hm
    rcases List.mem_append.1 hm with hm | hm
    · exact ME.holds_keep (fun b c T fr hb hc => ⟨fun h => hb (mem4.1 h), hc⟩) (fun _ _ => rfl) (hm'.holds m hm)
    · refine ME.holds_keep hk ?_ (hs.mem.holds m (hM.mem_iff.2 (List.mem_append_right _ hm)))
      intro b hb
      exact (hdisj b (by simp only [bl, List.mem_flatMap]; exact ⟨m, hm, hb⟩)).2.2
  · intro k hk hn
    have h1 := hs.fr.block k hk hn
    have h2 := hf.block k (Nat.lt_of_lt_of_le hk hs.fr.size) (fun h => h1.2 ((hmem k).2 (.inl h)))
    refine ⟨h2.1.trans h1.1, ?_⟩
    rw [bl_append, List.mem_append]
    rintro (h | h)
    · exact h2.2 h
    · exact h1.2 ((hmem k).2 (.inr h))

/-- A CALL IS MET BY ITS CONTRACT. x's value of a function, what was captured with it behind the arguments. -/
theorem W.callv {f : FuncId} {d : Tmp} {fo : Operand} {caps : List Value} {os : List Operand} {ats : Array TypeId} {ty : TypeId} {pos : String} {aft : Array Edge} {avs avs' : List AV} {Min Mr : List ME} {post : AV → List ME → Prop}
    (hc : FnC x.P f avs' Min post) (hfo : Ov true L fo (.lit (.func (.func f) #[] caps.toArray))) (ha : ArgsOv L os avs) (he : avs' = avs ++ caps.map .lit) (hM : List.Perm M (Min ++ Mr)) (hd : Nat.blt d x.n = true)
    (next : ∀ r M', post r M' → W x ((d, true, r) :: L) (M' ++ Mr) (wpList x.P ops Q rest)) :
    W x L M (wpList x.P ops Q (⟨some d, .call ⟨.value fo, os.toArray, ats⟩, ty, pos, aft, none⟩ :: rest)) := by
  subst he
  intro a w hs
  refine wpList_cons_want (by simp [Region.wanted]) ?_
  obtain ⟨⟨fn, hfn, hnm, hbd⟩, hcall⟩ := hc
  have hv := hfo.lit rfl hs
  have hr : (execOp a.eval ⟨some d, .call ⟨.value fo, os.toArray, ats⟩, ty, pos, aft, none⟩).run x.P w = .ok (.enter f (os.map a.eval ++ caps).toArray) w := by
    simp only [execOp, resolve, hv, Deferred.ofValue, Sem.run_bind, Sem.run_pure, Result.andThen_ok, invoke, callFunc, run_program, hfn, hnm, hbd]
    simp
  unfold Oper.wp
  rw [hr]
  obtain ⟨hF, hm0, hk0⟩ := hs.ahead hM
  have hargs := (ArgsOv.rep hs ha).append (RepT.lits (w := w) (N := bl M ++ x.F) caps)
  refine (hcall w (bl Mr ++ x.F) _ hF hm0 (RepT.keep hk0 _ _ hargs)).mono ?_
  rintro e w' ⟨v, r, M', rfl, hp, hm', hrep, hf⟩
  have hs' := hs.back hM hm' hf
  refine next r M' hp _ _ (hs'.put hd true r v (fun _ => hrep.keep ?_) (by simp))
  exact fun b c T fr hb hc => ⟨fun h => hb (mem4.1 h), hc⟩

theorem W.call {f : FuncId} {d : Tmp} {os : List Operand} {ats : Array TypeId} {ty : TypeId} {pos : String} {aft : Array Edge} {avs : List AV} {Min Mr : List ME} {post : AV → List ME → Prop}
    (hc : FnC x.P f avs Min post) (ha : ArgsOv L os avs) (hM : List.Perm M (Min ++ Mr)) (hd : Nat.blt d x.n = true)
    (next : ∀ r M', post r M' → W x ((d, true, r) :: L) (M' ++ Mr) (wpList x.P ops Q rest)) :
    W x L M (wpList x.P ops Q (⟨some d, .call ⟨.value (.func f), os.toArray, ats⟩, ty, pos, aft, none⟩ :: rest)) :=
  W.callv (caps := []) hc Ov.f ha (by simp) hM hd next

/-- A call that turns no mutable block. -/
theorem W.callp {f : FuncId} {d : Tmp} {os : List Operand} {ats : Array TypeId} {ty : TypeId} {pos : String} {aft : Array Edge} {avs : List AV} {r : AV}
    (hc : FnP x.P f avs r) (ha : ArgsOv L os avs) (hd : Nat.blt d x.n = true)
    (next : W x ((d, true, r) :: L) M (wpList x.P ops Q rest)) :
    W x L M (wpList x.P ops Q (⟨some d, .call ⟨.value (.func f), os.toArray, ats⟩, ty, pos, aft, none⟩ :: rest)) :=
  W.call (Min := []) (Mr := M) hc ha (List.Perm.refl _) hd (by rintro _ _ ⟨rfl, rfl⟩; exact next)
end calls

/-! ### The end of a body -/
section ends
variable {x : Cx} {L : List (Tmp × Bool × AV)} {M M' D : List ME} {fn : Func} {post : AV → List ME → Prop}

/-- What a result variable holds. -/
def ResOv (P : Program) (L : List (Tmp × Bool × AV)) (M : List ME) : ResultVar → AV → Prop
  | .tmp t, av => look L t = some (true, av)
  | .cell t T, av => ∃ b U cs, look L t = some (true, .lit (.pointer (some ⟨b, 0, none⟩))) ∧ ME.box b U cs ∈ M ∧ av = .agg cs ∧ (isAgg T).run P = (fun w => .ok true w) ∧ (sizeOf T).run P = (fun w => .ok cs.length w)

def ResL (P : Program) (L : List (Tmp × Bool × AV)) (M : List ME) : List ResultVar → List AV → Prop
  | [], [] => True
  | r :: rs, a :: as => ResOv P L M r a ∧ ResL P L M rs as
  | _, _ => False

theorem RepL.length {w : World} {N : List Nat} : ∀ {cs : List AV} {row : List Value}, RepL w N cs row → row.length = cs.length
  | [], row, h => by simp only [RepL] at h; subst h; rfl
  | c :: cs, row, h => by
    simp only [RepL] at h
    obtain ⟨v, vs, rfl, _, h⟩ := h
    simp [RepL.length h]

theorem cell_of {w : World} {b o : Nat} {cur : Array Value} {T : TypeId} {fr : Nat × Nat} (h : w.heap[b]? = some (.cells cur T fr)) : w.cell? ⟨b, o, none⟩ = cur[o]? := by
  simp [World.cell?, h]

theorem run_loadCellsFrom {P : Program} {w : World} {b off : Nat} {cur : Array Value} {T : TypeId} {fr : Nat × Nat} (h : w.heap[b]? = some (.cells cur T fr)) :
    ∀ (n i : Nat) (acc : Array Value), off + i + n ≤ cur.size → (loadCellsFrom ⟨b, off, none⟩ i n acc).run P w = .ok (acc ++ ((cur.toList.drop (off + i)).take n).toArray) w
  | 0, i, acc, _ => by simp [loadCellsFrom]
  | n + 1, i, acc, hl => by
    have hc : w.cell? ⟨b, off + i, none⟩ = some (cur[off + i]'(by omega)) := by rw [cell_of h]; simp
    have e : (cur.toList.drop (off + i)).take (n + 1) = cur[off + i]'(by omega) :: (cur.toList.drop (off + (i + 1))).take n := by
      have hlt : off + i < cur.toList.length := by simp; omega
      rw [List.drop_eq_getElem_cons hlt, List.take_succ_cons]
      simp [Nat.add_assoc]
    simp only [loadCellsFrom, Sem.run_bind, run_load, Addr.add_lit, hc, Result.andThen_ok]
    rw [run_loadCellsFrom h n (i + 1) _ (by omega), e]
    simp
theorem run_loadCells {P : Program} {w : World} {b off : Nat} {cur : Array Value} {T : TypeId} {fr : Nat × Nat} (h : w.heap[b]? = some (.cells cur T fr)) (n : Nat) (hl : off + n ≤ cur.size) :
    (loadCells ⟨b, off, none⟩ n).run P w = .ok ((cur.toList.drop off).take n).toArray w := by
  unfold loadCells
  rw [run_loadCellsFrom h n 0 #[] (by omega)]
  simp

/-- what 'results' asks of one result variable -/
def resOf (tmps : Array Value) : ResultVar → Sem Value
  | .tmp t => pure (tmps.getD t undef)
  | .cell a t => do loadVar t (← asAddr (tmps.getD a undef))

/-- one result is itself; several are a tuple -/
def resV : List AV → AV
  | [a] => a
  | as => .tup as

theorem results_eq (fn : Func) (tmps : Array Value) : results fn tmps = (do let vs ← fn.results.mapM (resOf tmps); pure (if h : vs.size = 1 then vs[0] else .tuple vs)) := rfl

theorem ResOv.run {a : Act} {w : World} {av : AV} {rv : ResultVar} (hs : St x L M a w) (h : ResOv x.P L M rv av) :
    ∃ v, (resOf a.tmps rv).run x.P w = .ok v w ∧ Rep w (bl M ++ x.F) av v := by
  cases rv with
  | tmp t => exact ⟨_, rfl, (hs.slots t true av h).1 rfl⟩
  | cell t T =>
    obtain ⟨b, U, cs, h1, h2, rfl, h3, h4⟩ := h
    have hp := Rep.lit_iff.1 ((hs.slots t true _ h1).1 rfl)
    obtain ⟨cur, hc, hr⟩ := hs.mem.holds _ h2
    have hlen := hr.length
    refine ⟨.agg cur, ?_, rfl, ?_⟩
    · have hld := run_loadCells (P := x.P) (off := 0) hc cs.length (by simp at hlen; omega)
      have e3 := congrFun h3 w
      have e4 := congrFun h4 w
      simp only [resOf]
      rw [hp]
      simp only [asAddr, Sem.run_bind, Sem.run_pure, Result.andThen_ok, loadVar, e3, e4, if_true, hld]
      congr 2
      simp at hlen
      rw [← hlen, List.drop_zero, List.take_of_length_le (by simp)]
    · simpa only [RepC, Value.cells] using hr

theorem results_run {a : Act} {w : World} (hs : St x L M a w) : ∀ {rs : List ResultVar} {avs : List AV}, ResL x.P L M rs avs →
    ∃ vs, (rs.mapM (resOf a.tmps)).run x.P w = .ok vs w ∧ RepT w (bl M ++ x.F) avs vs
  | [], [], _ => ⟨[], by simp, by simp [RepT]⟩
  | r :: rs, av :: avs, h => by
    obtain ⟨v, hv, hR⟩ := ResOv.run hs h.1
    obtain ⟨vs, hvs, hRs⟩ := results_run hs h.2
    exact ⟨v :: vs, by simp [List.mapM_cons, hv, hvs], by simp only [RepT]; exact ⟨v, vs, rfl, hR, hRs⟩⟩
  | [], _ :: _, h => h.elim
  | _ :: _, [], h => h.elim

theorem RepT.res {w : World} {N : List Nat} : ∀ {avs : List AV} {vs : List Value}, RepT w N avs vs → Rep w N (resV avs) (if h : vs.length = 1 then vs[0] else .tuple vs.toArray)
  | [], vs, h => by
    have h' := h
    simp only [RepT] at h
    subst h
    exact ⟨rfl, by simp only [resV, RepC]; exact ⟨#[], by simp [Value.cells], h'⟩⟩
  | [a], vs, h => by
    simp only [RepT] at h
    obtain ⟨v, vs', rfl, h1, rfl⟩ := h
    exact h1
  | a :: b :: as, vs, h => by
    have h' := h
    have hlen := h.length
    have e : (if h : vs.length = 1 then vs[0] else Value.tuple vs.toArray) = .tuple vs.toArray := by
      rw [dif_neg (by rw [hlen]; simp)]
    rw [e]
    exact ⟨rfl, by simp only [resV, RepC]; exact ⟨vs.toArray, rfl, by simpa using h'⟩⟩

theorem W.rets (e : Exit) (he : e = .ret ∨ e = .normal) {rs : List ResultVar} {avs : List AV} {r : AV} (hres : fn.results = rs.toArray) (hr : ResL x.P L M rs avs) (hr1 : r = resV avs)
    (hM : List.Perm M (M' ++ D)) (hp : post r M') : W x L M (bodyPost x.P fn (RetR x.w0 x.N0 x.F post) e) := by
  intro a w hs
  obtain ⟨vs, hvs, hRs⟩ := results_run hs hr
  have hrun : (results fn a.tmps).run x.P w = .ok (if h : vs.length = 1 then vs[0] else .tuple vs.toArray) w := by
    rw [results_eq, hres, List.mapM_toArray]
    simp [hvs]
  obtain ⟨hm, hk, hsub⟩ := hs.mem.sub hM
  have hpost : RetR x.w0 x.N0 x.F post (.returned (if h : vs.length = 1 then vs[0] else .tuple vs.toArray)) w := by
    refine ⟨_, r, M', rfl, hp, hm, Rep.keep hk ?_, hs.fr.sub hsub⟩
    subst hr1
    exact RepT.res hRs
  rcases he with rfl | rfl
  · exact ⟨hs.defers, _, hrun, hpost⟩
  · exact ⟨hs.defers, _, hrun, hpost⟩

theorem W.retn {rs : List ResultVar} {avs : List AV} {r : AV} (hres : fn.results = rs.toArray) (hr : ResL x.P L M rs avs) (hr1 : r = resV avs)
    (hM : List.Perm M (M' ++ D)) (hp : post r M') : W x L M (bodyPost x.P fn (RetR x.w0 x.N0 x.F post) .ret) := W.rets .ret (.inl rfl) hres hr hr1 hM hp
theorem W.endn {rs : List ResultVar} {avs : List AV} {r : AV} (hres : fn.results = rs.toArray) (hr : ResL x.P L M rs avs) (hr1 : r = resV avs)
    (hM : List.Perm M (M' ++ D)) (hp : post r M') : W x L M (bodyPost x.P fn (RetR x.w0 x.N0 x.F post) .normal) := W.rets .normal (.inr rfl) hres hr hr1 hM hp
end ends
end Go.Vl
