/-
  Merged: DrawE DrawM UtfLaw More Str Style Bld Tree Walk CallG Rules Drawn Emit Ref S2b Map ArrV.
-/
import Derived.Test.YtohncieijjhnjaaDoorG2
import Derived.Laws.StructEq
import Derived.Lib.Builder
import Derived.Lib.UnsafeStr
import Derived.Laws.Pointers
import Derived.Laws.Externs
import Derived.Laws.Cover3
import Derived.Lib.Bytealg
import Derived.Lib.ConvBytes
import Derived.MapKept

section
set_option linter.unusedVariables false
set_option linter.unusedSimpArgs false
set_option linter.unusedSectionVars false
namespace Go.Vl
open Go Go.Sem

/-- is operation a ahead of operation i, by the edges? -/
def ancN (ops : Array Oper) : Nat → Nat → Nat → Bool
  | 0, _, _ => false
  | n + 1, a, i => match ops[i]? with
    | none => false
    | some o => o.after.any fun e => Region.binds .any e && (Nat.beq e.on a || ancN ops n a e.on)
def anc (ops : Array Oper) (a i : Nat) : Bool := ancN ops ops.size a i
def Closed (ops : Array Oper) (e : Nat → Bool) : Prop := ∀ (j : Nat) (o : Oper), ops[j]? = some o → e j = true → ∀ ed ∈ o.after, Region.binds .any ed = true → e ed.on = true
/-- what is done (e) when operation i is next -/
structure OkE (ops : Array Oper) (e : Nat → Bool) (i : Nat) : Prop where
  closed : Closed ops e
  not : e i = false
  deps : ∀ o, ops[i]? = some o → ∀ ed ∈ o.after, Region.binds .any ed = true → e ed.on = true
theorem ancN_closed {ops : Array Oper} {e : Nat → Bool} (hc : Closed ops e) : ∀ (n a i : Nat), e i = true → ancN ops n a i = true → e a = true
  | 0, _, _, _, h => by simp [ancN] at h
  | n + 1, a, i, hi, h => by
    unfold ancN at h
    split at h
    · cases h
    · rename_i o ho
      simp only [Array.any_eq_true', Bool.and_eq_true, Bool.or_eq_true] at h
      obtain ⟨ed, hed, hb, h⟩ := h
      have h1 := hc i o ho hi ed hed hb
      rcases h with h | h
      · rw [← Nat.eq_of_beq_eq_true h]; exact h1
      · exact ancN_closed hc n a ed.on h1 h
theorem OkE.up {ops : Array Oper} {e : Nat → Bool} {i : Nat} (h : OkE ops e i) (a : Nat) (ha : anc ops a i = true) : e a = true := by
  unfold anc at ha
  cases hn : ops.size with
  | zero => rw [hn] at ha; simp [ancN] at ha
  | succ n =>
    rw [hn] at ha
    unfold ancN at ha
    split at ha
    · cases ha
    · rename_i o ho
      simp only [Array.any_eq_true', Bool.and_eq_true, Bool.or_eq_true] at ha
      obtain ⟨ed, hed, hb, ha⟩ := ha
      have h1 := h.deps o ho ed hed hb
      rcases ha with ha | ha
      · rw [← Nat.eq_of_beq_eq_true ha]; exact h1
      · exact ancN_closed h.closed n a ed.on h1 ha
theorem OkE.down {ops : Array Oper} {e : Nat → Bool} {i : Nat} (h : OkE ops e i) (s : Nat) (hs : anc ops i s = true) : e s = false := by
  cases he : e s with
  | false => rfl
  | true => have := ancN_closed h.closed _ i s he hs; rw [h.not] at this; cases this
def addE (e : Nat → Bool) (i : Nat) : Nat → Bool := fun j => if i = j then true else e j

theorem fm_congr {α β : Type} {f g : α → Option β} : ∀ (l : List α), (∀ j ∈ l, f j = g j) → l.filterMap f = l.filterMap g
  | [], _ => rfl
  | a :: l, h => by rw [List.filterMap_cons, List.filterMap_cons, h a (by simp), fm_congr l (fun j hj => h j (by simp [hj]))]
section draw
variable {x : Cx} {L : List En} {M : List ME} {Q : Exit → Act → World → Prop} {ι : Type}

/-- One step of an operation. -/
def stepE (x : Cx) (ops : Array Oper) (o : Oper) (a : Act) (w : World) (K : Act → World → Prop) : Prop :=
  ∀ Q : Exit → Act → World → Prop, if Region.wanted o (yielded ops a.tmps) then o.wp x.P a w K Q else K (a.put o.dst undef) w

def KeyOk (x : Cx) (o : Oper) (ent : ι → En) : Prop := ∀ c, match o.dst with
  | some d => (ent c).1 = d ∧ Nat.blt d x.n = true
  | none => ent c = (x.n, false, .lit undef)

def ObE (x : Cx) (ops : Array Oper) (L : List En) (Mf : (Nat → Bool) → ι → List ME) (i0 i : Nat) (o : Oper) (done : ι → List En) (ent : ι → En) : Prop :=
  ∀ e c, OkE ops e i → ∀ L' a w, (∀ t p, look (sel (o.looksAt ops) (done c ++ L)) t = some p → look L' t = some p) → St x L' (Mf e c) a w →
    stepE x ops o a w (fun a' w' => ∃ c', (i = i0 ∨ c' = c) ∧ St x (ent c' :: L') (Mf (addE e i) c') a' w')

/-- the region's operations in the text's order -/
def DE (x : Cx) (ops : Array Oper) (L : List En) (Mf : (Nat → Bool) → ι → List ME) (i0 : Nat) (R : Act → World → Prop) : Nat → List Oper → (ι → List En) → Prop
  | i, [], done => ∀ c e, (∀ j, j < i → e j = true) → W x (done c ++ L) (Mf e c) R
  | i, o :: rest, done => ∃ ent : ι → En, KeyOk x o ent ∧ (i = i0 ∨ anc ops i0 i = true ∨ ∀ c c', ent c = ent c') ∧ ObE x ops L Mf i0 i o done ent ∧ DE x ops L Mf i0 R (i + 1) rest (fun c => ent c :: done c)

theorem DE.extract {ops : Array Oper} {R : Act → World → Prop} {Mf : (Nat → Bool) → ι → List ME} {i0 : Nat} : ∀ {rest : List Oper} {k : Nat} {done : ι → List En}, DE x ops L Mf i0 R k rest done →
    ∃ ents : List (ι → En), ents.length = rest.length ∧ (∀ (i : Nat) (o : Oper), rest[i]? = some o → ∃ ent, ents[i]? = some ent ∧ KeyOk x o ent ∧ (k + i = i0 ∨ anc ops i0 (k + i) = true ∨ ∀ c c', ent c = ent c') ∧
      ObE x ops L Mf i0 (k + i) o (fun c => ((ents.take i).map (· c)).reverse ++ done c) ent) ∧ (∀ c e, (∀ j, j < k + rest.length → e j = true) → W x ((ents.map (· c)).reverse ++ (done c ++ L)) (Mf e c) R)
  | [], k, done, h => by
    have h' : ∀ c e, (∀ j, j < k → e j = true) → W x (done c ++ L) (Mf e c) R := h
    exact ⟨[], rfl, by simp, fun c e he => by simpa using h' c e (by simpa using he)⟩
  | o :: rest, k, done, h => by
    obtain ⟨ent, h1, h2, h3, h4⟩ := h
    obtain ⟨ents, e1, e2, e3⟩ := DE.extract h4
    refine ⟨ent :: ents, by simp [e1], ?_, ?_⟩
    · intro i o' ho'
      cases i with
      | zero => simp at ho'; subst ho'; exact ⟨ent, rfl, h1, h2, by simpa using h3⟩
      | succ i =>
        obtain ⟨ent', f1, f2, f3, f4⟩ := e2 i o' (by simpa using ho')
        have e : k + 1 + i = k + (i + 1) := by omega
        rw [e] at f3 f4
        exact ⟨ent', by simpa using f1, f2, f3, by simpa using f4⟩
    · intro c e he
      have := e3 c e (fun j hj => he j (by simp; omega))
      simpa using this

/-- what is asked of the operations' edges: decided by looking -/
def okDrawE (n : Nat) (ops : Array Oper) : Bool :=
  (List.range ops.size).all fun i => match ops[i]? with
    | none => false
    | some oi => oi.after.all (fun e => !(Region.binds .any e) || decide (e.on < i)) && !(oi.looksAt ops).contains n && (List.range ops.size).all fun j => match ops[j]? with
      | none => false
      | some oj => i == j || ((oi.dst != oj.dst || oj.dst.isNone) && match oj.dst with
        | none => true
        | some d => !(oi.looksAt ops).contains d || (bif j < i then oi.after.any (fun e => Region.binds .any e && e.on == j) else oj.after.any (fun e => Region.binds .any e && e.on == i)))

theorem St.ghost {a : Act} {w : World} (hs : St x L M a w) : St x ((x.n, false, .lit undef) :: L) M a w := by
  refine ⟨hs.defers, hs.size, ?_, hs.mem, hs.fr, hs.old⟩
  intro t g av hl
  rw [look_cons] at hl
  by_cases e : x.n = t
  · subst e
    rw [if_pos rfl] at hl
    cases hl
    refine ⟨fun h => (by cases h), fun _ => ?_⟩
    rw [Array.getD_eq_getD_getElem?, Array.getElem?_eq_none (by rw [hs.size]; omega)]
    rfl
  · rw [if_neg e] at hl
    exact hs.slots t g av hl
theorem W.drawnE {id : Nat} {l : List Oper} (Mf : (Nat → Bool) → ι → List ME) (i0 : Nat) (c0 : ι) (hm : x.P.follows .mixedOrders = true) (hok : okDrawE x.n l.toArray = true) (hM0 : M = Mf (fun _ => false) c0) (h : DE x l.toArray L Mf i0 (Q .normal) 0 l (fun _ => [])) : W x L M (Code.wp x.P (.region id l.toArray true) Q) := by
  subst hM0
  intro a w hs
  obtain ⟨ents, hlen, hes, hW⟩ := h.extract
  simp only [List.append_nil, Nat.zero_add, List.nil_append] at hes hW
  -- the edges, in words
  have hok' : ∀ (i : Nat) (oi : Oper), l[i]? = some oi → ((∀ e ∈ oi.after, Region.binds .any e = true → e.on < i) ∧ x.n ∉ oi.looksAt l.toArray) ∧ ∀ (j : Nat) (oj : Oper), l[j]? = some oj → i ≠ j → (oi.dst ≠ oj.dst ∨ oj.dst = none) ∧ ∀ d, oj.dst = some d → d ∈ oi.looksAt l.toArray →
      (j < i ∧ ∃ e ∈ oi.after, Region.binds .any e = true ∧ e.on = j) ∨ (i < j ∧ ∃ e ∈ oj.after, Region.binds .any e = true ∧ e.on = i) := by
    intro i oi hi
    have hil : i < l.length := by
      rcases Nat.lt_or_ge i l.length with h' | h'
      · exact h'
      · rw [List.getElem?_eq_none h'] at hi; cases hi
    simp only [okDrawE, List.size_toArray, List.all_eq_true, List.mem_range] at hok
    have h1 := hok i hil
    rw [List.getElem?_toArray, hi] at h1
    simp only [Bool.and_eq_true, Array.all_eq_true', List.all_eq_true, List.mem_range, decide_eq_true_eq, Bool.not_eq_true', List.contains_eq_mem, decide_eq_false_iff_not] at h1
    refine ⟨⟨fun e he hb => by
      have h9 := h1.1.1 e he
      rw [hb] at h9
      simpa using h9, h1.1.2⟩, fun j oj hj hne => ?_⟩
    have hjl : j < l.length := by
      rcases Nat.lt_or_ge j l.length with h' | h'
      · exact h'
      · rw [List.getElem?_eq_none h'] at hj; cases hj
    have h2 := h1.2 j hjl
    rw [List.getElem?_toArray, hj] at h2
    simp only [Bool.or_eq_true, beq_iff_eq, hne, false_or, Bool.and_eq_true, bne_iff_ne, Option.isNone_iff_eq_none] at h2
    refine ⟨h2.1, fun d hd hdl => ?_⟩
    have h3 := h2.2
    rw [hd] at h3
    simp only [Bool.or_eq_true, Bool.not_eq_true', List.contains_eq_mem, decide_eq_false_iff_not, hdl, not_true_eq_false, false_or] at h3
    by_cases hji : j < i
    · left
      simp only [hji, decide_true, cond_true, Array.any_eq_true', Bool.and_eq_true, beq_iff_eq] at h3
      obtain ⟨e, he, hb, ho⟩ := h3
      exact ⟨hji, e, he, hb, ho⟩
    · right
      simp only [hji, decide_false, cond_false, Array.any_eq_true', Bool.and_eq_true, beq_iff_eq] at h3
      obtain ⟨e, he, hb, ho⟩ := h3
      exact ⟨by omega, e, he, hb, ho⟩
  have hkd : ∀ (i : Nat) (ent : ι → En), ents[i]? = some ent → ∃ oi : Oper, l[i]? = some oi ∧ KeyOk x oi ent := by
    intro i e he
    have hil : i < l.length := by
      rcases Nat.lt_or_ge i ents.length with h' | h'
      · omega
      · rw [List.getElem?_eq_none h'] at he; cases he
    obtain ⟨ent, h1, h2, _⟩ := hes i l[i] (List.getElem?_eq_getElem hil)
    rw [he] at h1
    cases h1
    exact ⟨l[i], List.getElem?_eq_getElem hil, h2⟩
  let es : ι → List En := fun c => ents.map (· c)
  have hesl : ∀ c, (es c).length = ents.length := fun c => List.length_map ..
  have hesi : ∀ (c : ι) (i : Nat) (e : En), (es c)[i]? = some e → ∃ ent, ents[i]? = some ent ∧ ent c = e := by
    intro c i e he
    rw [List.getElem?_map] at he
    cases hx : ents[i]? with
    | none => rw [hx] at he; cases he
    | some ent => rw [hx] at he; cases he; exact ⟨ent, rfl, rfl⟩
  have hesm : ∀ (c : ι) (i : Nat) (ent : ι → En), ents[i]? = some ent → (es c)[i]? = some (ent c) := by
    intro c i ent he
    rw [List.getElem?_map, he]; rfl
  have hget : ∀ (c : ι) (i : Nat) (e : En), (es c)[i]? = some e → ∃ oi : Oper, l[i]? = some oi ∧ (oi.dst = some e.1 ∨ (oi.dst = none ∧ e.1 = x.n)) := by
    intro c i e he
    obtain ⟨ent, h1, rfl⟩ := hesi c i e he
    obtain ⟨oi, h2, h3⟩ := hkd i ent h1
    refine ⟨oi, h2, ?_⟩
    have h4 := h3 c
    cases hd : oi.dst with
    | none => rw [hd] at h4; exact .inr ⟨rfl, by rw [show ent c = (x.n, false, .lit undef) from h4]⟩
    | some d => rw [hd] at h4; exact .inl (by rw [h4.1])
  have hkey : ∀ (c : ι) (i j : Nat) (e e' : En), (es c)[i]? = some e → (es c)[j]? = some e' → e.1 = e'.1 → e = e' := by
    intro c i j e e' hi hj he
    by_cases hne : i = j
    · subst hne; rw [hi] at hj; cases hj; rfl
    · skip
      obtain ⟨enti, hi1, rfl⟩ := hesi c i e hi
      obtain ⟨entj, hj1, rfl⟩ := hesi c j e' hj
      obtain ⟨oi, h1, h2⟩ := hkd i enti hi1
      obtain ⟨oj, h3, h4⟩ := hkd j entj hj1
      have hn := ((hok' i oi h1).2 j oj h3 hne).1
      have h5 := h2 c
      have h6 := h4 c
      cases hd : oi.dst with
      | none =>
        cases hd' : oj.dst with
        | none =>
          rw [hd] at h5
          rw [hd'] at h6
          exact (show enti c = _ from h5).trans (show entj c = _ from h6).symm
        | some d' =>
          exfalso
          rw [hd] at h5
          rw [hd'] at h6
          replace h5 : (enti c).1 = x.n := by rw [show enti c = (x.n, false, .lit undef) from h5]
          have : d' < x.n := by simpa [Nat.blt_eq] using h6.2
          have e1 : d' = x.n := by rw [← h6.1, ← he, h5]
          rw [e1] at this; exact Nat.lt_irrefl _ this
      | some d =>
        exfalso
        cases hd' : oj.dst with
        | none =>
          rw [hd] at h5
          rw [hd'] at h6
          replace h6 : (entj c).1 = x.n := by rw [show entj c = (x.n, false, .lit undef) from h6]
          have : d < x.n := by simpa [Nat.blt_eq] using h5.2
          have e1 : d = x.n := by rw [← h5.1, he, h6]
          rw [e1] at this; exact Nat.lt_irrefl _ this
        | some d' =>
          rw [hd] at h5
          rw [hd'] at h6
          rcases hn with hn | hn
          · exact hn (by rw [hd, hd', ← h5.1, ← h6.1, he])
          · rw [hd'] at hn; cases hn
  have hdist : ∀ (c : ι) listed, ∀ e ∈ esOf (es c) listed, ∀ e' ∈ esOf (es c) listed, e.1 = e'.1 → e = e' := by
    intro c listed e he e' he' hk
    obtain ⟨i, _, hi⟩ := mem_esOf.1 he
    obtain ⟨j, _, hj⟩ := mem_esOf.1 he'
    exact hkey c i j e e' hi hj hk
  refine wp_region_any hm ?_
  have key : ∀ (fuel : Nat) (listed : Array Bool) (a : Act) (w : World), listed.size = l.length → (∀ (i : Nat) (o : Oper), l[i]? = some o → listed.getD i false = true → ∀ e ∈ o.after, Region.binds .any e = true → listed.getD e.on false = true) →
      (∃ c, St x (esOf (es c) listed ++ L) (Mf (fun j => listed.getD j false) c) a w) → (fuel = 0 → ∀ i, i < l.length → listed.getD i false = true) → (listed.toList.filter (!·)).length ≤ fuel → wpAny x.P .any l.toArray Q fuel listed a w := by
    intro fuel
    have hdone : ∀ (listed : Array Bool) (a : Act) (w : World), listed.size = l.length → (∃ c, St x (esOf (es c) listed ++ L) (Mf (fun j => listed.getD j false) c) a w) → Region.ready .any l.toArray listed = [] → Q .normal a w := by
      rintro listed a w hsz ⟨c, hs⟩ hr
      have hall : ∀ i, i < l.length → listed.getD i false = true := by
        intro i
        induction i using Nat.strongRecOn with
        | _ i ih =>
          intro hi
          cases hli : listed.getD i false with
          | true => rfl
          | false =>
            exfalso
            have : i ∈ Region.ready .any l.toArray listed := by
              simp only [Region.ready, List.mem_filter, List.mem_range, List.size_toArray, Bool.and_eq_true]
              refine ⟨hi, ?_, ?_⟩
              · have : listed.getD i true = false := by
                  rw [Array.getD_eq_getD_getElem?, Array.getElem?_eq_getElem (by omega)] at hli ⊢
                  simpa using hli
                simp [this]
              · rw [List.getElem?_toArray, List.getElem?_eq_getElem hi]
                simp only [Option.map_some, Option.getD_some, Array.all_eq_true', Bool.or_eq_true, Bool.not_eq_true']
                intro e he
                cases hb : Region.binds .any e with
                | false => exact .inl rfl
                | true =>
                  have hlt := (hok' i l[i] (List.getElem?_eq_getElem hi)).1.1 e he hb
                  exact .inr (ih e.on hlt (by omega))
            rw [hr] at this
            cases this
      refine hW c _ (fun j hj => hall j (by simpa using hj)) a w (hs.look ?_)
      intro t p hl
      rw [look_append] at hl ⊢
      by_cases hk : ∃ e ∈ es c, e.1 = t
      · obtain ⟨e, he, rfl⟩ := hk
        obtain ⟨i, hi, hie⟩ := List.getElem_of_mem he
        have hie' : (es c)[i]? = some e := by rw [List.getElem?_eq_getElem hi, hie]
        have h1 : look (es c).reverse e.1 = some e.2 := look_mem (List.mem_reverse.2 he) (by
          intro e1 he1 e2 he2 hk
          obtain ⟨i1, hi1, hie1⟩ := List.getElem_of_mem (List.mem_reverse.1 he1)
          obtain ⟨i2, hi2, hie2⟩ := List.getElem_of_mem (List.mem_reverse.1 he2)
          exact hkey c i1 i2 e1 e2 (by rw [List.getElem?_eq_getElem hi1, hie1]) (by rw [List.getElem?_eq_getElem hi2, hie2]) hk)
        have h2 : look (esOf (es c) listed) e.1 = some e.2 := look_mem (mem_esOf.2 ⟨i, hall i (by have := hesl c; omega), hie'⟩) (hdist c listed)
        rw [h1] at hl
        rw [h2]
        simpa using hl
      · have h1 : look (es c).reverse t = none := look_none (fun e he h => hk ⟨e, List.mem_reverse.1 he, h⟩)
        rw [h1, Option.none_or] at hl
        have h2 : look (esOf (es c) listed) t = none := look_none (fun e he h => by
          obtain ⟨i, _, hi⟩ := mem_esOf.1 he
          exact hk ⟨e, List.mem_of_getElem? hi, h⟩)
        rw [h2, Option.none_or]
        exact hl
    induction fuel with
    | zero =>
      intro listed a w hsz hcl hs h0 _
      have hall := h0 rfl
      have hr : Region.ready .any l.toArray listed = [] := by
        apply List.eq_nil_iff_forall_not_mem.2
        intro i hi
        simp only [Region.ready, List.mem_filter, List.mem_range, List.size_toArray, Bool.and_eq_true, Bool.not_eq_true'] at hi
        have h1 := hall i hi.1
        have h2 := hi.2.1
        rw [Array.getD_eq_getD_getElem?, Array.getElem?_eq_getElem (by omega)] at h1 h2
        simp at h1 h2
        rw [h1] at h2
        cases h2
      exact ⟨hr, hdone listed a w hsz hs hr⟩
    | succ fuel ih =>
      rintro listed a w hsz hcl ⟨c, hs⟩ _ hcount
      refine ⟨hdone listed a w hsz ⟨c, hs⟩, fun i hi => ?_⟩
      simp only [Region.ready, List.mem_filter, List.mem_range, List.size_toArray, Bool.and_eq_true, Bool.not_eq_true'] at hi
      obtain ⟨hil, hnl, hdeps⟩ := hi
      have hnl' : listed.getD i false = false := by
        rw [Array.getD_eq_getD_getElem?, Array.getElem?_eq_getElem (by omega)] at hnl ⊢
        simpa using hnl
      have hoi : l[i]? = some l[i] := List.getElem?_eq_getElem hil
      generalize l[i] = oi at hoi
      obtain ⟨ent, he, hko, hdep, hob⟩ := hes i oi hoi
      have hce := hesm c i ent he
      rw [List.getElem?_toArray, hoi] at hdeps
      simp only [Option.map_some, Option.getD_some, Array.all_eq_true', Bool.or_eq_true, Bool.not_eq_true'] at hdeps
      have hdeps' : ∀ e ∈ oi.after, Region.binds .any e = true → listed.getD e.on false = true := by
        intro e he hb
        rcases hdeps e he with h' | h'
        · rw [hb] at h'; cases h'
        · exact h'
      -- what the operation looks at is known
      have hsee : ∀ t p, look (sel (oi.looksAt l.toArray) (((ents.take i).map (· c)).reverse ++ L)) t = some p → look (esOf (es c) listed ++ L) t = some p := by
        intro t p hl
        rw [look_sel] at hl
        split at hl
        · rename_i ht
          rw [look_append] at hl ⊢
          by_cases hk : ∃ j e, j < i ∧ (es c)[j]? = some e ∧ e.1 = t
          · obtain ⟨j, e, hji, hje, rfl⟩ := hk
            obtain ⟨oj, hoj, hdj⟩ := hget c j e hje
            replace hdj : oj.dst = some e.1 := by
              rcases hdj with h | ⟨_, h⟩
              · exact h
              · rw [h] at ht; exact absurd ht (hok' i oi hoi).1.2
            have hl1 : listed.getD j false = true := by
              rcases ((hok' i oi hoi).2 j oj hoj (by omega)).2 e.1 hdj ht with ⟨_, ed, hed, hb, ho⟩ | ⟨h', _⟩
              · rw [← ho]; exact hdeps' ed hed hb
              · omega
            have h1 : look ((ents.take i).map (· c)).reverse e.1 = some e.2 := look_mem (List.mem_reverse.2 (by rw [List.map_take]; exact List.mem_of_getElem? (i := j) (by rw [List.getElem?_take, if_pos hji]; exact hje))) (by
              intro e1 he1 e2 he2 hk
              obtain ⟨i1, hi1, hie1⟩ := List.getElem_of_mem (l := es c) (by have := List.mem_reverse.1 he1; rw [List.map_take] at this; exact List.mem_of_mem_take this)
              obtain ⟨i2, hi2, hie2⟩ := List.getElem_of_mem (l := es c) (by have := List.mem_reverse.1 he2; rw [List.map_take] at this; exact List.mem_of_mem_take this)
              exact hkey c i1 i2 e1 e2 (by rw [List.getElem?_eq_getElem hi1, hie1]) (by rw [List.getElem?_eq_getElem hi2, hie2]) hk)
            have h2 : look (esOf (es c) listed) e.1 = some e.2 := look_mem (mem_esOf.2 ⟨j, hl1, hje⟩) (hdist c listed)
            rw [h1] at hl
            rw [h2]
            simpa using hl
          · have h1 : look ((ents.take i).map (· c)).reverse t = none := look_none (fun e he h => by
              have he' := List.mem_reverse.1 he
              rw [List.map_take] at he'
              obtain ⟨j, hj, hje⟩ := List.getElem_of_mem he'
              rw [List.length_take] at hj
              refine hk ⟨j, e, by omega, ?_, h⟩
              rw [← hje, List.getElem_take]
              exact List.getElem?_eq_getElem _)
            rw [h1, Option.none_or] at hl
            have h2 : look (esOf (es c) listed) t = none := look_none (fun e he h => by
              obtain ⟨j, hlj, hje⟩ := mem_esOf.1 he
              obtain ⟨oj, hoj, hdj⟩ := hget c j e hje
              replace hdj : oj.dst = some e.1 := by
                rcases hdj with h' | ⟨_, h'⟩
                · exact h'
                · rw [← h, h'] at ht; exact absurd ht (hok' i oi hoi).1.2
              have hji : ¬ j < i := fun h' => hk ⟨j, e, h', hje, h⟩
              by_cases hij : i = j
              · subst hij; rw [hnl'] at hlj; cases hlj
              · rcases ((hok' i oi hoi).2 j oj hoj hij).2 e.1 hdj (h ▸ ht) with ⟨h', _⟩ | ⟨_, ed, hed, hb, ho⟩
                · exact hji h'
                · have := hcl j oj hoj hlj ed hed hb
                  rw [ho, hnl'] at this
                  cases this)
            rw [h2, Option.none_or]
            exact hl
        · cases hl
      -- behind it
      have hnext : ∀ a' w', (∃ c', (i = i0 ∨ c' = c) ∧ St x (ent c' :: (esOf (es c) listed ++ L)) (Mf (addE (fun j => listed.getD j false) i) c') a' w') → wpAny x.P .any l.toArray Q fuel (listed.setIfInBounds i true) a' w' := by
        rintro a' w' ⟨c', hcc, hst⟩
        have hset : ∀ j, (listed.setIfInBounds i true).getD j false = if i = j then true else listed.getD j false := by
          intro j
          rw [Array.getD_eq_getD_getElem?, Array.getD_eq_getD_getElem?, Array.getElem?_setIfInBounds]
          by_cases e : i = j
          · subst e; simp [hsz, hil]
          · simp [e]
        have hcnt : ((listed.setIfInBounds i true).toList.filter (!·)).length < (listed.toList.filter (!·)).length := by
          rw [Array.toList_setIfInBounds]
          have hlt : i < listed.toList.length := by simp [hsz]; exact hil
          have hv : listed.toList[i] = false := by
            rw [Array.getD_eq_getD_getElem?, Array.getElem?_eq_getElem (by omega)] at hnl'
            simpa using hnl'
          exact count_set _ i hlt hv
        have hMe : Mf (addE (fun j => listed.getD j false) i) c' = Mf (fun j => (listed.setIfInBounds i true).getD j false) c' := by
          congr 1
          funext j
          rw [hset]
          unfold addE
          rfl
        rw [hMe] at hst
        have hsame : ∀ j, listed.getD j false = true → (es c)[j]? = (es c')[j]? := by
          intro j hlj
          rcases hcc with hcc | hcc
          · cases hx : ents[j]? with
            | none => show (ents.map (· c))[j]? = (ents.map (· c'))[j]?; rw [List.getElem?_map, List.getElem?_map, hx]; rfl
            | some entj =>
              obtain ⟨oj, hoj, _⟩ := hkd j entj hx
              obtain ⟨entj', hx', _, hd', _⟩ := hes j oj hoj
              rw [hx] at hx'; cases hx'
              rw [hesm c j entj hx, hesm c' j entj hx]
              rcases hd' with h' | h' | h'
              · exfalso; rw [h', ← hcc, hnl'] at hlj; cases hlj
              · exfalso
                have := ancN_closed (ops := l.toArray) (e := fun j => listed.getD j false) (fun j o ho hj ed hed hb => hcl j o (by simpa using ho) hj ed hed hb) _ i0 j hlj h'
                rw [← hcc, hnl'] at this; cases this
              · rw [h' c c']
          · rw [hcc]
        have hesE : esOf (es c) listed = esOf (es c') listed := by
          unfold esOf
          rw [hesl, hesl]
          refine fm_congr _ ?_
          intro j hj
          exact hsame j (by simpa using (List.mem_filter.1 hj).2)
        rw [hesE] at hst
        have he' := hesm c' i ent he
        refine ih _ a' w' (by simpa using hsz) ?_ ⟨c', hst.look ?_⟩ ?_ (by omega)
        · intro j o ho hlj e he hb
          rw [hset] at hlj ⊢
          split
          · rfl
          · split at hlj
            · rename_i hij; subst hij; rw [hoi] at ho; cases ho; exact hdeps' e he hb
            · exact hcl j o ho hlj e he hb
        · intro t p hl
          rw [look_append] at hl
          rw [show ent c' = ((ent c').1, (ent c').2) from rfl, look_cons]
          by_cases hdt : (ent c').1 = t
          · subst hdt
            rw [if_pos rfl]
            have h2 : look (esOf (es c') (listed.setIfInBounds i true)) (ent c').1 = some (ent c').2 := look_mem (mem_esOf.2 ⟨i, by rw [hset, if_pos rfl], he'⟩) (hdist c' _)
            rw [h2] at hl
            simpa using hl
          · rw [if_neg hdt, look_append]
            by_cases hk : ∃ e ∈ esOf (es c') listed, e.1 = t
            · obtain ⟨e, hee, rfl⟩ := hk
              obtain ⟨j, hlj, hje⟩ := mem_esOf.1 hee
              have h2 : look (esOf (es c') (listed.setIfInBounds i true)) e.1 = some e.2 := look_mem (mem_esOf.2 ⟨j, by rw [hset, hlj, ite_self], hje⟩) (hdist c' _)
              have h3 : look (esOf (es c') listed) e.1 = some e.2 := look_mem hee (hdist c' _)
              rw [h2] at hl
              rw [h3]
              exact hl
            · have h2 : look (esOf (es c') (listed.setIfInBounds i true)) t = none := look_none (fun e hee h => by
                obtain ⟨j, hlj, hje⟩ := mem_esOf.1 hee
                rw [hset] at hlj
                split at hlj
                · rename_i hij; subst hij; rw [he'] at hje; cases hje; exact hdt h
                · exact hk ⟨e, mem_esOf.2 ⟨j, hlj, hje⟩, h⟩)
              have h3 : look (esOf (es c') listed) t = none := look_none (fun e hee h => hk ⟨e, hee, h⟩)
              rw [h2, Option.none_or] at hl
              rw [h3, Option.none_or]
              exact hl
        · intro hf j hj
          rw [hset]
          split
          · rfl
          · rename_i hij
            subst hf
            cases hlj : listed.getD j false with
            | true => rfl
            | false =>
              exfalso
              have hz : ((listed.setIfInBounds i true).toList.filter (!·)).length = 0 := by omega
              have hz' := List.eq_nil_of_length_eq_zero hz
              have : false ∈ (listed.setIfInBounds i true).toList.filter (!·) := by
                rw [List.mem_filter]
                refine ⟨?_, rfl⟩
                have h5 := hset j
                rw [if_neg hij, hlj, Array.getD_eq_getD_getElem?, Array.getElem?_eq_getElem (by simp; omega)] at h5
                simp only [Option.getD_some] at h5
                rw [← h5]
                exact Array.mem_toList_iff.2 (Array.getElem_mem _)
              rw [hz'] at this
              cases this
      -- the operation itself
      have hst := hob (fun j => listed.getD j false) c ⟨fun j o ho hj ed hed hb => hcl j o (by simpa using ho) hj ed hed hb, hnl', fun o ho ed hed hb => by rw [List.getElem?_toArray, hoi] at ho; cases ho; exact hdeps' ed hed hb⟩ _ a w hsee hs Q
      unfold wpOp
      rw [List.getElem?_toArray, hoi]
      simp only
      split
      · rename_i hw
        rw [if_pos hw] at hst
        exact .inl (Oper.wp_mono hnext hst)
      · rename_i hw
        rw [if_neg hw] at hst
        exact hnext _ _ hst
  refine key _ _ _ _ (by simp) ?_ ?_ ?_ ?_
  · intro i o ho hl
    exfalso
    rw [Array.getD_eq_getD_getElem?] at hl
    rcases Nat.lt_or_ge i l.length with h' | h'
    · simp [h'] at hl
    · simp [h'] at hl
  · refine ⟨c0, ?_⟩
    have : esOf (es c0) (Array.replicate l.toArray.size false) = [] := by
      apply List.eq_nil_iff_forall_not_mem.2
      intro e he
      obtain ⟨i, hi, _⟩ := mem_esOf.1 he
      rw [Array.getD_eq_getD_getElem?] at hi
      rcases Nat.lt_or_ge i l.length with h' | h'
      · simp [h'] at hi
      · simp [h'] at hi
    have hfe : (fun j => (Array.replicate l.toArray.size false).getD j false) = fun _ => false := by
      funext j
      rw [Array.getD_eq_getD_getElem?]
      rcases Nat.lt_or_ge j l.length with h' | h'
      · simp [h']
      · simp [h']
    rw [this, List.nil_append, hfe]
    exact hs.same rfl rfl rfl rfl
  · intro h0 i hi
    simp at h0
    subst h0
    simp at hi
  · simp


/-! ### what such a region's operations are met by -/
section rules
variable {ops : Array Oper} {R : Act → World → Prop} {rest : List Oper} {done : ι → List En} {ty : TypeId} {pos : String} {aft : Array Edge} {Mf : (Nat → Bool) → ι → List ME} {i0 i : Nat}

theorem ObE.pure {o : Oper} {d : Tmp} {G : Bool} {av : ι → AV} (hd : o.dst = some d) (hdn : Nat.blt d x.n = true) (hG : ∀ c, Gd ops (sel (o.looksAt ops) (done c ++ L)) o G)
    (hsv : ∀ e c, OkE ops e i → G = true → Sv x (sel (o.looksAt ops) (done c ++ L)) (Mf e c) o (av c)) (hMf : ∀ e c, Mf (addE e i) c = Mf e c) : ObE x ops L Mf i0 i o done (fun c => (d, G, av c)) := by
  intro e c hk L' a w hsub hs Q
  have hs0 := hs.look hsub
  have hw : Region.wanted o (yielded ops a.tmps) = G := by
    rcases hG c with ⟨h1, h2⟩ | ⟨j, want, t, gb, b, h1, h2, h3, h4⟩
    · rw [Region.wanted, h1, h2]
    · obtain ⟨dst, op, ty', pos', aft', gu⟩ := o
      simp only at h1
      subst h1
      rw [guard_of (want := want) h2 h3 hs0, h4]
  rw [hw]
  cases hG' : G with
  | true =>
    rw [if_pos rfl]
    refine hsv e c hk hG' a w hs0 _ _ ?_
    intro v w' hK hmm hf hr
    rw [hd]
    refine ⟨c, .inr rfl, ?_⟩
    rw [hMf]
    exact (hs.world hK hmm hf).put hdn true (av c) v (fun _ => hr) (by simp)
  | false =>
    rw [if_neg (by simp), hd]
    refine ⟨c, .inr rfl, ?_⟩
    rw [hMf]
    exact hs.put hdn false (av c) undef (by simp) (fun _ => rfl)

theorem DE.nil (h : ∀ c e, (∀ j, j < i → e j = true) → W x (done c ++ L) (Mf e c) R) : DE x ops L Mf i0 R i [] done := h
theorem DE.pure {o : Oper} {d : Tmp} {G : Bool} {av : ι → AV} (hd : o.dst = some d) (hdn : Nat.blt d x.n = true) (hG : ∀ c, Gd ops (sel (o.looksAt ops) (done c ++ L)) o G)
    (hsv : ∀ e c, OkE ops e i → G = true → Sv x (sel (o.looksAt ops) (done c ++ L)) (Mf e c) o (av c)) (hMf : ∀ e c, Mf (addE e i) c = Mf e c) (hi : anc ops i0 i = true ∨ ∀ c c', av c = av c')
    (next : DE x ops L Mf i0 R (i + 1) rest (fun c => (d, G, av c) :: done c)) : DE x ops L Mf i0 R i (o :: rest) done := by
  refine ⟨fun c => (d, G, av c), ?_, .inr ?_, ObE.pure hd hdn hG hsv hMf, next⟩
  · intro c
    rw [hd]
    exact ⟨rfl, hdn⟩
  · rcases hi with h | h
    · exact .inl h
    · exact .inr fun c c' => congrArg (fun a => (d, G, a)) (h c c')
theorem DE.q {d : Tmp} {op : Op} {av : ι → AV} (he : ∀ e c, OkE ops e i → Ev x true (sel (Oper.looksAt ops ⟨some d, op, ty, pos, aft, none⟩) (done c ++ L)) (Mf e c) op ty (av c)) (hdn : Nat.blt d x.n = true)
    (hMf : ∀ e c, Mf (addE e i) c = Mf e c) (hi : anc ops i0 i = true ∨ ∀ c c', av c = av c') (next : DE x ops L Mf i0 R (i + 1) rest (fun c => (d, true, av c) :: done c)) :
    DE x ops L Mf i0 R i (⟨some d, op, ty, pos, aft, none⟩ :: rest) done := DE.pure rfl hdn (fun _ => .inl ⟨rfl, rfl⟩) (fun e c hk _ => Sv.ev (he e c hk)) hMf hi next
theorem DE.qg {d : Tmp} {op : Op} {av : ι → AV} {j : Nat} {t : Tmp} {gb b want : Bool} (hj : (ops[j]?).bind (·.dst) = some t) (hl : ∀ c, Vl.look (sel (Oper.looksAt ops ⟨some d, op, ty, pos, aft, some (j, want)⟩) (done c ++ L)) t = some (gb, .lit (.bool b)))
    (he : ∀ e c, OkE ops e i → Ev x (gb && (b == want)) (sel (Oper.looksAt ops ⟨some d, op, ty, pos, aft, some (j, want)⟩) (done c ++ L)) (Mf e c) op ty (av c)) (hdn : Nat.blt d x.n = true)
    (hMf : ∀ e c, Mf (addE e i) c = Mf e c) (hi : anc ops i0 i = true ∨ ∀ c c', av c = av c') (next : DE x ops L Mf i0 R (i + 1) rest (fun c => (d, gb && (b == want), av c) :: done c)) :
    DE x ops L Mf i0 R i (⟨some d, op, ty, pos, aft, some (j, want)⟩ :: rest) done := DE.pure rfl hdn (fun c => .inr ⟨j, want, t, gb, b, rfl, hj, hl c, rfl⟩) (fun e c hk hb => Sv.ev ((he e c hk).strip hb)) hMf hi next
theorem DE.callp {f : FuncId} {d : Tmp} {os : List Operand} {ats : Array TypeId} {avs : ι → List AV} {r : ι → AV} (hc : ∀ c, FnP x.P f (avs c) (r c)) (ha : ∀ c, ArgsOv (sel (Oper.looksAt ops ⟨some d, .call ⟨.value (.func f), os.toArray, ats⟩, ty, pos, aft, none⟩) (done c ++ L)) os (avs c)) (hdn : Nat.blt d x.n = true)
    (hMf : ∀ e c, Mf (addE e i) c = Mf e c) (hi : anc ops i0 i = true ∨ ∀ c c', r c = r c') (next : DE x ops L Mf i0 R (i + 1) rest (fun c => (d, true, r c) :: done c)) :
    DE x ops L Mf i0 R i (⟨some d, .call ⟨.value (.func f), os.toArray, ats⟩, ty, pos, aft, none⟩ :: rest) done := DE.pure rfl hdn (fun _ => .inl ⟨rfl, rfl⟩) (fun e c _ _ => Sv.callp (hc c) (ha c)) hMf hi next
theorem DE.callg {f : FuncId} {d : Tmp} {os : List Operand} {ats : Array TypeId} {avs : ι → List AV} {r : ι → AV} {j : Nat} {t : Tmp} {gb b want : Bool} (hj : (ops[j]?).bind (·.dst) = some t)
    (hl : ∀ c, Vl.look (sel (Oper.looksAt ops ⟨some d, .call ⟨.value (.func f), os.toArray, ats⟩, ty, pos, aft, some (j, want)⟩) (done c ++ L)) t = some (gb, .lit (.bool b)))
    (hc : ∀ c, (gb && (b == want)) = true → FnP x.P f (avs c) (r c)) (ha : ∀ c, (gb && (b == want)) = true → ArgsOv (sel (Oper.looksAt ops ⟨some d, .call ⟨.value (.func f), os.toArray, ats⟩, ty, pos, aft, some (j, want)⟩) (done c ++ L)) os (avs c)) (hdn : Nat.blt d x.n = true)
    (hMf : ∀ e c, Mf (addE e i) c = Mf e c) (hi : anc ops i0 i = true ∨ ∀ c c', r c = r c') (next : DE x ops L Mf i0 R (i + 1) rest (fun c => (d, gb && (b == want), r c) :: done c)) :
    DE x ops L Mf i0 R i (⟨some d, .call ⟨.value (.func f), os.toArray, ats⟩, ty, pos, aft, some (j, want)⟩ :: rest) done :=
  DE.pure rfl hdn (fun c => .inr ⟨j, want, t, gb, b, rfl, hj, hl c, rfl⟩) (fun e c _ hb => Sv.callp (hc c hb) (ha c hb)) hMf hi next
theorem DE.bs {d : Tmp} {T E k bytes n : Nat} {z : Value} {ps : List (Nat × Operand)} {es : ι → List AV} (hT : x.P.underlying T = some (.slice E)) (hE : Ty x.P E k bytes z)
    (hp : ∀ c, PartsOv (sel (Oper.looksAt ops ⟨some d, .buildSlice T n ps.toArray, ty, pos, aft, none⟩) (done c ++ L)) k 0 ps (es c)) (hn : ∀ c, n = (es c).length) (hb : n * k ≤ 16777216) (hk1 : Nat.ble 1 k = true) (hdn : Nat.blt d x.n = true)
    (hMf : ∀ e c, Mf (addE e i) c = Mf e c) (hi : anc ops i0 i = true ∨ ∀ c c', es c = es c') (next : DE x ops L Mf i0 R (i + 1) rest (fun c => (d, true, .sl k (es c)) :: done c)) : DE x ops L Mf i0 R i (⟨some d, .buildSlice T n ps.toArray, ty, pos, aft, none⟩ :: rest) done :=
  DE.pure rfl hdn (fun _ => .inl ⟨rfl, rfl⟩) (fun e c _ _ => Sv.bs hT hE (hp c) (hn c) hb hk1) hMf (hi.imp id fun h c c' => by rw [h c c']) next
theorem DE.bsg {d : Tmp} {T E k bytes n : Nat} {z : Value} {ps : List (Nat × Operand)} {es : ι → List AV} {j : Nat} {t : Tmp} {gb b want : Bool} (hj : (ops[j]?).bind (·.dst) = some t)
    (hl : ∀ c, Vl.look (sel (Oper.looksAt ops ⟨some d, .buildSlice T n ps.toArray, ty, pos, aft, some (j, want)⟩) (done c ++ L)) t = some (gb, .lit (.bool b))) (hT : x.P.underlying T = some (.slice E)) (hE : Ty x.P E k bytes z)
    (hp : ∀ c, (gb && (b == want)) = true → PartsOv (sel (Oper.looksAt ops ⟨some d, .buildSlice T n ps.toArray, ty, pos, aft, some (j, want)⟩) (done c ++ L)) k 0 ps (es c)) (hn : ∀ c, n = (es c).length) (hb : n * k ≤ 16777216) (hk1 : Nat.ble 1 k = true) (hdn : Nat.blt d x.n = true)
    (hMf : ∀ e c, Mf (addE e i) c = Mf e c) (hi : anc ops i0 i = true ∨ ∀ c c', es c = es c') (next : DE x ops L Mf i0 R (i + 1) rest (fun c => (d, gb && (b == want), .sl k (es c)) :: done c)) : DE x ops L Mf i0 R i (⟨some d, .buildSlice T n ps.toArray, ty, pos, aft, some (j, want)⟩ :: rest) done :=
  DE.pure rfl hdn (fun c => .inr ⟨j, want, t, gb, b, rfl, hj, hl c, rfl⟩) (fun e c _ hb' => Sv.bs hT hE (hp c hb') (hn c) hb hk1) hMf (hi.imp id fun h c c' => by rw [h c c']) next

/-- from a rule of regions that draw nothing to one step here -/
theorem stepE_of {o : Oper} {a : Act} {w : World} {K : Act → World → Prop} (hg : o.guard = none) (h : wpList x.P ops (fun e a w => e = .normal ∧ K a w) [o] a w) : stepE x ops o a w K := by
  intro Q
  have hw : Region.wanted o (yielded ops a.tmps) = true := by rw [Region.wanted, hg]
  rw [if_pos hw]
  unfold wpList at h
  rw [if_pos hw] at h
  rcases h with h | ⟨_, a', w', h, _⟩
  · unfold Oper.wp at h ⊢
    generalize (execOp a.eval o).run x.P w = r at h
    unfold Oper.upon at h ⊢
    split at h
    · exact h.2
    · exact h.2
    · exact h.2
    · refine Calls.mono h ?_
      rintro e w'' he
      cases e with
      | returned v => exact he.2
      | panicked ch => cases he.1
      | outgrown => obtain ⟨a', w3, h3, _⟩ := he; cases h3
    · exact Rows.mono h (fun v w'' he => he.2)
    · cases h.1
    · exact h.elim
  · cases h
theorem DE.eff0 {op : Op} (hW : ∀ e c, OkE ops e i → ∀ L', (∀ t p, Vl.look (sel (Oper.looksAt ops ⟨none, op, ty, pos, aft, none⟩) (done c ++ L)) t = some p → Vl.look L' t = some p) → ∀ Q : Exit → Act → World → Prop,
      W x L' (Mf (addE e i) c) (wpList x.P ops Q []) → W x L' (Mf e c) (wpList x.P ops Q [⟨none, op, ty, pos, aft, none⟩]))
    (next : DE x ops L Mf i0 R (i + 1) rest (fun c => (x.n, false, .lit undef) :: done c)) : DE x ops L Mf i0 R i (⟨none, op, ty, pos, aft, none⟩ :: rest) done := by
  refine ⟨fun c => (x.n, false, .lit undef), fun c => rfl, .inr (.inr fun _ _ => rfl), ?_, next⟩
  intro e c hk L' a w hsub hs
  refine stepE_of rfl ?_
  refine hW e c hk L' hsub _ ?_ a w hs
  exact fun a' w' hs' => ⟨rfl, c, .inr rfl, hs'.ghost⟩
theorem DE.eff1 {op : Op} {d : Tmp} {av : ι → AV} (hdn : Nat.blt d x.n = true) (hi : i = i0)
    (hW : ∀ e c, OkE ops e i → ∀ L', (∀ t p, Vl.look (sel (Oper.looksAt ops ⟨some d, op, ty, pos, aft, none⟩) (done c ++ L)) t = some p → Vl.look L' t = some p) → ∀ Q : Exit → Act → World → Prop,
      (∀ c', W x ((d, true, av c') :: L') (Mf (addE e i) c') (wpList x.P ops Q [])) → W x L' (Mf e c) (wpList x.P ops Q [⟨some d, op, ty, pos, aft, none⟩]))
    (next : DE x ops L Mf i0 R (i + 1) rest (fun c => (d, true, av c) :: done c)) : DE x ops L Mf i0 R i (⟨some d, op, ty, pos, aft, none⟩ :: rest) done := by
  refine ⟨fun c => (d, true, av c), fun c => ⟨rfl, hdn⟩, .inl hi, ?_, next⟩
  intro e c hk L' a w hsub hs
  refine stepE_of rfl ?_
  refine hW e c hk L' hsub _ ?_ a w hs
  exact fun c' a' w' hs' => ⟨rfl, c', .inl hi, hs'⟩
theorem DE.effc {op : Op} {d : Tmp} {av : ι → AV} (hdn : Nat.blt d x.n = true) (hi : anc ops i0 i = true ∨ ∀ c c', av c = av c')
    (hW : ∀ e c, OkE ops e i → ∀ L', (∀ t p, Vl.look (sel (Oper.looksAt ops ⟨some d, op, ty, pos, aft, none⟩) (done c ++ L)) t = some p → Vl.look L' t = some p) → ∀ Q : Exit → Act → World → Prop,
      W x ((d, true, av c) :: L') (Mf (addE e i) c) (wpList x.P ops Q []) → W x L' (Mf e c) (wpList x.P ops Q [⟨some d, op, ty, pos, aft, none⟩]))
    (next : DE x ops L Mf i0 R (i + 1) rest (fun c => (d, true, av c) :: done c)) : DE x ops L Mf i0 R i (⟨some d, op, ty, pos, aft, none⟩ :: rest) done := by
  refine ⟨fun c => (d, true, av c), fun c => ⟨rfl, hdn⟩, .inr (hi.imp id fun h c c' => congrArg (fun a => (d, true, a)) (h c c')), ?_, next⟩
  intro e c hk L' a w hsub hs
  refine stepE_of rfl ?_
  refine hW e c hk L' hsub _ ?_ a w hs
  exact fun a' w' hs' => ⟨rfl, c, .inr rfl, hs'⟩
end rules
end draw
end Go.Vl
end

section
set_option linter.unusedVariables false
set_option linter.unusedSimpArgs false
set_option linter.unusedSectionVars false
namespace Go.Vl
open Go Go.Sem
abbrev Ks := Nat → Nat × Value
def upd (c : Ks) (i : Nat) (z : Nat × Value) : Ks := fun k => if k = i then z else c k
def ks0 : Ks := fun _ => (0, undef)
theorem St.perm {x : Cx} {L : List En} {M M' : List ME} {a : Act} {w : World} (hs : St x L M a w) (hp : List.Perm M M') : St x L M' a w := by
  obtain ⟨hm, hk, hsub⟩ := hs.mem.sub (M' := M') (D := []) (by rw [List.append_nil]; exact hp)
  exact ⟨hs.defers, hs.size, fun t g av hl => ⟨fun hg => ((hs.slots t g av hl).1 hg).keep hk, (hs.slots t g av hl).2⟩, hm, hs.fr.sub hsub, hs.old⟩
theorem W.perm {x : Cx} {L : List En} {M M' : List ME} {R : Act → World → Prop} (hp : List.Perm M M') (h : W x L M' R) : W x L M R := fun a w hs => h a w (hs.perm hp)
section draw
variable {x : Cx} {L : List En} {M : List ME} {Q : Exit → Act → World → Prop}

def ObM (x : Cx) (ops : Array Oper) (L : List En) (Mf : (Nat → Bool) → Ks → List ME) (i : Nat) (o : Oper) (done : Ks → List En) (ent : Ks → En) : Prop :=
  ∀ e c, OkE ops e i → ∀ L' a w, (∀ t p, look (sel (o.looksAt ops) (done c ++ L)) t = some p → look L' t = some p) → St x L' (Mf e c) a w →
    stepE x ops o a w (fun a' w' => ∃ c' : Ks, (∀ k, k ≠ i → c' k = c k) ∧ St x (ent c' :: L') (Mf (addE e i) c') a' w')

/-- the region's operations in the text's order -/
def DM (x : Cx) (ops : Array Oper) (L : List En) (Mf : (Nat → Bool) → Ks → List ME) (R : Act → World → Prop) : Nat → List Oper → (Ks → List En) → Prop
  | i, [], done => ∀ c e, (∀ j, j < i → e j = true) → W x (done c ++ L) (Mf e c) R
  | i, o :: rest, done => ∃ ent : Ks → En, KeyOk x o ent ∧ (∀ c c' : Ks, (∀ k, (k = i ∨ anc ops k i = true) → c k = c' k) → ent c = ent c') ∧ ObM x ops L Mf i o done ent ∧ DM x ops L Mf R (i + 1) rest (fun c => ent c :: done c)

theorem DM.extract {ops : Array Oper} {R : Act → World → Prop} {Mf : (Nat → Bool) → Ks → List ME} : ∀ {rest : List Oper} {k : Nat} {done : Ks → List En}, DM x ops L Mf R k rest done →
    ∃ ents : List (Ks → En), ents.length = rest.length ∧ (∀ (i : Nat) (o : Oper), rest[i]? = some o → ∃ ent, ents[i]? = some ent ∧ KeyOk x o ent ∧ (∀ c c' : Ks, (∀ m, (m = k + i ∨ anc ops m (k + i) = true) → c m = c' m) → ent c = ent c') ∧
      ObM x ops L Mf (k + i) o (fun c => ((ents.take i).map (· c)).reverse ++ done c) ent) ∧ (∀ c e, (∀ j, j < k + rest.length → e j = true) → W x ((ents.map (· c)).reverse ++ (done c ++ L)) (Mf e c) R)
  | [], k, done, h => by
    have h' : ∀ c e, (∀ j, j < k → e j = true) → W x (done c ++ L) (Mf e c) R := h
    exact ⟨[], rfl, by simp, fun c e he => by simpa using h' c e (by simpa using he)⟩
  | o :: rest, k, done, h => by
    obtain ⟨ent, h1, h2, h3, h4⟩ := h
    obtain ⟨ents, e1, e2, e3⟩ := DM.extract h4
    refine ⟨ent :: ents, by simp [e1], ?_, ?_⟩
    · intro i o' ho'
      cases i with
      | zero => simp at ho'; subst ho'; exact ⟨ent, rfl, h1, h2, by simpa using h3⟩
      | succ i =>
        obtain ⟨ent', f1, f2, f3, f4⟩ := e2 i o' (by simpa using ho')
        have e : k + 1 + i = k + (i + 1) := by omega
        rw [e] at f3 f4
        exact ⟨ent', by simpa using f1, f2, f3, by simpa using f4⟩
    · intro c e he
      have := e3 c e (fun j hj => he j (by simp; omega))
      simpa using this

/-! ### what such a region's operations are met by -/
section rules
variable {ops : Array Oper} {R : Act → World → Prop} {rest : List Oper} {done : Ks → List En} {ty : TypeId} {pos : String} {aft : Array Edge} {Mf : (Nat → Bool) → Ks → List ME} {i : Nat}

theorem ObM.pure {o : Oper} {d : Tmp} {G : Bool} {av : Ks → AV} (hd : o.dst = some d) (hdn : Nat.blt d x.n = true) (hG : ∀ c, Gd ops (sel (o.looksAt ops) (done c ++ L)) o G)
    (hsv : ∀ e c, OkE ops e i → G = true → Sv x (sel (o.looksAt ops) (done c ++ L)) (Mf e c) o (av c)) (hMf : ∀ e c, Mf (addE e i) c = Mf e c) : ObM x ops L Mf i o done (fun c => (d, G, av c)) := by
  intro e c hk L' a w hsub hs Q
  have hs0 := hs.look hsub
  have hw : Region.wanted o (yielded ops a.tmps) = G := by
    rcases hG c with ⟨h1, h2⟩ | ⟨j, want, t, gb, b, h1, h2, h3, h4⟩
    · rw [Region.wanted, h1, h2]
    · obtain ⟨dst, op, ty', pos', aft', gu⟩ := o
      simp only at h1
      subst h1
      rw [guard_of (want := want) h2 h3 hs0, h4]
  rw [hw]
  cases hG' : G with
  | true =>
    rw [if_pos rfl]
    refine hsv e c hk hG' a w hs0 _ _ ?_
    intro v w' hK hmm hf hr
    rw [hd]
    refine ⟨c, fun _ _ => rfl, ?_⟩
    rw [hMf]
    exact (hs.world hK hmm hf).put hdn true (av c) v (fun _ => hr) (by simp)
  | false =>
    rw [if_neg (by simp), hd]
    refine ⟨c, fun _ _ => rfl, ?_⟩
    rw [hMf]
    exact hs.put hdn false (av c) undef (by simp) (fun _ => rfl)

theorem DM.nil (h : ∀ c e, (∀ j, j < i → e j = true) → W x (done c ++ L) (Mf e c) R) : DM x ops L Mf R i [] done := h
theorem DM.pure {o : Oper} {d : Tmp} {G : Bool} {av : Ks → AV} (hd : o.dst = some d) (hdn : Nat.blt d x.n = true) (hG : ∀ c, Gd ops (sel (o.looksAt ops) (done c ++ L)) o G)
    (hsv : ∀ e c, OkE ops e i → G = true → Sv x (sel (o.looksAt ops) (done c ++ L)) (Mf e c) o (av c)) (hMf : ∀ e c, Mf (addE e i) c = Mf e c) (hi : ∀ c c' : Ks, (∀ k, (k = i ∨ anc ops k i = true) → c k = c' k) → av c = av c')
    (next : DM x ops L Mf R (i + 1) rest (fun c => (d, G, av c) :: done c)) : DM x ops L Mf R i (o :: rest) done := by
  refine ⟨fun c => (d, G, av c), ?_, fun c c' h => congrArg (fun a => (d, G, a)) (hi c c' h), ObM.pure hd hdn hG hsv hMf, next⟩
  intro c
  rw [hd]
  exact ⟨rfl, hdn⟩
theorem DM.q {d : Tmp} {op : Op} {av : Ks → AV} (he : ∀ e c, OkE ops e i → Ev x true (sel (Oper.looksAt ops ⟨some d, op, ty, pos, aft, none⟩) (done c ++ L)) (Mf e c) op ty (av c)) (hdn : Nat.blt d x.n = true)
    (hMf : ∀ e c, Mf (addE e i) c = Mf e c) (hi : ∀ c c' : Ks, (∀ k, (k = i ∨ anc ops k i = true) → c k = c' k) → av c = av c') (next : DM x ops L Mf R (i + 1) rest (fun c => (d, true, av c) :: done c)) :
    DM x ops L Mf R i (⟨some d, op, ty, pos, aft, none⟩ :: rest) done := DM.pure rfl hdn (fun _ => .inl ⟨rfl, rfl⟩) (fun e c hk _ => Sv.ev (he e c hk)) hMf hi next
theorem DM.qg {d : Tmp} {op : Op} {av : Ks → AV} {j : Nat} {t : Tmp} {gb b want : Bool} (hj : (ops[j]?).bind (·.dst) = some t) (hl : ∀ c, Vl.look (sel (Oper.looksAt ops ⟨some d, op, ty, pos, aft, some (j, want)⟩) (done c ++ L)) t = some (gb, .lit (.bool b)))
    (he : ∀ e c, OkE ops e i → Ev x (gb && (b == want)) (sel (Oper.looksAt ops ⟨some d, op, ty, pos, aft, some (j, want)⟩) (done c ++ L)) (Mf e c) op ty (av c)) (hdn : Nat.blt d x.n = true)
    (hMf : ∀ e c, Mf (addE e i) c = Mf e c) (hi : ∀ c c' : Ks, (∀ k, (k = i ∨ anc ops k i = true) → c k = c' k) → av c = av c') (next : DM x ops L Mf R (i + 1) rest (fun c => (d, gb && (b == want), av c) :: done c)) :
    DM x ops L Mf R i (⟨some d, op, ty, pos, aft, some (j, want)⟩ :: rest) done := DM.pure rfl hdn (fun c => .inr ⟨j, want, t, gb, b, rfl, hj, hl c, rfl⟩) (fun e c hk hb => Sv.ev ((he e c hk).strip hb)) hMf hi next
theorem DM.callp {f : FuncId} {d : Tmp} {os : List Operand} {ats : Array TypeId} {avs : Ks → List AV} {r : Ks → AV} (hc : ∀ c, FnP x.P f (avs c) (r c)) (ha : ∀ c, ArgsOv (sel (Oper.looksAt ops ⟨some d, .call ⟨.value (.func f), os.toArray, ats⟩, ty, pos, aft, none⟩) (done c ++ L)) os (avs c)) (hdn : Nat.blt d x.n = true)
    (hMf : ∀ e c, Mf (addE e i) c = Mf e c) (hi : ∀ c c' : Ks, (∀ k, (k = i ∨ anc ops k i = true) → c k = c' k) → r c = r c') (next : DM x ops L Mf R (i + 1) rest (fun c => (d, true, r c) :: done c)) :
    DM x ops L Mf R i (⟨some d, .call ⟨.value (.func f), os.toArray, ats⟩, ty, pos, aft, none⟩ :: rest) done := DM.pure rfl hdn (fun _ => .inl ⟨rfl, rfl⟩) (fun e c _ _ => Sv.callp (hc c) (ha c)) hMf hi next
theorem DM.callg {f : FuncId} {d : Tmp} {os : List Operand} {ats : Array TypeId} {avs : Ks → List AV} {r : Ks → AV} {j : Nat} {t : Tmp} {gb b want : Bool} (hj : (ops[j]?).bind (·.dst) = some t)
    (hl : ∀ c, Vl.look (sel (Oper.looksAt ops ⟨some d, .call ⟨.value (.func f), os.toArray, ats⟩, ty, pos, aft, some (j, want)⟩) (done c ++ L)) t = some (gb, .lit (.bool b)))
    (hc : ∀ c, (gb && (b == want)) = true → FnP x.P f (avs c) (r c)) (ha : ∀ c, (gb && (b == want)) = true → ArgsOv (sel (Oper.looksAt ops ⟨some d, .call ⟨.value (.func f), os.toArray, ats⟩, ty, pos, aft, some (j, want)⟩) (done c ++ L)) os (avs c)) (hdn : Nat.blt d x.n = true)
    (hMf : ∀ e c, Mf (addE e i) c = Mf e c) (hi : ∀ c c' : Ks, (∀ k, (k = i ∨ anc ops k i = true) → c k = c' k) → r c = r c') (next : DM x ops L Mf R (i + 1) rest (fun c => (d, gb && (b == want), r c) :: done c)) :
    DM x ops L Mf R i (⟨some d, .call ⟨.value (.func f), os.toArray, ats⟩, ty, pos, aft, some (j, want)⟩ :: rest) done :=
  DM.pure rfl hdn (fun c => .inr ⟨j, want, t, gb, b, rfl, hj, hl c, rfl⟩) (fun e c _ hb => Sv.callp (hc c hb) (ha c hb)) hMf hi next
theorem DM.bs {d : Tmp} {T E k bytes n : Nat} {z : Value} {ps : List (Nat × Operand)} {es : Ks → List AV} (hT : x.P.underlying T = some (.slice E)) (hE : Ty x.P E k bytes z)
    (hp : ∀ c, PartsOv (sel (Oper.looksAt ops ⟨some d, .buildSlice T n ps.toArray, ty, pos, aft, none⟩) (done c ++ L)) k 0 ps (es c)) (hn : ∀ c, n = (es c).length) (hb : n * k ≤ 16777216) (hk1 : Nat.ble 1 k = true) (hdn : Nat.blt d x.n = true)
    (hMf : ∀ e c, Mf (addE e i) c = Mf e c) (hi : ∀ c c' : Ks, (∀ k, (k = i ∨ anc ops k i = true) → c k = c' k) → es c = es c') (next : DM x ops L Mf R (i + 1) rest (fun c => (d, true, .sl k (es c)) :: done c)) : DM x ops L Mf R i (⟨some d, .buildSlice T n ps.toArray, ty, pos, aft, none⟩ :: rest) done :=
  DM.pure rfl hdn (fun _ => .inl ⟨rfl, rfl⟩) (fun e c _ _ => Sv.bs hT hE (hp c) (hn c) hb hk1) hMf (fun c c' h => by rw [hi c c' h]) next
theorem DM.bsg {d : Tmp} {T E k bytes n : Nat} {z : Value} {ps : List (Nat × Operand)} {es : Ks → List AV} {j : Nat} {t : Tmp} {gb b want : Bool} (hj : (ops[j]?).bind (·.dst) = some t)
    (hl : ∀ c, Vl.look (sel (Oper.looksAt ops ⟨some d, .buildSlice T n ps.toArray, ty, pos, aft, some (j, want)⟩) (done c ++ L)) t = some (gb, .lit (.bool b))) (hT : x.P.underlying T = some (.slice E)) (hE : Ty x.P E k bytes z)
    (hp : ∀ c, (gb && (b == want)) = true → PartsOv (sel (Oper.looksAt ops ⟨some d, .buildSlice T n ps.toArray, ty, pos, aft, some (j, want)⟩) (done c ++ L)) k 0 ps (es c)) (hn : ∀ c, n = (es c).length) (hb : n * k ≤ 16777216) (hk1 : Nat.ble 1 k = true) (hdn : Nat.blt d x.n = true)
    (hMf : ∀ e c, Mf (addE e i) c = Mf e c) (hi : ∀ c c' : Ks, (∀ k, (k = i ∨ anc ops k i = true) → c k = c' k) → es c = es c') (next : DM x ops L Mf R (i + 1) rest (fun c => (d, gb && (b == want), .sl k (es c)) :: done c)) : DM x ops L Mf R i (⟨some d, .buildSlice T n ps.toArray, ty, pos, aft, some (j, want)⟩ :: rest) done :=
  DM.pure rfl hdn (fun c => .inr ⟨j, want, t, gb, b, rfl, hj, hl c, rfl⟩) (fun e c _ hb' => Sv.bs hT hE (hp c hb') (hn c) hb hk1) hMf (fun c c' h => by rw [hi c c' h]) next

theorem DM.eff0 {op : Op} (hW : ∀ e c, OkE ops e i → ∀ L', (∀ t p, Vl.look (sel (Oper.looksAt ops ⟨none, op, ty, pos, aft, none⟩) (done c ++ L)) t = some p → Vl.look L' t = some p) → ∀ Q : Exit → Act → World → Prop,
      W x L' (Mf (addE e i) c) (wpList x.P ops Q []) → W x L' (Mf e c) (wpList x.P ops Q [⟨none, op, ty, pos, aft, none⟩]))
    (next : DM x ops L Mf R (i + 1) rest (fun c => (x.n, false, .lit undef) :: done c)) : DM x ops L Mf R i (⟨none, op, ty, pos, aft, none⟩ :: rest) done := by
  refine ⟨fun c => (x.n, false, .lit undef), fun c => rfl, fun _ _ _ => rfl, ?_, next⟩
  intro e c hk L' a w hsub hs
  refine stepE_of rfl ?_
  refine hW e c hk L' hsub _ ?_ a w hs
  exact fun a' w' hs' => ⟨rfl, c, fun _ _ => rfl, hs'.ghost⟩
theorem DM.eff1 {op : Op} {d : Tmp} {av : Ks → AV} (hdn : Nat.blt d x.n = true) (hi : ∀ c c' : Ks, (∀ k, (k = i ∨ anc ops k i = true) → c k = c' k) → av c = av c')
    (hW : ∀ e c, OkE ops e i → ∀ L', (∀ t p, Vl.look (sel (Oper.looksAt ops ⟨some d, op, ty, pos, aft, none⟩) (done c ++ L)) t = some p → Vl.look L' t = some p) → ∀ Q : Exit → Act → World → Prop,
      (∀ z M', List.Perm M' (Mf (addE e i) (upd c i z)) → W x ((d, true, av (upd c i z)) :: L') M' (wpList x.P ops Q [])) → W x L' (Mf e c) (wpList x.P ops Q [⟨some d, op, ty, pos, aft, none⟩]))
    (next : DM x ops L Mf R (i + 1) rest (fun c => (d, true, av c) :: done c)) : DM x ops L Mf R i (⟨some d, op, ty, pos, aft, none⟩ :: rest) done := by
  refine ⟨fun c => (d, true, av c), fun c => ⟨rfl, hdn⟩, fun c c' h => congrArg (fun a => (d, true, a)) (hi c c' h), ?_, next⟩
  intro e c hk L' a w hsub hs
  refine stepE_of rfl ?_
  refine hW e c hk L' hsub _ ?_ a w hs
  intro z M' hp a' w' hs'
  exact ⟨rfl, upd c i z, fun k hk => if_neg hk, (hs'.perm hp)⟩
end rules
end draw
end Go.Vl
end

section
set_option linter.unusedVariables false
set_option linter.unusedSimpArgs false
namespace Go.Vl

theorem ct_hi {b : UInt8} (h : ct b = true) : 128 ≤ b.toNat := by simp [ct] at h; omega

/-! ### what is encoded is decoded -/
/-- the bytes of letters -/
def flat (cs : List Nat) : List UInt8 := cs.flatMap encN
/-- letters that Clean leaves -/
def Good (c : Nat) : Prop := Utf8.valid (c : Int) = true ∧ c ≠ 0 ∧ c ≠ 13
/-! ### Text -/
/-- the first letter of a list that is none -/
def allOk (l : List Int) : Bool := l.all fun n => Utf8.valid n
def textE (l : List Int) : Int := if allOk l then (if (l.flatMap enc).length ≤ 600 then 0 else 1) else 2
def textS (l : List Int) : List UInt8 := if allOk l ∧ (l.flatMap enc).length ≤ 600 then l.flatMap enc else []
/-! ### the letters that the laws draw -/
def pick5 (k : Int) : Int := if k = 0 then 128 else if k = 1 then 300 else if k = 2 then 3000 else if k = 3 then 70000 else 1114112
def letter0 (z : Int) : Int := z % pick5 (IntKind.i64.wrap (z.tdiv 7) % 5)
def letterOf (z : Int) : Int := if 55296 ≤ letter0 z ∧ letter0 z ≤ 57343 then 65 else letter0 z
theorem pick5_pos (k : Int) : 0 < pick5 k ∧ pick5 k ≤ 1114112 := by unfold pick5; repeat' split <;> omega
theorem pick5_get (w : Int) : ([.lit (.int .i64 128), .lit (.int .i64 300), .lit (.int .i64 3000), .lit (.int .i64 70000), .lit (.int .i64 1114112)] : List AV)[(w % 5).toNat]? = some (.int (pick5 (w % 5))) := by
  have h : w % 5 = 0 ∨ w % 5 = 1 ∨ w % 5 = 2 ∨ w % 5 = 3 ∨ w % 5 = 4 := by omega
  rcases h with h | h | h | h | h <;> rw [h] <;> rfl
theorem letter0_range (z : Int) : 0 ≤ letter0 z ∧ letter0 z < 1114112 := by
  have h := pick5_pos (IntKind.i64.wrap (z.tdiv 7) % 5)
  have h1 := Int.emod_nonneg z (show pick5 (IntKind.i64.wrap (z.tdiv 7) % 5) ≠ 0 by omega)
  have h2 := Int.emod_lt_of_pos z h.1
  unfold letter0
  omega
theorem letterOf_valid (z : Int) : Utf8.valid (letterOf z) = true := by
  have := letter0_range z
  rw [valid_iff]
  unfold letterOf
  split <;> omega
end Go.Vl
end

section
set_option linter.unusedVariables false
set_option linter.unusedSimpArgs false
namespace Go.Vl
open Go Go.Sem
variable {x : Cx} {L : List (Tmp × Bool × AV)} {M : List ME} {ops : Array Oper} {Q : Exit → Act → World → Prop} {rest : List Oper}
/-- an operation that is passed over: its slot counts as_ a truth value that is not known -/
theorem W.gnob {d : Tmp} {op : Op} {ty : TypeId} {pos : String} {aft : Array Edge} {j : Nat} {want b : Bool} {t : Tmp} (hj : (ops[j]?).bind (·.dst) = some t) (hl : look L t = some (true, .lit (.bool b))) (hb : b ≠ want) (hd : Nat.blt d x.n = true)
    (next : W x ((d, false, .lit (.bool false)) :: L) M (wpList x.P ops Q rest)) : W x L M (wpList x.P ops Q (⟨some d, op, ty, pos, aft, some (j, want)⟩ :: rest)) := by
  intro a w hs
  have hw := guard_of (d := some d) (op := op) (ty := ty) (pos := pos) (aft := aft) (want := want) hj hl hs
  refine wpList_cons_skip (by rw [hw]; simpa using hb) ?_
  exact next _ _ (hs.put hd false _ undef (fun h => by cases h) (fun _ => rfl))

end Go.Vl
end

section
set_option linter.unusedVariables false
set_option linter.unusedSimpArgs false
set_option linter.unusedSectionVars false
namespace Go.Vl
open Go Go.Sem
variable {x : Cx} {g : Bool} {L : List (Tmp × Bool × AV)} {M : List ME} {ty : TypeId}

def PlacesAt (P : Program) : List Field → List (Nat × Nat) → Prop
  | [], [] => True
  | f :: fs, (o, k) :: ps => f.offset = o ∧ (∀ w, (sizeOf f.type).run P w = .ok k w) ∧ PlacesAt P fs ps
  | _, _ => False
def StructAt (P : Program) (T : TypeId) (pl : List (Nat × Nat)) : Prop := ∃ fields : List Field, P.underlying T = some (.struct fields.toArray) ∧ PlacesAt P fields pl
theorem PlacesAt.run {P : Program} : ∀ {fs : List Field} {ps : List (Nat × Nat)}, PlacesAt P fs ps → ∀ w, (fs.mapM (fun (f : Field) => (do Pure.pure (f.offset, ← sizeOf f.type) : Sem (Nat × Nat)))).run P w = .ok ps w
  | [], [], _, w => by simp
  | f :: fs, (o, k) :: ps, h, w => by
    obtain ⟨rfl, h1, h2⟩ := h
    rw [List.mapM_cons]
    simp only [Sem.run_bind, h1, Result.andThen_ok, Sem.run_pure, h2.run w]
  | [], _ :: _, h, _ => h.elim
  | _ :: _, [], h, _ => h.elim

def BuildOv (g : Bool) (L : List (Tmp × Bool × AV)) (pl : List (Nat × Nat)) : List (Nat × Operand) → List AV → List AV → Prop
  | [], cs, res => cs = res
  | (f, o) :: ps, cs, res => ∃ off k av, pl[f]? = some (off, k) ∧ Ov g L o av ∧ av.okc = true ∧ av.cells.length = k ∧ Nat.ble (off + k) cs.length = true ∧ BuildOv g L pl ps (Vl.splice cs off av.cells) res

theorem BuildOv.run {a : Act} {w : World} (hs : St x L M a w) {pl : List (Nat × Nat)} : ∀ {ps : List (Nat × Operand)} {cs res : List AV} {cells : Array Value}, BuildOv true L pl ps cs res → RepL w (bl M ++ x.F) cs cells.toList →
    ∃ cells', Instr.fill (pl.toArray[·]?) cells (ps.map fun (i, o) => (i, a.eval o)) = some cells' ∧ RepL w (bl M ++ x.F) res cells'.toList
  | [], cs, res, cells, h, hr => by
    have h' : cs = res := h
    subst h'
    exact ⟨cells, rfl, hr⟩
  | (f, o) :: ps, cs, res, cells, h, hr => by
    obtain ⟨off, k, av, h1, h2, ho, hk, hl, h3⟩ := h
    have hv := h2.rep rfl hs
    have hvl := hv.toL ho
    have hlen : (a.eval o).cells.size = k := by have := hvl.length; simp at this; omega
    have hcl := hr.length
    have hl' := Nat.le_of_ble_eq_true hl
    simp at hcl
    have hfold := foldl_set (a.eval o).cells.toList off 0 cells (by simp [hlen]; omega)
    rw [Nat.add_zero] at hfold
    obtain ⟨cells', hf, hres⟩ := BuildOv.run hs (cells := wr cells off (a.eval o).cells.toList) h3 (hr.splice hvl)
    refine ⟨cells', ?_, hres⟩
    have hpl : (pl.toArray[f]? : Option (Nat × Nat)) = some (off, k) := by simpa using h1
    simp only [List.map_cons, Instr.fill, hpl]
    have hne : ¬ ((a.eval o).cells.size ≠ k ∨ off + (a.eval o).cells.size > cells.size) := by rw [hlen]; omega
    rw [if_neg (by simpa using hne)]
    rw [← hf]
    congr 1
    rw [← hfold]
    rw [← Array.foldl_toList, Array.toList_zipIdx]

theorem RepL.lits {w : World} {N : List Nat} : ∀ (vs : List Value), vs.all (fun v => shV v == 0) = true → RepL w N (vs.map .lit) vs
  | [], _ => by simp [RepL]
  | v :: vs, h => by
    simp only [List.all_cons, Bool.and_eq_true, beq_iff_eq] at h
    simp only [List.map_cons, RepL]
    refine ⟨v, vs, rfl, ⟨h.1, h.1, ?_⟩, RepL.lits vs h.2⟩
    simp only [RepC]
    cases v <;> first | rfl | (simp [shV] at h)

theorem Ev.max {o1 o2 : Operand} {T T' : TypeId} {ki : IntKind} {p q : Int} (h1 : Ov g L o1 (.lit (.int ki p))) (h2 : Ov g L o2 (.lit (.int ki q))) : Ev x g L M (.call ⟨.builtin .max, #[o1, o2], #[T, T']⟩) ty (.lit (.int ki (if q > p then q else p))) := Ev.pure fun a w hs hg => by
  simp [execOp, resolve, invoke, builtin, h1.lit hg hs, h2.lit hg hs, Builtin.max_, Builtin.max2]

/-- a struct of two strings -/
def Str2 (P : Program) (T : TypeId) : Prop := ∃ f1 f2 : Field, P.underlying T = some (.struct (P.fieldsOf T)) ∧ (P.fieldsOf T).toList = [f1, f2] ∧ P.stoodInHeld T = false ∧ P.eqGuardType P.depth T = false ∧
  f1.name ≠ "_" ∧ f2.name ≠ "_" ∧ f1.offset = 0 ∧ f2.offset = 1 ∧ P.underlying f1.type = some .string ∧ P.underlying f2.type = some .string
theorem Str2.of {P : Program} {T : TypeId} {f1 f2 : Field} (hU : P.underlying T = some (.struct #[f1, f2])) (hp : P.stoodInHeld T = false) (hm : P.eqGuardType P.depth T = false) (n1 : f1.name ≠ "_") (n2 : f2.name ≠ "_") (k1 : f1.offset = 0) (k2 : f2.offset = 1)
    (u1 : P.underlying f1.type = some .string) (u2 : P.underlying f2.type = some .string) : Str2 P T := by
  have h : P.fieldsOf T = #[f1, f2] := by rw [Program.fieldsOf, hU]
  exact ⟨f1, f2, by rw [h, hU], by rw [h], hp, hm, n1, n2, k1, k2, u1, u2⟩
end Go.Vl
end

section
set_option linter.unusedVariables false
set_option linter.unusedSimpArgs false
namespace Go.Vl
abbrev Dc := List UInt8 × List UInt8
abbrev dav (d : Dc) : AV := .agg [.str d.1, .str d.2]
theorem getD_memG {α : Type} (z : α) (l : List α) (i : Nat) (h : i < l.length) : l.getD i z ∈ l := by
  rw [List.getD_eq_getElem?_getD, List.getElem?_eq_getElem h]; exact List.getElem_mem h
theorem take_getDG {α : Type} (z : α) (l : List α) (i : Nat) (h : i < l.length) : l.take (i + 1) = l.take i ++ [l.getD i z] := by
  rw [List.take_add_one, List.getD_eq_getElem?_getD, List.getElem?_eq_getElem h]; rfl
def only (ns : List (List UInt8)) : List Dc → List Dc
  | [] => []
  | d :: t => if (ns.any fun s => d.1 == s) && !(t.any fun e => e.1 == d.1) then d :: only ns t else only ns t
def lastv (n : List UInt8) (l : List Dc) : List UInt8 := match (l.filter fun d => d.1 == n).getLast? with
  | some d => d.2
  | none => []
abbrev nmc : List UInt8 := [99, 111, 108, 111, 114]
abbrev nma : List UInt8 := [97, 45, 98]
abbrev nms : List (List UInt8) := [nmc, nma]
end Go.Vl
end

section
set_option linter.unusedVariables false
set_option linter.unusedSimpArgs false
set_option linter.unusedSectionVars false
namespace Go.Vl
open Go Go.Sem
section ev
variable {x : Cx} {g : Bool} {L : List (Tmp × Bool × AV)} {M : List ME} {ty : TypeId} {T T' : TypeId} {o1 o2 : Operand}

theorem Ev.nilc {a : Addr} (h1 : Ov g L o1 (.lit (.pointer (some a)))) : Ev x g L M (.nilCheck o1) ty (.lit (.pointer (some a))) := Ev.pure fun ac w hs hg => by
  simp [execOp, h1.lit hg hs]
theorem Ev.eqpn {p : Option Addr} {te : TypeId} (h1 : Ov g L o1 (.lit (.pointer p))) (hT : x.P.underlying T = some (.pointer te)) : Ev x g L M (.binOp .eql T o1 (.const (.pointer none)) T') ty (.lit (.bool p.isNone)) := Ev.pure fun ac w hs hg => by
  have hp : x.P.underlying T = some (.pointer (x.P.pointee T)) := by rw [hT]; simp [Program.pointee, hT]
  have hv : ac.eval (.const (.pointer none)) = .pointer none := rfl
  simp only [execOp, h1.lit hg hs, hv, eqGuard_at_pointer, Sem.run_bind, Sem.run_pure, Result.andThen_ok, run_eql_pointer_nil w T p hp]
theorem Ev.nep {a : Addr} {te k bytes : Nat} {z : Value} (h1 : Ov g L o1 (.lit (.pointer (some a)))) (h2 : Ov g L o2 (.lit (.pointer (some a)))) (hT : x.P.underlying T = some (.pointer te)) (hE : Ty x.P te k bytes z) :
    Ev x g L M (.binOp .neq T o1 o2 T') ty (.lit (.bool false)) := Ev.pure fun ac w hs hg => by
  obtain ⟨j, hj, _⟩ := hE
  simp only [execOp, h1.lit hg hs, h2.lit hg hs, eqGuard_at_pointer, Sem.run_bind, Sem.run_pure, Result.andThen_ok, Lib.run_neq_ptr_same w a hT hj]
theorem Ev.touns (i : Nat) {b U te k bytes : Nat} {z : Value} {c : AV} {cs : List AV} (h1 : Ov g L o1 (.lit (.pointer (some ⟨b, 0, none⟩)))) (hM : M[i]? = some (.box b U (c :: cs))) (hT : x.P.underlying T = some (.pointer te)) (hT' : x.P.underlying T' = some .unsafePointer) (hE : Ty x.P te (k + 1) bytes z) :
    Ev x g L M (.convert T T' o1) ty (.lit (.pointer (some ⟨b, 0, none⟩))) := Ev.pure fun ac w hs hg => by
  obtain ⟨j, hj, hk, _⟩ := hE
  obtain ⟨cur, hc, hcs⟩ := box_at (N := []) hs.mem hM
  have hl := hcs.length
  simp at hl
  simp only [execOp, h1.lit hg hs]
  simp [Lib.run_to_unsafe (P := x.P) w ⟨b, 0, none⟩ hT hT' hj (by omega) (e := U) (cells := cur.size) (by simp [World.shape?, hc]) (by show 0 < cur.size; omega)]
theorem Ev.fromuns (i : Nat) {b U te : Nat} {k bytes : Nat} {z : Value} {cs : List AV} (h1 : Ov g L o1 (.lit (.pointer (some ⟨b, 0, none⟩)))) (hM : M[i]? = some (.box b U cs)) (hT : x.P.underlying T = some .unsafePointer) (hT' : x.P.underlying T' = some (.pointer te)) (hE : Ty x.P te k bytes z)
    (hl : liesAt x.P x.P.depth U (cs.length / x.P.cellsOf U) 0 te 1 = true) : Ev x g L M (.convert T T' o1) ty (.lit (.pointer (some ⟨b, 0, none⟩))) := Ev.pure fun ac w hs hg => by
  obtain ⟨j, hj, hk, _⟩ := hE
  obtain ⟨cur, hc, hcs⟩ := box_at (N := []) hs.mem hM
  have hl' := hcs.length
  simp at hl'
  simp only [execOp, h1.lit hg hs]
  simp [Lib.run_from_unsafe (P := x.P) w ⟨b, 0, none⟩ hT hT' hj (e := U) (cells := cur.size) (by simp [World.shape?, hc]) (by rw [← hl'] at hl; exact hl)]
theorem Ev.noesc {f : FuncId} {fn : Func} {ats : Array TypeId} {av : AV} (hf : x.P.funcs[f]? = some fn) (hnm : (fn.name == "runtime.NumGoroutine") = false) (hb : fn.body.isNone = true) (hn : Extern.findNext fn = none) (he : Extern.find fn = some Extern.AbiNoEscape.same) (h1 : Ov g L o1 av) :
    Ev x g L M (.call ⟨.value (.func f), #[o1], ats⟩) ty av := fun a w hs hg => by
  have hv : a.eval (.func f) = .func (.func f) #[] #[] := rfl
  refine ⟨a.eval o1, ?_, h1.rep hg hs⟩
  have h := run_callFunc_extern hf hnm hb hn he #[a.eval o1] w
  rw [Lib.run_noEscape] at h
  simp only [execOp, resolve, hv, Deferred.ofValue, Sem.run_bind, Sem.run_pure, Result.andThen_ok, invoke]
  simp [h]
/-- the address of a row's first element -/
def dataOf : Value → Value
  | .slice a _ _ => .pointer a
  | v => v
def deadOf : Value → Value
  | .slice (some ⟨g, _, _⟩) _ _ => .slice (some ⟨g, 0, none⟩) 0 0
  | v => v
theorem Ev.usd {i : Nat} {v : Value} {U k : Nat} {es : List AV} (h1 : Ov g L o1 (.lit v)) (hM : M[i]? = some (.arr v U k es)) (hv : v = .slice none 0 0 ∨ es ≠ []) : Ev x g L M (.call ⟨.builtin .unsafeSliceData, #[o1], #[T]⟩) ty (.lit (dataOf v)) := Ev.pure fun ac w hs hg => by
  obtain ⟨ad, cap, e, h2, h3, _⟩ := hs.mem.holds _ (List.mem_of_getElem? hM)
  have e1 := h1.lit hg hs
  rw [e] at e1
  subst e
  cases ad with
  | none =>
    have h := Lib.run_unsafeSliceData_nil (P := x.P) w #[T] ty es.length cap
    simp [execOp, resolve, invoke, builtin, e1, h, dataOf]
  | some a =>
    have hc : cap ≠ 0 := by
      rcases hv with hv | hv
      · cases hv
      · have : es.length ≠ 0 := fun h => hv (List.eq_nil_of_length_eq_zero h)
        omega
    have h := Lib.run_unsafeSliceData_row (P := x.P) w #[T] ty a es.length cap hc
    simp [execOp, resolve, invoke, builtin, e1, h, dataOf]
end ev

theorem liesAt_off {P : Program} {e : TypeId} (hc : P.cellsOf e = 1) (count off n : Nat) (hn : off + n ≤ count) : liesAt P P.depth e count off e n = true := by
  have hd : P.depth = (2 * (P.types.size + Made.depth) + 1) + 1 := rfl
  rw [hd]
  simp only [liesAt, Bool.or_eq_true]
  left
  rw [hd]
  simp [rowAt, hc, hn, sameLayout]
  exact .inl (Nat.mod_one off)
theorem run_ustr {P : Program} (w : World) (pt it ty e : TypeId) (hp : P.underlying pt = some (.pointer e)) (hc : P.cellsOf e = 1) (g off cells : Nat) (hsh : w.shape? g = some (e, cells)) (l : List UInt8) (h0 : l ≠ []) (hn : off + l.length ≤ cells) (h63 : l.length ≤ 9223372036854775807)
    (hcell : ∀ j x, l[j]? = some x → w.cell? ((⟨g, off, none⟩ : Addr).add j) = some (.int .u8 x.toNat)) :
    (Builtin.unsafeString_ #[pt, it] ty #[.pointer (some ⟨g, off, none⟩), .int .i64 l.length]).run P w = .ok (.string ⟨l.toArray⟩) (w.freeze ⟨g, off, none⟩ l.length) := by
  have hl : l.length ≠ 0 := by simpa using h0
  have hlb := Lib.run_loadBytes (P := P) w l ⟨g, off, none⟩ .empty hcell
  have hlies := liesAt_off (P := P) hc (cells / P.cellsOf e) off l.length (by rw [hc]; simpa using hn)
  have h63' : ¬ (9223372036854775807 : Int) < (l.length : Int) := by omega
  have hdef : Builtin.unsafeString_ #[pt, it] ty #[.pointer (some ⟨g, off, none⟩), .int .i64 l.length] =
      (do
        let n ← asInt (.int .i64 l.length)
        if n < 0 then runtimePanic (.error "unsafe.String: len out of range")
        if n > IntKind.i64.max then unsupported (.unsafePointer "String: a length above the largest int")
        if n = 0 then Pure.pure (.string .empty)
        else if ← variablesAt ⟨g, off, none⟩ (← elemOf pt) n.toNat then do
          let s ← loadBytes ⟨g, off, none⟩ .empty n.toNat
          Go.freeze ⟨g, off, none⟩ n.toNat
          Pure.pure (.string s)
        else unsupported (.unsafePointer "String: not so many bytes at ptr")) := rfl
  rw [hdef]
  have hmax : IntKind.i64.max = 9223372036854775807 := rfl
  have hneg : ¬ (l.length : Int) < 0 := by omega
  simp [asInt, asIntOf, hmax, h63', hneg, hl, variablesAt, hsh, elemOf, run_underlying hp, hlies, hlb]
theorem u8_cells {w : World} {N : List Nat} : ∀ {l : List UInt8} {row : List Value}, RepE w N 1 (l.map AV.u8) row → ∀ (j : Nat) (y : UInt8), l[j]? = some y → row[j]? = some (.int .u8 y.toNat)
  | [], _, _, j, y, h => by simp at h
  | b :: l, row, hr, j, y, h => by
    simp only [List.map_cons, RepE] at hr
    obtain ⟨h1, h2, h3⟩ := hr
    cases row with
    | nil => simp at h1
    | cons v row =>
      cases j with
      | zero =>
        simp at h; subst h
        simp only [RepC] at h2
        have h2' : [v] = [Value.int .u8 (b.toNat : Int)] := h2
        simp only [List.getElem?_cons_zero, Option.some.injEq]
        exact (List.cons.inj h2').1
      | succ j =>
        have := u8_cells h3 j y (by simpa using h)
        simpa using this
theorem set_same {α : Type} {l : List α} {i : Nat} {a : α} (h : l[i]? = some a) : l.set i a = l := by
  apply List.ext_getElem?
  intro j
  rw [List.getElem?_set]
  split
  · rename_i e; subst e
    split
    · exact h.symm
    · rename_i hl; rw [List.getElem?_eq_none (by omega)] at h; cases h
  · rfl
theorem freeze_set {w : World} {g off n lo hi : Nat} {cur : Array Value} {T : TypeId} (h : w.heap[g]? = some (.cells cur T (lo, hi))) (hn : n ≠ 0) :
    w.freeze ⟨g, off, none⟩ n = { w with heap := w.heap.setIfInBounds g (.cells cur T (if lo == hi then (off, off + n) else (min lo off, max hi (off + n)))) } := by
  unfold World.freeze
  rw [if_neg hn]
  congr 1
  apply Array.ext_getElem?
  intro j
  rw [Array.getElem?_modify, Array.getElem?_setIfInBounds]
  have hlt : g < w.heap.size := heap_lt h
  split
  · rename_i e; subst e
    rw [h]
    simp [hlt]
  · rfl
/-- what an own row's slice is -/
theorem W.arr_inv {x : Cx} {L : List (Tmp × Bool × AV)} {M : List ME} {R : Act → World → Prop} (i : Nat) {v : Value} {U k : Nat} {es : List AV} (hM : M[i]? = some (.arr v U k es)) (h : ∀ a n c, v = .slice a n c → W x L M R) : W x L M R := fun a w hs => by
  obtain ⟨ad, cap, e, _⟩ := hs.mem.holds _ (List.mem_of_getElem? hM)
  exact h _ _ _ e a w hs
section str
variable {x : Cx} {L : List (Tmp × Bool × AV)} {M : List ME} {ty : TypeId} {T1 T2 : TypeId} {o1 o2 : Operand} {ops : Array Oper} {Q : Exit → Act → World → Prop} {rest : List Oper} {pos : String} {aft : Array Edge}
theorem W.ustr (i : Nat) {d : Tmp} {v : Value} {U : TypeId} {l : List UInt8} (h1 : Ov true L o1 (.lit (dataOf v))) (h2 : Ov true L o2 (.lit (.int .i64 (l.length : Int)))) (hM : M[i]? = some (.arr v U 1 (l.map AV.u8))) (hv : v = .slice none 0 0 ∨ l ≠ [])
    (hT : x.P.underlying T1 = some (.pointer U)) (hc : x.P.cellsOf U = 1) (hl : l.length ≤ 9223372036854775807) (hd : Nat.blt d x.n = true)
    (next : W x ((d, true, .str l) :: L) (M.set i (.arr (deadOf v) U 1 [])) (wpList x.P ops Q rest)) :
    W x L M (wpList x.P ops Q (⟨some d, .call ⟨.builtin .unsafeString, #[o1, o2], #[T1, T2]⟩, ty, pos, aft, none⟩ :: rest)) := by
  refine W.opv (ι := Unit) (fun _ => M.set i (.arr (deadOf v) U 1 [])) (fun _ => .str l) hd ?_ (fun _ => next)
  intro a w hs
  have e1 := h1.lit rfl hs
  have e2 := h2.lit rfl hs
  by_cases hl0 : l = []
  · subst hl0
    obtain rfl : v = .slice none 0 0 := by
      rcases hv with h | h
      · exact h
      · exact absurd rfl h
    refine ⟨.string ⟨[].toArray⟩, w, (), ?_, ?_, Rep.lit _⟩
    · have h := Lib.run_unsafeString_none (P := x.P) w T1 T2 ty none
      simp only [List.length_nil] at e2
      have e1' : a.eval o1 = .pointer none := e1
      simp [execOp, resolve, invoke, builtin, e1', e2]
      exact congrArg (fun r => Result.andThen r _) h
    · rw [show M.set i (.arr (deadOf (.slice none 0 0)) U 1 []) = M from set_same hM]
      exact hs
  · obtain ⟨ad, cap, e, hlc, hcm, hcase⟩ := hs.mem.holds _ (List.mem_of_getElem? hM)
    rw [List.length_map] at e hlc
    have hln : l.length ≠ 0 := fun h => hl0 (List.eq_nil_of_length_eq_zero h)
    rcases hcase with ⟨_, h0⟩ | ⟨g, off, cur, lo, hi, rfl, hg, hsz, hfr, hrE⟩
    · omega
    · subst e
      have e1' : a.eval o1 = .pointer (some ⟨g, off, none⟩) := e1
      have hcell : ∀ j y, l[j]? = some y → w.cell? ((⟨g, off, none⟩ : Addr).add j) = some (.int .u8 y.toNat) := by
        intro j y hj
        rw [Addr.add_lit, cell_of hg]
        have := u8_cells hrE j y hj
        rw [List.getElem?_drop] at this
        simpa using this
      have hrun := run_ustr (P := x.P) w T1 T2 ty U hT hc g off cur.size (by simp [World.shape?, hg]) l hl0 (by omega) hl hcell
      rw [freeze_set hg hln] at hrun
      refine ⟨.string ⟨l.toArray⟩, { w with heap := w.heap.setIfInBounds g (.cells cur U (if lo == hi then (off, off + l.length) else (min lo off, max hi (off + l.length)))) }, (), ?_, ?_, Rep.lit _⟩
      · simp [execOp, resolve, invoke, builtin, e1', e2, hrun]
      · refine hs.write hM rfl rfl ?_
        intro w' hother hnew hk
        exact ⟨some ⟨g, 0, none⟩, 0, rfl, Nat.le_refl _, by simp [maxLen], .inr ⟨g, 0, cur, _, _, rfl, hnew, by omega, .inr (by omega), by simp [RepE]⟩⟩
end str
end Go.Vl
end

section
set_option linter.unusedVariables false
set_option linter.unusedSimpArgs false
namespace Go.Vl
open Go Go.Sem
inductive Nd where
  | mk (name : List UInt8) (attrs : List Dc) (text : List UInt8) (parts : List Nd)
namespace Nd
def name : Nd → List UInt8 | mk n _ _ _ => n
def attrs : Nd → List Dc | mk _ a _ _ => a
def text : Nd → List UInt8 | mk _ _ t _ => t
def parts : Nd → List Nd | mk _ _ _ p => p
mutual
def av : Nd → AV
  | mk n a t p => .agg [.str n, .sl 2 (a.map dav), .str t, .sl 4 (avs p)]
def avs : List Nd → List AV
  | [] => []
  | d :: l => av d :: avs l
end
mutual
def sz : Nd → Nat
  | mk _ a _ p => 1 + a.length + szs p
def szs : List Nd → Nat
  | [] => 0
  | d :: l => sz d + szs l
end
abbrev avx (d : Nd) : AV := .agg [.str d.name, .sl 2 (d.attrs.map dav), .str d.text, .sl 4 (d.parts.map av)]
theorem sz_eq (d : Nd) : d.sz = 1 + d.attrs.length + szs d.parts := by cases d; rfl
mutual
def cnt : Nd → Nat
  | mk _ _ _ p => 1 + cnts p
def cnts : List Nd → Nat
  | [] => 0
  | d :: l => cnt d + cnts l
end
mutual
theorem cnt_le : ∀ d : Nd, d.cnt ≤ d.sz
  | mk _ a _ p => by have := cnts_le p; simp only [cnt, sz]; omega
theorem cnts_le : ∀ l : List Nd, cnts l ≤ szs l
  | [] => Nat.le_refl _
  | d :: l => by have := cnt_le d; have := cnts_le l; simp only [cnts, szs]; omega
end
mutual
def pths : Nd → List (List Int)
  | mk _ _ _ p => pthsFrom 0 p
def pthsFrom : Nat → List Nd → List (List Int)
  | _, [] => []
  | k, d :: l => [(k : Int)] :: ((pths d).map ((k : Int) :: ·) ++ pthsFrom (k + 1) l)
end
theorem pths_eq (d : Nd) : d.pths = pthsFrom 0 d.parts := by cases d; rfl
mutual
theorem pths_len : ∀ d : Nd, d.pths.length + 1 = d.cnt
  | mk _ _ _ p => by have := pthsFrom_len p 0; simp only [pths, cnt]; omega
theorem pthsFrom_len : ∀ (l : List Nd) (k : Nat), (pthsFrom k l).length = cnts l
  | [], _ => rfl
  | d :: l, k => by have h1 := pths_len d; have h2 := pthsFrom_len l (k + 1); simp only [pthsFrom, cnts, List.length_cons, List.length_append, List.length_map]; omega
end
mutual
theorem pths_deep : ∀ (d : Nd) (p : List Int), p ∈ d.pths → p.length < d.sz
  | mk _ a _ q, p, h => by have := pthsFrom_deep q 0 p h; simp only [sz]; omega
theorem pthsFrom_deep : ∀ (l : List Nd) (k : Nat) (p : List Int), p ∈ pthsFrom k l → p.length ≤ szs l
  | [], _, _, h => by simp [pthsFrom] at h
  | d :: l, k, p, h => by
    simp only [pthsFrom, List.mem_cons, List.mem_append, List.mem_map] at h
    have h1 := sz_eq d
    rcases h with rfl | ⟨q, hq, rfl⟩ | h
    · simp only [szs, List.length_singleton]; omega
    · have := pths_deep d q hq; simp only [szs, List.length_cons]; omega
    · have := pthsFrom_deep l (k + 1) p h; simp only [szs]; omega
end
def dflt : Nd := mk [] [] [] []
end Nd
abbrev pav (p : List Int) : AV := .sl 1 (p.map AV.int)
end Go.Vl
end

section
set_option linter.unusedVariables false
set_option linter.unusedSimpArgs false
namespace Go.Vl
/-- nil stands for the row of no element -/
def NilL : List AV → List AV → Prop
  | [], [] => True
  | a :: as_, b :: bs => (a = b ∨ (a = .lit (.slice none 0 0) ∧ ∃ k, b = .sl k [])) ∧ NilL as_ bs
  | _, _ => False
theorem NilL.rep {w : World} {N : List Nat} : ∀ {as_ bs : List AV} {row : List Value}, NilL as_ bs → RepL w N as_ row → RepL w N bs row
  | [], [], _, _, hr => hr
  | a :: as_, b :: bs, row, h, hr => by
    simp only [RepL] at hr ⊢
    obtain ⟨v, vs, e, ⟨h1, h2, h3⟩, h4⟩ := hr
    refine ⟨v, vs, e, ?_, NilL.rep h.2 h4⟩
    rcases h.1 with rfl | ⟨rfl, k, rfl⟩
    · exact ⟨h1, h2, h3⟩
    · have hv0 : [v] = (Value.slice none 0 0).cells.toList := by simpa only [RepC] using h3
      have hv : [v] = [Value.slice none 0 0] := hv0
      obtain rfl := (List.cons.inj hv).1
      exact ⟨rfl, rfl, by simp only [RepC]; exact ⟨none, 0, rfl, Nat.le_refl _, by simp [maxLen], .inl trivial⟩⟩
  | [], _ :: _, _, h, _ => h.elim
  | _ :: _, [], _, h, _ => h.elim
namespace Nd
/-- path p leads to d -/
def atP : List Nd → List Int → Nd → Prop
  | _, [], _ => False
  | l, k :: p, d => ∃ i : Nat, k = (i : Int) ∧ i < l.length ∧ ((p = [] ∧ l.getD i dflt = d) ∨ (p ≠ [] ∧ atP (l.getD i dflt).parts p d))
theorem mem_paths : ∀ (l : List Nd) (k : Nat) (p : List Int), p ∈ pthsFrom k l → ∃ (i : Nat) (r : List Int), p = ((k + i : Nat) : Int) :: r ∧ i < l.length ∧ (r = [] ∨ r ∈ pthsFrom 0 (l.getD i dflt).parts)
  | [], k, p, h => by simp [pthsFrom] at h
  | d :: l, k, p, h => by
    simp only [pthsFrom, List.mem_cons, List.mem_append, List.mem_map] at h
    rcases h with rfl | ⟨q, hq, rfl⟩ | h
    · exact ⟨0, [], by simp, by simp, .inl rfl⟩
    · exact ⟨0, q, by simp, by simp, .inr (by rw [pths_eq] at hq; exact hq)⟩
    · obtain ⟨i, r, h1, h2, h3⟩ := mem_paths l (k + 1) p h
      exact ⟨i + 1, r, by rw [h1]; congr 2; omega, by simp; omega, by simpa using h3⟩
mutual
def wf : Nd → Prop
  | mk n _ _ p => (n = [] → p = []) ∧ wfs p
def wfs : List Nd → Prop
  | [] => True
  | d :: l => wf d ∧ wfs l
end
/-- one path stands ahead of another -/
def bfr : List Int → List Int → Bool
  | _, [] => false
  | [], _ :: _ => true
  | x :: a, y :: b => if x = y then bfr a b else decide (x < y)
theorem bfr_lt (x y : Int) (a b : List Int) (h : x < y) : bfr (x :: a) (y :: b) = true := by
  have : x ≠ y := by omega
  simp [bfr, this, h]
mutual
theorem pths_ord : ∀ d : Nd, (pths d).Pairwise (fun a b => bfr a b = true)
  | mk _ _ _ p => pthsFrom_ord p 0
theorem pthsFrom_ord : ∀ (l : List Nd) (k : Nat), (pthsFrom k l).Pairwise (fun a b => bfr a b = true)
  | [], _ => List.Pairwise.nil
  | d :: l, k => by
    rw [pthsFrom, List.pairwise_cons, List.pairwise_append, List.pairwise_map]
    refine ⟨?_, ?_, pthsFrom_ord l (k + 1), ?_⟩
    · intro p hp
      rcases List.mem_append.1 hp with hp | hp
      · obtain ⟨q, hq, rfl⟩ := List.mem_map.1 hp
        rw [pths_eq] at hq
        obtain ⟨i, r, rfl, _⟩ := mem_paths _ 0 q hq
        simp [bfr]
      · obtain ⟨i, r, rfl, _⟩ := mem_paths _ (k + 1) p hp
        exact bfr_lt _ _ _ _ (by omega)
    · refine (pths_ord d).imp ?_
      intro a b h
      simpa [bfr] using h
    · intro p hp q hq
      obtain ⟨p', _, rfl⟩ := List.mem_map.1 hp
      obtain ⟨i, r, rfl, _⟩ := mem_paths _ (k + 1) q hq
      exact bfr_lt _ _ _ _ (by omega)
end
end Nd
end Go.Vl
end

section
set_option linter.unusedVariables false
set_option linter.unusedSimpArgs false
set_option linter.unusedSectionVars false
namespace Go.Vl
open Go Go.Sem
section callg
variable {x : Cx} {L : List (Tmp × Bool × AV)} {M : List ME} {ops : Array Oper} {Q : Exit → Act → World → Prop} {rest : List Oper}
theorem W.callg {f : FuncId} {d : Tmp} {fo : Operand} {caps : List Value} {os : List Operand} {ats : Array TypeId} {ty : TypeId} {pos : String} {aft : Array Edge} {avs avs' : List AV} {r : AV} {Min Mr : List ME} {j : Nat} {want : Bool} {t : Tmp} {gb b G : Bool}
    (hj : (ops[j]?).bind (·.dst) = some t) (hl : look L t = some (gb, .lit (.bool b))) (hG : G = (gb && (b == want)))
    (hc : G = true → FnC x.P f avs' Min (fun r' M' => r' = r ∧ M' = Min)) (hfo : G = true → Ov true L fo (.lit (.func (.func f) #[] caps.toArray))) (ha : G = true → ArgsOv L os avs) (he : avs' = avs ++ caps.map .lit) (hM : List.Perm M (Min ++ Mr)) (hd : Nat.blt d x.n = true)
    (next : W x ((d, G, r) :: L) M (wpList x.P ops Q rest)) :
    W x L M (wpList x.P ops Q (⟨some d, .call ⟨.value fo, os.toArray, ats⟩, ty, pos, aft, some (j, want)⟩ :: rest)) := by
  intro a w hs
  have hw := guard_of (d := some d) (op := .call ⟨.value fo, os.toArray, ats⟩) (ty := ty) (pos := pos) (aft := aft) (want := want) hj hl hs
  rw [← hG] at hw
  cases hGv : G with
  | true =>
    have h := W.callv (ops := ops) (Q := Q) (rest := rest) (ats := ats) (ty := ty) (pos := pos) (aft := aft) (hc hGv) (hfo hGv) (ha hGv) he hM hd (fun r' M' hp => by
      obtain ⟨rfl, rfl⟩ := hp
      rw [hGv] at next
      exact W.perm hM.symm next) a w hs
    unfold wpList at h ⊢
    rw [if_pos (by rw [hw, hGv])]
    rw [if_pos (by simp [Region.wanted])] at h
    exact h
  | false =>
    refine wpList_cons_skip (by rw [hw, hGv]) ?_
    rw [hGv] at next
    exact next _ _ (hs.put hd false r undef (by simp) (fun _ => rfl))
theorem W.callgT {f : FuncId} {d : Tmp} {fo : Operand} {caps : List Value} {os : List Operand} {ats : Array TypeId} {ty : TypeId} {pos : String} {aft : Array Edge} {avs avs' : List AV} {r : AV} {Min Mr : List ME} {j : Nat} {t : Tmp} {b : Bool}
    (hj : (ops[j]?).bind (·.dst) = some t) (hl : look L t = some (true, .lit (.bool b)))
    (hc : (b) = true → FnC x.P f avs' Min (fun r' M' => r' = r ∧ M' = Min)) (hfo : (b) = true → Ov true L fo (.lit (.func (.func f) #[] caps.toArray))) (ha : (b) = true → ArgsOv L os avs) (he : avs' = avs ++ caps.map .lit) (hM : List.Perm M (Min ++ Mr)) (hd : Nat.blt d x.n = true)
    (next : W x ((d, b, r) :: L) M (wpList x.P ops Q rest)) :
    W x L M (wpList x.P ops Q (⟨some d, .call ⟨.value fo, os.toArray, ats⟩, ty, pos, aft, some (j, true)⟩ :: rest)) :=
  W.callg hj hl (by simp) hc hfo ha he hM hd next
theorem W.callgF {f : FuncId} {d : Tmp} {fo : Operand} {caps : List Value} {os : List Operand} {ats : Array TypeId} {ty : TypeId} {pos : String} {aft : Array Edge} {avs avs' : List AV} {r : AV} {Min Mr : List ME} {j : Nat} {t : Tmp} {b : Bool}
    (hj : (ops[j]?).bind (·.dst) = some t) (hl : look L t = some (true, .lit (.bool b)))
    (hc : (!b) = true → FnC x.P f avs' Min (fun r' M' => r' = r ∧ M' = Min)) (hfo : (!b) = true → Ov true L fo (.lit (.func (.func f) #[] caps.toArray))) (ha : (!b) = true → ArgsOv L os avs) (he : avs' = avs ++ caps.map .lit) (hM : List.Perm M (Min ++ Mr)) (hd : Nat.blt d x.n = true)
    (next : W x ((d, !b, r) :: L) M (wpList x.P ops Q rest)) :
    W x L M (wpList x.P ops Q (⟨some d, .call ⟨.value fo, os.toArray, ats⟩, ty, pos, aft, some (j, false)⟩ :: rest)) :=
  W.callg hj hl (by simp) hc hfo ha he hM hd next
end callg
/-- a row by a function of the place -/
abbrev rowB (n : Nat) (f : Nat → Bool) : List AV := (List.range n).map fun k => AV.bool (f k)
/-- the first place where it holds, or -1 -/
def idxI {α : Type} (p : α → Bool) : List α → Int
  | [] => -1
  | a :: l => if p a then 0 else if idxI p l < 0 then -1 else idxI p l + 1
theorem idxI_ge {α : Type} (p : α → Bool) : ∀ l : List α, -1 ≤ idxI p l
  | [] => by simp [idxI]
  | a :: l => by have := idxI_ge p l; rw [idxI]; split <;> (try split) <;> omega
/-- is a text a name? -/
def nameCh (r : Int) : Bool := ((decide (97 ≤ r) && decide (r ≤ 122)) || (decide (48 ≤ r) && decide (r ≤ 57))) || r == 45
def nameOk (s : List UInt8) : Bool := !(((s == [] || decide ((12 : Int) < (s.length : Int))) || decide (((s.getD 0 0).toNat : Int) < 97)) || decide ((122 : Int) < ((s.getD 0 0).toNat : Int))) && !((runes s).any fun r => !(nameCh (r : Int)))
end Go.Vl
end

section
set_option linter.unusedVariables false
set_option linter.unusedSimpArgs false
namespace Go.Vl
structure Rl where
  name : List UInt8
  act : Int
  to : List UInt8
abbrev rav (r : Rl) : AV := .agg [.str r.name, .int r.act, .str r.to]
namespace Nd
theorem text_mk (n : List UInt8) (a : List Dc) (t : List UInt8) (q : List Nd) : (mk n a t q).text = t := rfl
/-- is the last one a text? (p: where there is none) -/
def lastT (p : Bool) (l : List Nd) : Bool := match l.getLast? with
  | none => p
  | some d => d.name == []
mutual
/-- texts are not empty, hold nothing, and do not stand side by side (p: does one stand ahead?); elements have no text -/
def apt : Nd → Bool
  | mk _ _ _ q => apts false q
def apts : Bool → List Nd → Bool
  | _, [] => true
  | p, d :: l => (if d.name = [] then (!(d.text == []) && (d.parts.length == 0 && d.attrs.length == 0)) && !p else (d.text == []) && apt d) && apts (d.name == []) l
end
def apt1 (p : Bool) (d : Nd) : Bool := if d.name = [] then (!(d.text == []) && (d.parts.length == 0 && d.attrs.length == 0)) && !p else (d.text == []) && apts false d.parts
mutual
/-- all texts, one behind the other -/
def wd : Nd → List UInt8
  | mk _ _ _ q => wds q
def wds : List Nd → List UInt8
  | [] => []
  | d :: l => (d.text ++ wd d) ++ wds l
end
mutual
/-- the bytes of all texts, and of all names and values -/
def tsz : Nd → Nat
  | mk _ _ t q => t.length + tszs q
def tszs : List Nd → Nat
  | [] => 0
  | d :: l => tsz d + tszs l
end
mutual
theorem wd_len : ∀ d : Nd, d.text.length + (wd d).length = tsz d
  | mk _ _ t q => by have := wds_len q; simp only [wd, tsz, text_mk]; omega
theorem wds_len : ∀ l : List Nd, (wds l).length = tszs l
  | [] => rfl
  | d :: l => by have := wd_len d; have := wds_len l; simp only [wds, tszs, List.length_append]; omega
end
mutual
/-- have all elements one of these names? -/
def onl (ns : List (List UInt8)) : Nd → Bool
  | mk _ _ _ q => onls ns q
def onls (ns : List (List UInt8)) : List Nd → Bool
  | [] => true
  | d :: l => ((d.name == [] || ns.any fun s => d.name == s) && onl ns d) && onls ns l
end
/-- a node behind others; texts side by side are one -/
def jn1 (out : List Nd) (n : Nd) : List Nd :=
  if n.name = [] ∧ lastT false out = true then out.dropLast ++ [mk [] (out.getD (out.length - 1) dflt).attrs ((out.getD (out.length - 1) dflt).text ++ n.text) (out.getD (out.length - 1) dflt).parts] else out ++ [n]
def jn : List Nd → List Nd → List Nd
  | out, [] => out
  | out, n :: more => jn (jn1 out n) more
end Nd
namespace Rl
open Nd
abbrev dfl : Rl := ⟨[], 2, []⟩
/-- what is done with an element of a name -/
def of (rs : List Rl) (nm : List UInt8) : Rl := if 0 ≤ idxI (fun q => q.name == nm) rs then rs.getD (idxI (fun q => q.name == nm) rs).toNat dfl else dfl
def step (rs : List Rl) (out : List Nd) (d : Nd) (sub : List Nd) : List Nd :=
  if d.name = [] then (if d.text = [] then out else jn1 out (Nd.mk [] [] d.text []))
  else if (of rs d.name).act = 1 then out ++ [Nd.mk (of rs d.name).to d.attrs [] sub]
  else if (of rs d.name).act = 2 then jn out sub else out
mutual
def subs (rs : List Rl) : Nd → List Nd
  | .mk _ _ _ q => run rs [] q
def run (rs : List Rl) : List Nd → List Nd → List Nd
  | out, [] => out
  | out, d :: l => run rs (step rs out d (subs rs d)) l
end
mutual
/-- elements have no text, texts hold nothing -/
def plain : Nd → Prop
  | .mk n a t q => (n = [] → q = [] ∧ a = []) ∧ (n ≠ [] → t = []) ∧ plains q
def plains : List Nd → Prop
  | [] => True
  | d :: l => plain d ∧ plains l
end
/-- elements that are kept as_ they are -/
def kept (rs : List Rl) (nm : List UInt8) : Prop := (of rs nm).act = 1 ∧ (of rs nm).to = nm
mutual
def kp (rs : List Rl) : Nd → Prop
  | .mk n _ _ q => (n ≠ [] → kept rs n) ∧ kps rs q
def kps (rs : List Rl) : List Nd → Prop
  | [] => True
  | d :: l => kp rs d ∧ kps rs l
end
/-- texts that stand in no element -/
def outer (l : List Nd) : List UInt8 := l.flatMap text
end Rl
end Go.Vl
end

section
set_option linter.unusedVariables false
set_option linter.unusedSimpArgs false
namespace Go.Vl
namespace Nd
abbrev tx6 : List (List UInt8) := [[120], [97, 60, 98], [38, 97, 109, 112, 59], [121, 32, 122], [32], [60, 112, 62]]
abbrev vd2 : List (List UInt8) := [[98, 114], [105, 109, 103]]
abbrev el6 : List (List UInt8) := [[100, 105, 118], [98], [101, 109], [112], [97], [117, 108]]
abbrev vl5 : List (List UInt8) := [[], [120], [97, 34, 98, 38], [60], [104, 116, 116, 112, 58, 47, 47, 121]]
abbrev href : List UInt8 := [104, 114, 101, 102]
mutual
/-- what is drawn; k: not deeper than so; p: does a text stand ahead? -/
def dr : Nat → Nd → Prop
  | k, mk n a t q => (n = [] ∧ a = [] ∧ t ∈ tx6 ∧ q = []) ∨ (n ∈ vd2 ∧ a = [] ∧ t = [] ∧ q = []) ∨ (n ∈ el6 ∧ (a = [] ∨ ∃ v ∈ vl5, a = [(href, v)]) ∧ t = [] ∧ 2 ≤ k ∧ drs (k - 1) false q ∧ q.length ≤ 4)
def drs : Nat → Bool → List Nd → Prop
  | _, _, [] => True
  | k, p, d :: l => (d.name = [] → p = false) ∧ dr k d ∧ drs k (d.name == []) l
end
end Nd
namespace Rl
/-- rules that may be -/
structure ok (r : Rl) : Prop where
  n : nameOk r.name = true
  nl : r.name.length ≤ 1000
  a1 : 1 ≤ r.act
  a3 : r.act ≤ 3
  t : r.act = 1 → nameOk r.to = true
  tl : r.to.length ≤ 1000
  t0 : r.act ≠ 1 → r.to = []
structure oks (l : List Rl) : Prop where
  len : l.length ≤ 12
  all : ∀ r ∈ l, r.ok
  one : ∀ i, i < l.length → ((l.take i).any fun q => q.name == (l.getD i dfl).name) = false
abbrev nm6 : List (List UInt8) := [[100, 105, 118], [98], [101, 109], [112], [97], [117, 108]]
abbrev nm8 : List (List UInt8) := [[100, 105, 118], [98], [101, 109], [112], [97], [117, 108], [98, 114], [105, 109, 103]]
/-- rules of the first names -/
structure drawn (l : List Rl) : Prop where
  names : l.map (·.name) = nm6.take l.length
  all : ∀ r ∈ l, r.ok
abbrev tn (r : Rl) : Rl := ⟨r.name, r.act, if r.act = 1 then r.name else r.to⟩
/-- all elements left out -/
abbrev lv (l : List (List UInt8)) : List Rl := l.map fun s => ⟨s, 3, []⟩
/-- names that are kept -/
def kn (l : List Rl) : List (List UInt8) := (l.filter fun r => r.act == 1).map (·.to)
end Rl
end Go.Vl
end

section
set_option linter.unusedVariables false
set_option linter.unusedSimpArgs false
namespace Go.Vl
/-- a byte, escaped -/
def esc1 (q : Bool) (c : UInt8) : List UInt8 := if c = 38 then [38, 97, 109, 112, 59] else if c = 60 then [38, 108, 116, 59] else if c = 62 then [38, 103, 116, 59] else if c = 34 ∧ q = true then [38, 113, 117, 111, 116, 59] else [c]
def esc (q : Bool) (s : List UInt8) : List UInt8 := s.flatMap (esc1 q)
theorem esc1_len (q : Bool) (c : UInt8) : 1 ≤ (esc1 q c).length ∧ (esc1 q c).length ≤ 6 := by
  unfold esc1; split; decide; split; decide; split; decide; split; decide; exact ⟨Nat.le_refl _, by simp⟩
theorem esc_len (q : Bool) : ∀ s : List UInt8, s.length ≤ (esc q s).length ∧ (esc q s).length ≤ 6 * s.length
  | [] => by simp [esc]
  | c :: s => by
    have h1 := esc1_len q c
    have h2 := esc_len q s
    have e : esc q (c :: s) = esc1 q c ++ esc q s := by simp [esc]
    rw [e, List.length_append, List.length_cons]; omega
theorem esc_snoc (q : Bool) (s : List UInt8) (i : Nat) (h : i < s.length) : esc q (s.take (i + 1)) = esc q (s.take i) ++ esc1 q (s.getD i 0) := by
  rw [take_getDG 0 s i h, esc, List.flatMap_append]; simp [esc]
theorem esc_append (q : Bool) (s t : List UInt8) : esc q (s ++ t) = esc q s ++ esc q t := by simp [esc]
theorem u8_is (c : UInt8) (n : Nat) (hn : n < 256) (h : (((c.toNat : Nat) : Int) == ((n : Nat) : Int)) = true) : c = UInt8.ofNat n := by
  have h1 : c.toNat = n := by have := beq_iff_eq.1 h; omega
  apply UInt8.toNat_inj.1
  rw [h1]; simp [Nat.mod_eq_of_lt hn]
theorem u8_isnt (c : UInt8) (n : Nat) (hn : n < 256) (h : (((c.toNat : Nat) : Int) == ((n : Nat) : Int)) = false) : c ≠ UInt8.ofNat n := by
  rintro rfl
  simp [Nat.mod_eq_of_lt hn] at h
/-- a token -/
structure Tk where
  kind : Int
  name : List UInt8
  attrs : List Dc
  self : Bool
  text : List UInt8
abbrev tav (t : Tk) : AV := .agg [.int t.kind, .str t.name, .sl 2 (t.attrs.map dav), .bool t.self, .str t.text]
def attrS (a : Dc) : List UInt8 := (([32] ++ a.1) ++ [61, 34] ++ esc true a.2) ++ [34]
def tagS (name : List UInt8) (attrs : List Dc) (self : Bool) : List UInt8 := (([60] ++ name) ++ attrs.flatMap attrS ++ (if self then [47] else [])) ++ [62]
/-- attributes that may be -/
structure okAt (l : List Dc) : Prop where
  len : l.length ≤ 4
  all : ∀ a ∈ l, nameOk a.1 = true ∧ a.1.length ≤ 1000
  one : ∀ i, i < l.length → ((l.take i).any fun b => (l.getD i ([], [])).1 == b.1) = false
namespace Tk
abbrev dfl : Tk := ⟨0, [], [], false, []⟩
def txt (t : Tk) : List UInt8 := if t.kind = 1 then tagS t.name t.attrs t.self else if t.kind = 2 then ([60, 47] ++ t.name) ++ [62] else esc false t.text
def txts (l : List Tk) : List UInt8 := l.flatMap txt
abbrev nm5 : List (List UInt8) := [[112], [98], [105], [108, 105], [104, 45, 49]]
abbrev tx7 : List (List UInt8) := [[120], [97, 60, 98], [38, 97, 109, 112, 59], [34, 113, 34], [60, 112, 62], [32, 62, 32], [38, 35, 54, 48, 59]]
abbrev vl6 : List (List UInt8) := [[], [120], [97, 34, 98], [60, 38, 62], [97, 32, 98], [38, 108, 116, 59]]
abbrev at2 : List (List UInt8) := [[99, 108, 97, 115, 115], [104, 114, 101, 102]]
abbrev raws : List (List UInt8) := [[115, 99, 114, 105, 112, 116], [115, 116, 121, 108, 101], [116, 101, 120, 116, 97, 114, 101, 97], [116, 105, 116, 108, 101]]
/-- a token that is drawn -/
def drawn (t : Tk) : Prop := (t.kind = 1 ∧ t.name ∈ nm5 ∧ (t.attrs.map (·.1) = at2.take t.attrs.length ∧ ∀ a ∈ t.attrs, a.2 ∈ vl6) ∧ t.text = []) ∨ (t.kind = 2 ∧ t.name ∈ nm5 ∧ t.attrs = [] ∧ t.self = false ∧ t.text = []) ∨ (t.kind = 3 ∧ t.name = [] ∧ t.attrs = [] ∧ t.self = false ∧ t.text ∈ tx7)
def drawns : Bool → List Tk → Prop
  | _, [] => True
  | p, t :: l => (t.kind = 3 → p = false) ∧ drawn t ∧ drawns (t.kind == 3) l
def lastK (p : Bool) (l : List Tk) : Bool := match l.getLast? with
  | none => p
  | some t => t.kind == 3
end Tk
end Go.Vl
end

section
set_option linter.unusedVariables false
set_option linter.unusedSimpArgs false
namespace Go.Vl
/-- a letter of an escaped text: as_ it is, or by its name -/
abbrev Pc := UInt8 × Bool
namespace Pc
def nm (c : UInt8) : List UInt8 := if c = 38 then [97, 109, 112] else if c = 60 then [108, 116] else if c = 62 then [103, 116] else [113, 117, 111, 116]
def txt (p : Pc) : List UInt8 := if p.2 = true then 38 :: (nm p.1 ++ [59]) else [p.1]
def ok (p : Pc) : Prop := if p.2 = true then (p.1 = 38 ∨ p.1 = 60 ∨ p.1 = 62 ∨ p.1 = 34) else p.1 ≠ 38
def flat (e : List Pc) : List UInt8 := e.flatMap txt
def of (q : Bool) (c : UInt8) : Pc := (c, decide (c = 38 ∨ c = 60 ∨ c = 62 ∨ (c = 34 ∧ q = true)))
theorem of_txt (q : Bool) (c : UInt8) : txt (of q c) = esc1 q c := by
  unfold txt of esc1 nm
  by_cases h1 : c = 38
  · simp [h1]
  · by_cases h2 : c = 60
    · simp [h2]
    · by_cases h3 : c = 62
      · simp [h3]
      · by_cases h4 : c = 34 ∧ q = true
        · simp [h4.1, h4.2]
        · simp [h1, h2, h3, h4]
theorem of_ok (q : Bool) (c : UInt8) : ok (of q c) := by
  unfold ok of
  by_cases h : c = 38 ∨ c = 60 ∨ c = 62 ∨ (c = 34 ∧ q = true)
  · simp only [h, decide_true, if_true]
    rcases h with h | h | h | h
    · exact .inl h
    · exact .inr (.inl h)
    · exact .inr (.inr (.inl h))
    · exact .inr (.inr (.inr h.1))
  · simp only [h, decide_false]
    exact fun h' => h (.inl h')
theorem esc_flat (q : Bool) (s : List UInt8) : flat (s.map (of q)) = esc q s := by
  rw [flat, esc, List.flatMap_map]
  exact congrArg (fun f => s.flatMap f) (funext (of_txt q))
theorem fst_of (q : Bool) (s : List UInt8) : (s.map (of q)).map Prod.fst = s := by
  rw [List.map_map]; exact List.map_id'' (fun _ => rfl) s
theorem ok_of (q : Bool) (s : List UInt8) : ∀ p ∈ s.map (of q), ok p := by
  intro p hp
  obtain ⟨c, _, rfl⟩ := List.mem_map.1 hp
  exact of_ok q c
abbrev dfl : Pc := (0, false)
theorem nm_no (c : UInt8) : ∀ b ∈ nm c, b ≠ 59 ∧ b ≠ 35 := by
  unfold nm; split; decide; split; decide; split; decide; decide
theorem idx_app (A B : List UInt8) (h : ∀ b ∈ A, b ≠ 59) : idxI (fun b => b == 59) (A ++ 59 :: B) = A.length := by
  induction A with
  | nil => simp [idxI]
  | cons a A ih =>
    have h1 := ih (fun b hb => h b (List.mem_cons_of_mem _ hb))
    have h2 : a ≠ 59 := h a List.mem_cons_self
    rw [List.cons_append, idxI, if_neg (by simpa using h2), h1, if_neg (by omega)]
    simp
end Pc
open Go Go.Sem
theorem idx_lib (c : UInt8) : ∀ l : List UInt8, Lib.indexByte l c = idxI (fun b => b == c) l
  | [] => rfl
  | b :: l => by
    have ih := idx_lib c l
    have hg := idxI_ge (fun b => b == c) l
    rw [Lib.indexByte, idxI, ih]
    by_cases h : (b == c) = true
    · rw [if_pos h, if_pos h]
    · rw [if_neg h, if_neg h]
      by_cases h2 : idxI (fun b => b == c) l = -1
      · rw [h2]; rfl
      · rw [if_neg (by simpa using h2), if_neg (by omega)]
/-- the model stands in for internal/bytealg.IndexByteString -/
theorem Ev.ixb {x : Cx} {g : Bool} {L : List (Tmp × Bool × AV)} {M : List ME} {ty : TypeId} {o1 o2 : Operand} {f : FuncId} {fn : Func} {ats : Array TypeId} {l : List UInt8} {c : UInt8} (hf : x.P.funcs[f]? = some fn) (hname : (fn.name == "runtime.NumGoroutine") = false)
    (hb : fn.body.isNone = true) (hn : Extern.findNext fn = none) (he : Extern.find fn = some Extern.BytealgIndexByte.indexByte) (h1 : Ov g L o1 (.str l)) (h2 : Ov g L o2 (.lit (.int .u8 (c.toNat : Int)))) :
    Ev x g L M (.call ⟨.value (.func f), #[o1, o2], ats⟩) ty (.lit (.int .i64 (idxI (fun b => b == c) l))) :=
  Ev.pure fun a w hst hg => by
    have e1 : a.eval o1 = .string ⟨l.toArray⟩ := h1.lit hg hst
    have e2 : a.eval o2 = .int .u8 (c.toNat : Int) := h2.lit hg hst
    have hv : a.eval (.func f) = .func (.func f) #[] #[] := rfl
    have hc : ((c.toNat : Int)).toNat.toUInt8 = c := by simp
    have hr : (callFunc f #[.string ⟨l.toArray⟩, .int .u8 (c.toNat : Int)]).run x.P w = .ok (.value (.int .i64 (idxI (fun b => b == c) l))) w := by
      rw [run_callFunc_extern hf hname hb hn he, Lib.run_indexByteString, Result.andThen_ok, hc, idx_lib]
    simp only [execOp, resolve, hv, Deferred.ofValue, Sem.run_bind, Sem.run_pure, Result.andThen_ok, invoke, List.map_toArray, List.map_cons, List.map_nil, e1, e2]
    simpa using hr
end Go.Vl
end

section
set_option linter.unusedVariables false
set_option linter.unusedSimpArgs false
namespace Go.Vl
section s2b
variable {x : Cx} {g : Bool} {L : List (Tmp × Bool × AV)} {M : List ME} {ops : Array Oper} {Q : Exit → Act → World → Prop} {rest : List Oper} {ty : TypeId} {pos : String} {aft : Array Edge}
theorem bytesWorld_alloc (w : World) (e : TypeId) (s : ByteArray) : Lib.bytesWorld w e s = w.drew.alloc (.cells (Lib.bytesCells w e s) e ((Lib.bytesCells w e s).size, (Lib.bytesCells w e s).size + 1)) := by
  have hh : (Lib.bytesWorld w e s).heap = (w.drew.alloc (.cells (Lib.bytesCells w e s) e ((Lib.bytesCells w e s).size, (Lib.bytesCells w e s).size + 1))).heap := by
    refine Array.ext_getElem? fun j => ?_
    rcases Nat.lt_trichotomy j w.heap.size with h | h | h
    · rw [Lib.bytesWorld_at_old w e s j h]
      exact (alloc_old w.drew _ h).symm
    · subst h
      rw [Lib.bytesWorld_at_new w e s]
      exact (alloc_new w.drew _).symm
    · rw [Array.getElem?_eq_none (by rw [Lib.bytesWorld_size]; omega), Array.getElem?_eq_none (by rw [World.size_alloc]; show w.heap.size + 1 ≤ j; omega)]
  have h1 : Lib.bytesWorld w e s = { (w.drew.alloc (.cells (Lib.bytesCells w e s) e ((Lib.bytesCells w e s).size, (Lib.bytesCells w e s).size + 1))) with heap := (Lib.bytesWorld w e s).heap } := rfl
  rw [h1, hh]
theorem W.s2b {d : Tmp} {T T' E : TypeId} {o1 : Operand} {s : List UInt8} {u : TypeDesc} (h1 : Ov true L o1 (.str s)) (hT : x.P.underlying T = some u) (hT' : x.P.underlying T' = some (.slice E)) (hE : x.P.underlying E = some (.int .u8)) (hl : s.length ≤ 1099511627776) (hd : Nat.blt d x.n = true)
    (next : ∀ v', W x ((d, true, .lit v') :: L) (ME.arr v' E 1 (s.map AV.u8) :: M) (wpList x.P ops Q rest)) :
    W x L M (wpList x.P ops Q (⟨some d, .convert T T' o1, ty, pos, aft, none⟩ :: rest)) := by
  refine W.opv (ι := Value) (fun v' => ME.arr v' E 1 (s.map AV.u8) :: M) (fun v' => .lit v') hd ?_ next
  intro a w hs
  have e1 : a.eval o1 = .string ⟨s.toArray⟩ := h1.lit rfl hs
  have hsz : (ByteArray.mk s.toArray).size = s.length := by simp [ByteArray.size]
  have hrun := Lib.run_convert_string_bytes (P := x.P) w T T' E ⟨s.toArray⟩ hT hT' hE
  rw [hsz, bytesWorld_alloc] at hrun
  obtain ⟨hg1, hg2⟩ := cap_cut w s.length 0 E (by simp only [maxLen]; omega)
  refine ⟨.slice (some ⟨w.heap.size, 0, none⟩) s.length (grownCap w s.length 0 E), w.drew.alloc (.cells (Lib.bytesCells w E ⟨s.toArray⟩) E ((Lib.bytesCells w E ⟨s.toArray⟩).size, (Lib.bytesCells w E ⟨s.toArray⟩).size + 1)), .slice (some ⟨w.heap.size, 0, none⟩) s.length (grownCap w s.length 0 E), ?_, ?_, Rep.lit _⟩
  · simp only [execOp, e1, Sem.run_bind, hrun, Result.andThen_ok, Sem.run_pure]
  · have hd1 : St x L M a w.drew := hs.same rfl rfl rfl rfl
    refine hd1.alloc _ _ rfl ?_
    intro N hN
    have hcs : (Lib.bytesCells w E ⟨s.toArray⟩).size = grownCap w s.length 0 E := by
      simp only [Lib.bytesCells, Array.size_append, Array.size_map, Array.size_replicate, hsz]
      show s.toArray.size + _ = _
      simp only [List.size_toArray]; omega
    refine ⟨some ⟨w.heap.size, 0, none⟩, grownCap w s.length 0 E, by rw [List.length_map], by rw [List.length_map]; exact hg1, hg2, .inr ⟨w.heap.size, 0, Lib.bytesCells w E ⟨s.toArray⟩, (Lib.bytesCells w E ⟨s.toArray⟩).size, (Lib.bytesCells w E ⟨s.toArray⟩).size + 1, rfl, alloc_new w.drew _, by omega, .inr (by omega), ?_⟩⟩
    rw [List.drop_zero]
    have hl2 : (Lib.bytesCells w E ⟨s.toArray⟩).toList = (s.map fun b => Value.int .u8 (b.toNat : Int)) ++ List.replicate (grownCap w s.length 0 E - s.length) (.int .u8 0) := by
      simp [Lib.bytesCells, hsz]
    rw [hl2]
    exact RepE.congr (RepE.u8s s) (by rw [List.length_map, Nat.mul_one, List.take_append_of_le_length (by simp)])
theorem Ev.min {o1 o2 : Operand} {T T' : TypeId} {ki : IntKind} {p q : Int} (h1 : Ov g L o1 (.lit (.int ki p))) (h2 : Ov g L o2 (.lit (.int ki q))) : Ev x g L M (.call ⟨.builtin .min, #[o1, o2], #[T, T']⟩) ty (.lit (.int ki (if q < p then q else p))) := Ev.pure fun a w hs hg => by
  simp [execOp, resolve, invoke, builtin, h1.lit hg hs, h2.lit hg hs, Builtin.min_, Builtin.min2]
end s2b
end Go.Vl
end

section
set_option linter.unusedVariables false
set_option linter.unusedSimpArgs false
set_option linter.unusedSectionVars false
namespace Go.Vl
/-- the entries of such a map -/
def mEnts : Nat → List Value → List MapEntry
  | _, [] => []
  | i, k :: ks => ⟨k, .int .i64 (i : Int), i⟩ :: mEnts (i + 1) ks
def mObj (ks : List Value) : Obj := .map (mEnts 0 ks).toArray ks.length
/-- where a key stands among others -/
def place {α : Type} [DecidableEq α] (k : α) : List α → Option Nat
  | [] => none
  | q :: ks => if k = q then some 0 else (place k ks).map (· + 1)
/-- a kind of keys that the model finds at once -/
structure KeyKind (P : Program) (K : TypeId) {α : Type} [DecidableEq α] (f : α → Value) : Prop where
  check : ∀ (e : Bool) (k : α) (w : World), (Instr.checkKey e 10000 K (f k)).run P w = .ok () w
  find : ∀ (k : α) (ks : List α) (w : World), (Instr.findKey K (f k) (mEnts 0 (ks.map f))).run P w = .ok ((place k ks).map fun i => (i, .int .i64 (i : Int))) w
theorem findNow_place {α : Type} [DecidableEq α] {f : α → Value} {d : TypeDesc} (hs : ∀ a b : α, Instr.sameNow d (f a) (f b) = some (decide (a = b))) (k : α) :
    ∀ (ks : List α) (i : Nat), Instr.findNow d (f k) (mEnts i (ks.map f)) i = some ((place k ks).map fun j => (i + j, .int .i64 ((i + j : Nat) : Int)))
  | [], i => rfl
  | q :: ks, i => by
    rw [List.map_cons, mEnts, Instr.findNow, hs, place]
    by_cases h : k = q
    · rw [if_pos h, decide_eq_true h]; rfl
    · rw [if_neg h, decide_eq_false h]
      show Instr.findNow d (f k) (mEnts (i + 1) (ks.map f)) (i + 1) = _
      rw [findNow_place hs k ks (i + 1), Option.map_map]
      congr 2
      funext j
      show (i + 1 + j, Value.int .i64 ((i + 1 + j : Nat) : Int)) = (i + (j + 1), Value.int .i64 ((i + (j + 1) : Nat) : Int))
      rw [show i + 1 + j = i + (j + 1) from by omega]
theorem KeyKind.str {P : Program} {K : TypeId} (hK : P.underlying K = some .string) : KeyKind P K (fun s : List UInt8 => Value.string ⟨s.toArray⟩) := by
  refine ⟨fun e k w => ?_, fun k ks w => ?_⟩
  · exact Go.MapKept.run_checkKey hK (by trivial) e 9999
  · have h := findNow_place (d := .string) (f := fun s : List UInt8 => Value.string ⟨s.toArray⟩) (fun a b => by
      show some ((⟨a.toArray⟩ : ByteArray) == ⟨b.toArray⟩) = _
      congr 1
      show (a.toArray == b.toArray) = _
      by_cases h : a = b
      · subst h; simp
      · rw [decide_eq_false h]
        exact beq_eq_false_iff_ne.2 fun h' => h (by simpa using congrArg Array.toList h')) k ks 0
    simp only [Instr.findKey, Sem.run_bind, run_underlying hK, Result.andThen_ok, h, Sem.run_pure]
    simp
theorem KeyKind.int {P : Program} {K : TypeId} (hK : P.underlying K = some (.int .i64)) : KeyKind P K (fun n : Int => Value.int .i64 n) := by
  refine ⟨fun e k w => ?_, fun k ks w => ?_⟩
  · exact Go.MapKept.run_checkKey (k := .int .i64 k) hK rfl e 9999
  · have h := findNow_place (d := .int .i64) (f := fun n : Int => Value.int .i64 n) (fun a b => by
      by_cases h : a = b
      · subst h; simp [Instr.sameNow]
      · simp [Instr.sameNow, h]) k ks 0
    simp only [Instr.findKey, Sem.run_bind, run_underlying hK, Result.andThen_ok, h, Sem.run_pure]
    simp
/-- what a slot holds, said in another way -/
theorem W.conv {x : Cx} {L : List (Tmp × Bool × AV)} {M : List ME} {R : Act → World → Prop} {t : Tmp} {av av' : AV} (h : look L t = some (true, av)) (e : ∀ w N v, Rep w N av v → Rep w N av' v) (next : W x ((t, true, av') :: L) M R) : W x L M R := by
  intro a w hs
  refine next a w ⟨hs.defers, hs.size, ?_, hs.mem, hs.fr, hs.old⟩
  intro u g' av2 hl
  rw [look_cons] at hl
  by_cases e' : t = u
  · subst e'
    rw [if_pos rfl] at hl
    cases hl
    have := hs.slots t true av h
    exact ⟨fun hg => e _ _ _ (this.1 hg), fun hg => by cases hg⟩
  · rw [if_neg e'] at hl; exact hs.slots u g' av2 hl
/-- a struct of two numbers as_ a key -/
def pv (p : Int × Int) : Value := .agg #[.int .i64 p.1, .int .i64 p.2]
theorem Rep.pv {w : World} {N : List Nat} {a b : Int} {v : Value} (h : Rep w N (.agg [.int a, .int b]) v) : Rep w N (.lit (pv (a, b))) v := by
  obtain ⟨h1, h2⟩ := h
  cases v <;> simp [AV.sh, shV] at h1
  simp only [RepC, RepL] at h2
  rename_i cells
  obtain ⟨v1, vs1, e1, ⟨_, _, r1⟩, v2, vs2, e2, ⟨_, _, r2⟩, e3⟩ := h2
  subst e3
  subst e2
  obtain rfl := List.cons.inj r1 |>.1
  obtain rfl := List.cons.inj r2 |>.1
  have : Value.agg cells = Vl.pv (a, b) := by
    unfold Vl.pv
    congr 1
    exact Array.toList_inj.1 (by simpa [Value.cells] using e1)
  rw [this]
  exact Rep.lit _
section map
variable {x : Cx} {g : Bool} {L : List (Tmp × Bool × AV)} {M : List ME} {ops : Array Oper} {Q : Exit → Act → World → Prop} {rest : List Oper} {ty : TypeId} {pos : String} {aft : Array Edge}
end map
end Go.Vl
end

section
set_option linter.unusedVariables false
set_option linter.unusedSimpArgs false
set_option linter.unusedSectionVars false
namespace Go.Vl
section arrv
variable {x : Cx} {g : Bool} {L : List (Tmp × Bool × AV)} {M : List ME} {ty T : TypeId} {o1 o2 : Operand}
end arrv
end Go.Vl
end
