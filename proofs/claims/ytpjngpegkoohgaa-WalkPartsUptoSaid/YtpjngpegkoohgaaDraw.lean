/-
  Regions that draw their order: operations that only add to memory give the same whatever the order.
-/
import Derived.Test.YtpjngpegkoohgaaMem
set_option linter.unusedVariables false
set_option linter.unusedSimpArgs false
set_option linter.unusedSectionVars false
namespace Go.Vl

abbrev En := Tmp × Bool × AV

def sel (r : List Tmp) : List En → List En
  | [] => []
  | e :: L => bif r.any (Nat.beq e.1) then e :: sel r L else sel r L

theorem any_beq {r : List Tmp} {t : Tmp} : r.any (Nat.beq t) = true ↔ t ∈ r := by
  rw [List.any_eq_true]
  constructor
  · rintro ⟨u, hu, h⟩; exact (Nat.eq_of_beq_eq_true h) ▸ hu
  · intro h; exact ⟨t, h, Nat.beq_refl t⟩
theorem look_sel (r : List Tmp) (L : List En) (t : Tmp) : look (sel r L) t = if t ∈ r then look L t else none := by
  induction L with
  | nil => simp [sel, look]
  | cons e L ih =>
    obtain ⟨u, p⟩ := e
    rw [sel]
    cases hb : r.any (Nat.beq u) with
    | true =>
      have hu := any_beq.1 hb
      simp only [cond_true]
      rw [look_cons, look_cons, ih]
      by_cases e : u = t
      · subst e; simp [hu]
      · simp [e]
    | false =>
      have hu : u ∉ r := fun h => by rw [any_beq.2 h] at hb; cases hb
      simp only [cond_false]
      rw [ih, look_cons]
      by_cases e : u = t
      · subst e; simp [hu]
      · simp [e]

section draw
variable {x : Cx} {L : List En} {M : List ME} {Q : Exit → Act → World → Prop}

/-- an operation that only adds to memory, and what it gives -/
def Sv (x : Cx) (L : List En) (M : List ME) (o : Oper) (av : AV) : Prop :=
  ∀ a w, St x L M a w → ∀ (K : Act → World → Prop) (Q : Exit → Act → World → Prop),
    (∀ v w', Keep w (bl M ++ x.F) w' (bl M ++ x.F) → MOk w' M x.F → Fr x.w0 x.N0 w' (bl M) → Rep w' (bl M ++ x.F) av v → K (a.put o.dst v) w') → o.wp x.P a w K Q

def Gd (ops : Array Oper) (L : List En) (o : Oper) (G : Bool) : Prop :=
  (o.guard = none ∧ G = true) ∨ ∃ j want t gb b, o.guard = some (j, want) ∧ (ops[j]?).bind (·.dst) = some t ∧ look L t = some (gb, .lit (.bool b)) ∧ G = (gb && (b == want))

/-- the region's operations in the text's order, each by what it looks at alone -/
def DP (x : Cx) (M : List ME) (ops : Array Oper) (L : List En) (R : Act → World → Prop) : List Oper → List En → Prop
  | [], done => W x (done ++ L) M R
  | o :: rest, done => ∃ d G av, o.dst = some d ∧ Nat.blt d x.n = true ∧ Gd ops (sel (o.looksAt ops) (done ++ L)) o G ∧ (G = true → Sv x (sel (o.looksAt ops) (done ++ L)) M o av) ∧ DP x M ops L R rest ((d, G, av) :: done)

theorem DP.extract {ops : Array Oper} {R : Act → World → Prop} : ∀ {rest : List Oper} {done : List En}, DP x M ops L R rest done →
    ∃ es : List En, es.length = rest.length ∧ (∀ (i : Nat) (o : Oper), rest[i]? = some o → ∃ d G av, es[i]? = some (d, G, av) ∧ o.dst = some d ∧ Nat.blt d x.n = true ∧ Gd ops (sel (o.looksAt ops) ((es.take i).reverse ++ (done ++ L))) o G ∧
      (G = true → Sv x (sel (o.looksAt ops) ((es.take i).reverse ++ (done ++ L))) M o av)) ∧ W x (es.reverse ++ (done ++ L)) M R
  | [], done, h => ⟨[], rfl, by simp, by simpa [DP] using h⟩
  | o :: rest, done, h => by
    obtain ⟨d, G, av, h1, h2, h3, h4, h5⟩ := h
    obtain ⟨es, e1, e2, e3⟩ := DP.extract h5
    refine ⟨(d, G, av) :: es, by simp [e1], ?_, by simpa using e3⟩
    intro i o' ho'
    cases i with
    | zero => simp at ho'; subst ho'; exact ⟨d, G, av, rfl, h1, h2, by simpa using h3, by simpa using h4⟩
    | succ i =>
      obtain ⟨d', G', av', f1, f2, f3, f4, f5⟩ := e2 i o' (by simpa using ho')
      exact ⟨d', G', av', by simpa using f1, f2, f3, by simpa using f4, by simpa using f5⟩

/-- what is asked of the operations' edges: decided by looking -/
def okDraw (ops : Array Oper) : Bool :=
  (List.range ops.size).all fun i => match ops[i]? with
    | none => false
    | some oi => oi.after.all (fun e => e.on < i) && (List.range ops.size).all fun j => match ops[j]? with
      | none => false
      | some oj => i == j || (oi.dst != oj.dst && match oj.dst with
        | none => false
        | some d => !(oi.looksAt ops).contains d || (bif j < i then oi.after.any (fun e => Region.binds .any e && e.on == j) else oj.after.any (fun e => Region.binds .any e && e.on == i)))

theorem St.look {L L' : List En} {a : Act} {w : World} (hs : St x L M a w) (h : ∀ t p, look L' t = some p → Vl.look L t = some p) : St x L' M a w :=
  ⟨hs.defers, hs.size, fun t g av hl => hs.slots t g av (h t _ hl), hs.mem, hs.fr, hs.old⟩

theorem look_append (A L : List En) (t : Tmp) : look (A ++ L) t = (look A t).or (look L t) := by
  induction A with
  | nil => simp [look]
  | cons e A ih =>
    obtain ⟨u, p⟩ := e
    rw [List.cons_append, look_cons, look_cons, ih]
    split <;> simp
theorem look_none {A : List En} {t : Tmp} (h : ∀ e ∈ A, e.1 ≠ t) : look A t = none := by
  induction A with
  | nil => rfl
  | cons e A ih =>
    obtain ⟨u, p⟩ := e
    rw [look_cons, if_neg (h (u, p) (by simp)), ih (fun e he => h e (by simp [he]))]
/-- with keys that differ, an entry is found -/
theorem look_mem {A : List En} {t : Tmp} {p : Bool × AV} (hm : (t, p) ∈ A) (hd : ∀ e ∈ A, ∀ e' ∈ A, e.1 = e'.1 → e = e') : look A t = some p := by
  induction A with
  | nil => simp at hm
  | cons e A ih =>
    obtain ⟨u, q⟩ := e
    rw [look_cons]
    by_cases e : u = t
    · subst e
      have := hd (u, q) (by simp) (u, p) hm rfl
      rw [if_pos rfl]
      cases this; rfl
    · rw [if_neg e]
      refine ih ?_ (fun e he e' he' => hd e (by simp [he]) e' (by simp [he']))
      rcases List.mem_cons.1 hm with h | h
      · cases h; exact absurd rfl e
      · exact h

def esOf (es : List En) (listed : Array Bool) : List En := ((List.range es.length).filter fun i => listed.getD i false).filterMap fun i => es[i]?
theorem mem_esOf {es : List En} {listed : Array Bool} {e : En} : e ∈ esOf es listed ↔ ∃ i, listed.getD i false = true ∧ es[i]? = some e := by
  simp only [esOf, List.mem_filterMap, List.mem_filter, List.mem_range]
  constructor
  · rintro ⟨i, ⟨_, h⟩, h'⟩; exact ⟨i, h, h'⟩
  · rintro ⟨i, h, h'⟩
    refine ⟨i, ⟨?_, h⟩, h'⟩
    rcases Nat.lt_or_ge i es.length with hl | hl
    · exact hl
    · rw [List.getElem?_eq_none hl] at h'; cases h'

theorem count_set : ∀ (ls : List Bool) (i : Nat) (h : i < ls.length), ls[i] = false → ((ls.set i true).filter (!·)).length < (ls.filter (!·)).length
  | [], i, h, _ => by simp at h
  | b :: ls, 0, _, hv => by simp at hv; subst hv; simp
  | b :: ls, i + 1, h, hv => by
    have := count_set ls i (by simpa using h) (by simpa using hv)
    simp only [List.set_cons_succ, List.filter_cons]
    split <;> simp <;> omega

theorem W.drawn {id : Nat} {l : List Oper} (hm : x.P.follows .mixedOrders = true) (hok : okDraw l.toArray = true) (h : DP x M l.toArray L (Q .normal) l []) : W x L M (Code.wp x.P (.region id l.toArray true) Q) := by
  intro a w hs
  obtain ⟨es, hlen, hes, hW⟩ := h.extract
  simp only [List.nil_append] at hes hW
  -- the edges, in words
  have hok' : ∀ (i : Nat) (oi : Oper), l[i]? = some oi → (∀ e ∈ oi.after, e.on < i) ∧ ∀ (j : Nat) (oj : Oper), l[j]? = some oj → i ≠ j → oi.dst ≠ oj.dst ∧ ∀ d, oj.dst = some d → d ∈ oi.looksAt l.toArray →
      (j < i ∧ ∃ e ∈ oi.after, Region.binds .any e = true ∧ e.on = j) ∨ (i < j ∧ ∃ e ∈ oj.after, Region.binds .any e = true ∧ e.on = i) := by
    intro i oi hi
    have hil : i < l.length := by
      rcases Nat.lt_or_ge i l.length with h' | h'
      · exact h'
      · rw [List.getElem?_eq_none h'] at hi; cases hi
    simp only [okDraw, List.size_toArray, List.all_eq_true, List.mem_range] at hok
    have h1 := hok i hil
    rw [List.getElem?_toArray, hi] at h1
    simp only [Bool.and_eq_true, Array.all_eq_true', List.all_eq_true, List.mem_range, decide_eq_true_eq] at h1
    refine ⟨h1.1, fun j oj hj hne => ?_⟩
    have hjl : j < l.length := by
      rcases Nat.lt_or_ge j l.length with h' | h'
      · exact h'
      · rw [List.getElem?_eq_none h'] at hj; cases hj
    have h2 := h1.2 j hjl
    rw [List.getElem?_toArray, hj] at h2
    simp only [Bool.or_eq_true, beq_iff_eq, hne, false_or, Bool.and_eq_true, bne_iff_ne] at h2
    refine ⟨h2.1, fun d hd hdl => ?_⟩
    have h3 := h2.2
    rw [hd] at h3
    simp only [Bool.or_eq_true, Bool.not_eq_true', List.contains_eq_mem, decide_eq_false_iff_not, hdl, not_true_eq_false, false_or] at h3
    by_cases hji : j < i
    · left
      simp only [hji, decide_true, cond_true, Array.any_eq_true', Bool.and_eq_true, beq_iff_eq] at h3
      obtain ⟨e, he, hb, ho⟩ := h3
      exact ⟨hji, e, he, hb, ho⟩
    · right
      simp only [hji, decide_false, cond_false, Array.any_eq_true', Bool.and_eq_true, beq_iff_eq] at h3
      obtain ⟨e, he, hb, ho⟩ := h3
      exact ⟨by omega, e, he, hb, ho⟩
  have hget : ∀ (i : Nat) (e : En), es[i]? = some e → ∃ oi : Oper, l[i]? = some oi ∧ oi.dst = some e.1 := by
    intro i e he
    have hil : i < l.length := by
      rcases Nat.lt_or_ge i es.length with h' | h'
      · omega
      · rw [List.getElem?_eq_none h'] at he; cases he
    obtain ⟨d, G, av, h1, h2, _⟩ := hes i l[i] (List.getElem?_eq_getElem hil)
    rw [he] at h1
    cases h1
    exact ⟨l[i], List.getElem?_eq_getElem hil, h2⟩
  have hkey : ∀ (i j : Nat) (e e' : En), es[i]? = some e → es[j]? = some e' → e.1 = e'.1 → i = j := by
    intro i j e e' hi hj he
    by_cases hne : i = j
    · exact hne
    · obtain ⟨oi, h1, h2⟩ := hget i e hi
      obtain ⟨oj, h3, h4⟩ := hget j e' hj
      exact absurd (by rw [h2, h4, he]) (((hok' i oi h1).2 j oj h3 hne).1)
  have hdist : ∀ listed, ∀ e ∈ esOf es listed, ∀ e' ∈ esOf es listed, e.1 = e'.1 → e = e' := by
    intro listed e he e' he' hk
    obtain ⟨i, _, hi⟩ := mem_esOf.1 he
    obtain ⟨j, _, hj⟩ := mem_esOf.1 he'
    have := hkey i j e e' hi hj hk
    subst this
    rw [hi] at hj; cases hj; rfl
  refine wp_region_any hm ?_
  have key : ∀ (fuel : Nat) (listed : Array Bool) (a : Act) (w : World), listed.size = l.length → (∀ (i : Nat) (o : Oper), l[i]? = some o → listed.getD i false = true → ∀ e ∈ o.after, Region.binds .any e = true → listed.getD e.on false = true) →
      St x (esOf es listed ++ L) M a w → (fuel = 0 → ∀ i, i < l.length → listed.getD i false = true) → (listed.toList.filter (!·)).length ≤ fuel → wpAny x.P .any l.toArray Q fuel listed a w := by
    intro fuel
    have hdone : ∀ (listed : Array Bool) (a : Act) (w : World), listed.size = l.length → St x (esOf es listed ++ L) M a w → Region.ready .any l.toArray listed = [] → Q .normal a w := by
      intro listed a w hsz hs hr
      have hall : ∀ i, i < l.length → listed.getD i false = true := by
        intro i
        induction i using Nat.strongRecOn with
        | _ i ih =>
          intro hi
          cases hli : listed.getD i false with
          | true => rfl
          | false =>
            exfalso
            have : i ∈ Region.ready .any l.toArray listed := by
              simp only [Region.ready, List.mem_filter, List.mem_range, List.size_toArray, Bool.and_eq_true]
              refine ⟨hi, ?_, ?_⟩
              · have : listed.getD i true = false := by
                  rw [Array.getD_eq_getD_getElem?, Array.getElem?_eq_getElem (by omega)] at hli ⊢
                  simpa using hli
                simp [this]
              · rw [List.getElem?_toArray, List.getElem?_eq_getElem hi]
                simp only [Option.map_some, Option.getD_some, Array.all_eq_true', Bool.or_eq_true, Bool.not_eq_true']
                intro e he
                right
                have hlt := (hok' i l[i] (List.getElem?_eq_getElem hi)).1 e he
                exact ih e.on hlt (by omega)
            rw [hr] at this
            cases this
      refine hW a w (hs.look ?_)
      intro t p hl
      rw [look_append] at hl ⊢
      by_cases hk : ∃ e ∈ es, e.1 = t
      · obtain ⟨e, he, rfl⟩ := hk
        obtain ⟨i, hi, hie⟩ := List.getElem_of_mem he
        have hie' : es[i]? = some e := by rw [List.getElem?_eq_getElem hi, hie]
        have h1 : look es.reverse e.1 = some e.2 := look_mem (List.mem_reverse.2 he) (by
          intro e1 he1 e2 he2 hk
          obtain ⟨i1, hi1, hie1⟩ := List.getElem_of_mem (List.mem_reverse.1 he1)
          obtain ⟨i2, hi2, hie2⟩ := List.getElem_of_mem (List.mem_reverse.1 he2)
          have := hkey i1 i2 e1 e2 (by rw [List.getElem?_eq_getElem hi1, hie1]) (by rw [List.getElem?_eq_getElem hi2, hie2]) hk
          subst this
          rw [← hie1, ← hie2])
        have h2 : look (esOf es listed) e.1 = some e.2 := look_mem (mem_esOf.2 ⟨i, hall i (by omega), hie'⟩) (hdist listed)
        rw [h1] at hl
        rw [h2]
        simpa using hl
      · have h1 : look es.reverse t = none := look_none (fun e he h => hk ⟨e, List.mem_reverse.1 he, h⟩)
        rw [h1, Option.none_or] at hl
        have h2 : look (esOf es listed) t = none := look_none (fun e he h => by
          obtain ⟨i, _, hi⟩ := mem_esOf.1 he
          exact hk ⟨e, List.mem_of_getElem? hi, h⟩)
        rw [h2, Option.none_or]
        exact hl
    induction fuel with
    | zero =>
      intro listed a w hsz hcl hs h0 _
      have hall := h0 rfl
      have hr : Region.ready .any l.toArray listed = [] := by
        apply List.eq_nil_iff_forall_not_mem.2
        intro i hi
        simp only [Region.ready, List.mem_filter, List.mem_range, List.size_toArray, Bool.and_eq_true, Bool.not_eq_true'] at hi
        have h1 := hall i hi.1
        have h2 := hi.2.1
        rw [Array.getD_eq_getD_getElem?, Array.getElem?_eq_getElem (by omega)] at h1 h2
        simp at h1 h2
        rw [h1] at h2
        cases h2
      exact ⟨hr, hdone listed a w hsz hs hr⟩
    | succ fuel ih =>
      intro listed a w hsz hcl hs _ hcount
      refine ⟨hdone listed a w hsz hs, fun i hi => ?_⟩
      simp only [Region.ready, List.mem_filter, List.mem_range, List.size_toArray, Bool.and_eq_true, Bool.not_eq_true'] at hi
      obtain ⟨hil, hnl, hdeps⟩ := hi
      have hnl' : listed.getD i false = false := by
        rw [Array.getD_eq_getD_getElem?, Array.getElem?_eq_getElem (by omega)] at hnl ⊢
        simpa using hnl
      have hoi : l[i]? = some l[i] := List.getElem?_eq_getElem hil
      generalize l[i] = oi at hoi
      obtain ⟨d, G, av, he, hd, hdn, hgd, hsv⟩ := hes i oi hoi
      rw [List.getElem?_toArray, hoi] at hdeps
      simp only [Option.map_some, Option.getD_some, Array.all_eq_true', Bool.or_eq_true, Bool.not_eq_true'] at hdeps
      have hdeps' : ∀ e ∈ oi.after, Region.binds .any e = true → listed.getD e.on false = true := by
        intro e he hb
        rcases hdeps e he with h' | h'
        · rw [hb] at h'; cases h'
        · exact h'
      -- what the operation looks at is known
      have hsee : ∀ t p, look (sel (oi.looksAt l.toArray) ((es.take i).reverse ++ L)) t = some p → look (esOf es listed ++ L) t = some p := by
        intro t p hl
        rw [look_sel] at hl
        split at hl
        · rename_i ht
          rw [look_append] at hl ⊢
          by_cases hk : ∃ j e, j < i ∧ es[j]? = some e ∧ e.1 = t
          · obtain ⟨j, e, hji, hje, rfl⟩ := hk
            obtain ⟨oj, hoj, hdj⟩ := hget j e hje
            have hl1 : listed.getD j false = true := by
              rcases ((hok' i oi hoi).2 j oj hoj (by omega)).2 e.1 hdj ht with ⟨_, ed, hed, hb, ho⟩ | ⟨h', _⟩
              · rw [← ho]; exact hdeps' ed hed hb
              · omega
            have h1 : look (es.take i).reverse e.1 = some e.2 := look_mem (List.mem_reverse.2 (List.mem_of_getElem? (i := j) (by rw [List.getElem?_take, if_pos hji]; exact hje))) (by
              intro e1 he1 e2 he2 hk
              obtain ⟨i1, hi1, hie1⟩ := List.getElem_of_mem (List.mem_of_mem_take (List.mem_reverse.1 he1))
              obtain ⟨i2, hi2, hie2⟩ := List.getElem_of_mem (List.mem_of_mem_take (List.mem_reverse.1 he2))
              have := hkey i1 i2 e1 e2 (by rw [List.getElem?_eq_getElem hi1, hie1]) (by rw [List.getElem?_eq_getElem hi2, hie2]) hk
              subst this
              rw [← hie1, ← hie2])
            have h2 : look (esOf es listed) e.1 = some e.2 := look_mem (mem_esOf.2 ⟨j, hl1, hje⟩) (hdist listed)
            rw [h1] at hl
            rw [h2]
            simpa using hl
          · have h1 : look (es.take i).reverse t = none := look_none (fun e he h => by
              obtain ⟨j, hj, hje⟩ := List.getElem_of_mem (List.mem_reverse.1 he)
              rw [List.length_take] at hj
              refine hk ⟨j, e, by omega, ?_, h⟩
              rw [← hje, List.getElem_take, List.getElem?_eq_getElem])
            rw [h1, Option.none_or] at hl
            have h2 : look (esOf es listed) t = none := look_none (fun e he h => by
              obtain ⟨j, hlj, hje⟩ := mem_esOf.1 he
              obtain ⟨oj, hoj, hdj⟩ := hget j e hje
              have hji : ¬ j < i := fun h' => hk ⟨j, e, h', hje, h⟩
              by_cases hij : i = j
              · subst hij; rw [hnl'] at hlj; cases hlj
              · rcases ((hok' i oi hoi).2 j oj hoj hij).2 e.1 hdj (h ▸ ht) with ⟨h', _⟩ | ⟨_, ed, hed, hb, ho⟩
                · exact hji h'
                · have := hcl j oj hoj hlj ed hed hb
                  rw [ho, hnl'] at this
                  cases this)
            rw [h2, Option.none_or]
            exact hl
        · cases hl
      have hs' : St x (sel (oi.looksAt l.toArray) ((es.take i).reverse ++ L)) M a w := hs.look hsee
      -- behind it
      have hnext : ∀ a' w', St x ((d, G, av) :: (esOf es listed ++ L)) M a' w' → wpAny x.P .any l.toArray Q fuel (listed.setIfInBounds i true) a' w' := by
        intro a' w' hst
        have hset : ∀ j, (listed.setIfInBounds i true).getD j false = if i = j then true else listed.getD j false := by
          intro j
          rw [Array.getD_eq_getD_getElem?, Array.getD_eq_getD_getElem?, Array.getElem?_setIfInBounds]
          by_cases e : i = j
          · subst e; simp [hsz, hil]
          · simp [e]
        have hcnt : ((listed.setIfInBounds i true).toList.filter (!·)).length < (listed.toList.filter (!·)).length := by
          rw [Array.toList_setIfInBounds]
          have hlt : i < listed.toList.length := by simp [hsz]; exact hil
          have hv : listed.toList[i] = false := by
            rw [Array.getD_eq_getD_getElem?, Array.getElem?_eq_getElem (by omega)] at hnl'
            simpa using hnl'
          exact count_set _ i hlt hv
        refine ih _ a' w' (by simpa using hsz) ?_ (hst.look ?_) ?_ (by omega)
        · intro j o ho hlj e he hb
          rw [hset] at hlj ⊢
          split
          · rfl
          · split at hlj
            · rename_i hij; subst hij; rw [hoi] at ho; cases ho; exact hdeps' e he hb
            · exact hcl j o ho hlj e he hb
        · intro t p hl
          rw [look_append] at hl
          rw [look_cons]
          by_cases hdt : d = t
          · subst hdt
            rw [if_pos rfl]
            have h2 : look (esOf es (listed.setIfInBounds i true)) d = some (G, av) := look_mem (mem_esOf.2 ⟨i, by rw [hset, if_pos rfl], he⟩) (hdist _)
            rw [h2] at hl
            simpa using hl
          · rw [if_neg hdt, look_append]
            by_cases hk : ∃ e ∈ esOf es listed, e.1 = t
            · obtain ⟨e, hee, rfl⟩ := hk
              obtain ⟨j, hlj, hje⟩ := mem_esOf.1 hee
              have h2 : look (esOf es (listed.setIfInBounds i true)) e.1 = some e.2 := look_mem (mem_esOf.2 ⟨j, by rw [hset, hlj, ite_self], hje⟩) (hdist _)
              have h3 : look (esOf es listed) e.1 = some e.2 := look_mem hee (hdist _)
              rw [h2] at hl
              rw [h3]
              exact hl
            · have h2 : look (esOf es (listed.setIfInBounds i true)) t = none := look_none (fun e hee h => by
                obtain ⟨j, hlj, hje⟩ := mem_esOf.1 hee
                rw [hset] at hlj
                split at hlj
                · rename_i hij; subst hij; rw [he] at hje; cases hje; exact hdt h
                · exact hk ⟨e, mem_esOf.2 ⟨j, hlj, hje⟩, h⟩)
              have h3 : look (esOf es listed) t = none := look_none (fun e hee h => hk ⟨e, hee, h⟩)
              rw [h2, Option.none_or] at hl
              rw [h3, Option.none_or]
              exact hl
        · intro hf j hj
          rw [hset]
          split
          · rfl
          · rename_i hij
            subst hf
            cases hlj : listed.getD j false with
            | true => rfl
            | false =>
              exfalso
              have hz : ((listed.setIfInBounds i true).toList.filter (!·)).length = 0 := by omega
              have hz' := List.eq_nil_of_length_eq_zero hz
              have : false ∈ (listed.setIfInBounds i true).toList.filter (!·) := by
                rw [List.mem_filter]
                refine ⟨?_, rfl⟩
                have h5 := hset j
                rw [if_neg hij, hlj, Array.getD_eq_getD_getElem?, Array.getElem?_eq_getElem (by simp; omega)] at h5
                simp only [Option.getD_some] at h5
                rw [← h5]
                exact Array.mem_toList_iff.2 (Array.getElem_mem _)
              rw [hz'] at this
              cases this
      -- the operation itself
      unfold wpOp
      rw [List.getElem?_toArray, hoi]
      have hw : Region.wanted oi (yielded l.toArray a.tmps) = G := by
        rcases hgd with ⟨h1, h2⟩ | ⟨j, want, t, gb, b, h1, h2, h3, h4⟩
        · rw [Region.wanted, h1, h2]
        · obtain ⟨dst, op, ty', pos', aft', gu⟩ := oi
          simp only at h1
          subst h1
          rw [guard_of (want := want) h2 h3 hs', h4]
      simp only [hw]
      cases hG : G with
      | true =>
        rw [if_pos rfl]
        left
        refine hsv hG a w hs' _ _ ?_
        intro v w' hk hmm hf hr
        rw [hd]
        have hsw : St x (esOf es listed ++ L) M a w' := hs.world hk hmm hf
        exact hnext _ _ (hsw.put hdn G av v (fun _ => hr) (by simp [hG]))
      | false =>
        rw [if_neg (by simp)]
        rw [hd]
        exact hnext _ _ (hs.put hdn G av undef (by simp [hG]) (fun _ => rfl))
  refine key _ _ _ _ (by simp) ?_ ?_ ?_ ?_
  · intro i o ho hl
    exfalso
    rw [Array.getD_eq_getD_getElem?] at hl
    rcases Nat.lt_or_ge i l.length with h' | h'
    · simp [h'] at hl
    · simp [h'] at hl
  · have : esOf es (Array.replicate l.toArray.size false) = [] := by
      apply List.eq_nil_iff_forall_not_mem.2
      intro e he
      obtain ⟨i, hi, _⟩ := mem_esOf.1 he
      rw [Array.getD_eq_getD_getElem?] at hi
      rcases Nat.lt_or_ge i l.length with h' | h'
      · simp [h'] at hi
      · simp [h'] at hi
    rw [this, List.nil_append]
    exact hs.same rfl rfl rfl rfl
  · intro h0 i hi
    simp at h0
    subst h0
    simp at hi
  · simp

/-! ### what such a region's operations are met by -/
section rules
variable {ops : Array Oper} {R : Act → World → Prop} {rest : List Oper} {done : List En} {ty : TypeId} {pos : String} {aft : Array Edge}

theorem Sv.ev {o : Oper} {av : AV} (h : Ev x true L M o.op o.type av) : Sv x L M o av := by
  intro a w hs K Q hK
  obtain ⟨v, hr, hv⟩ := h a w hs rfl
  unfold Oper.wp
  rw [show execOp a.eval o = execOp a.eval ⟨none, o.op, o.type, "", #[], none⟩ from rfl, hr]
  exact hK v w (Keep.refl _ _) hs.mem hs.fr hv
theorem Ev.strip {g : Bool} {op : Op} {av : AV} (h : Ev x g L M op ty av) (hg : g = true) : Ev x true L M op ty av := by subst hg; exact h

theorem DP.nil (h : W x (done ++ L) M R) : DP x M ops L R [] done := h
theorem DP.q {d : Tmp} {op : Op} {av : AV} (he : Ev x true (sel (Oper.looksAt ops ⟨some d, op, ty, pos, aft, none⟩) (done ++ L)) M op ty av) (hd : Nat.blt d x.n = true) (next : DP x M ops L R rest ((d, true, av) :: done)) :
    DP x M ops L R (⟨some d, op, ty, pos, aft, none⟩ :: rest) done := ⟨d, true, av, rfl, hd, .inl ⟨rfl, rfl⟩, fun _ => Sv.ev he, next⟩
theorem DP.qgT {d : Tmp} {op : Op} {av : AV} {j : Nat} {t : Tmp} {b : Bool} (hj : (ops[j]?).bind (·.dst) = some t) (hl : Vl.look (sel (Oper.looksAt ops ⟨some d, op, ty, pos, aft, some (j, true)⟩) (done ++ L)) t = some (true, .lit (.bool b)))
    (he : Ev x b (sel (Oper.looksAt ops ⟨some d, op, ty, pos, aft, some (j, true)⟩) (done ++ L)) M op ty av) (hd : Nat.blt d x.n = true) (next : DP x M ops L R rest ((d, b, av) :: done)) :
    DP x M ops L R (⟨some d, op, ty, pos, aft, some (j, true)⟩ :: rest) done := ⟨d, b, av, rfl, hd, .inr ⟨j, true, t, true, b, rfl, hj, hl, by simp⟩, fun hb => Sv.ev (he.strip hb), next⟩
theorem DP.qgF {d : Tmp} {op : Op} {av : AV} {j : Nat} {t : Tmp} {b : Bool} (hj : (ops[j]?).bind (·.dst) = some t) (hl : Vl.look (sel (Oper.looksAt ops ⟨some d, op, ty, pos, aft, some (j, false)⟩) (done ++ L)) t = some (true, .lit (.bool b)))
    (he : Ev x (!b) (sel (Oper.looksAt ops ⟨some d, op, ty, pos, aft, some (j, false)⟩) (done ++ L)) M op ty av) (hd : Nat.blt d x.n = true) (next : DP x M ops L R rest ((d, !b, av) :: done)) :
    DP x M ops L R (⟨some d, op, ty, pos, aft, some (j, false)⟩ :: rest) done := ⟨d, !b, av, rfl, hd, .inr ⟨j, false, t, true, b, rfl, hj, hl, by simp⟩, fun hb => Sv.ev (he.strip hb), next⟩

theorem Sv.callp {f : FuncId} {d : Option Tmp} {os : List Operand} {ats : Array TypeId} {g : Option (Nat × Bool)} {avs : List AV} {r : AV} (hc : FnP x.P f avs r) (ha : ArgsOv L os avs) : Sv x L M ⟨d, .call ⟨.value (.func f), os.toArray, ats⟩, ty, pos, aft, g⟩ r := by
  intro a w hs K Q hK
  obtain ⟨⟨fn, hfn, hnm, hbd⟩, hcall⟩ := hc
  have hr : (execOp a.eval ⟨d, .call ⟨.value (.func f), os.toArray, ats⟩, ty, pos, aft, g⟩).run x.P w = .ok (.enter f (os.map a.eval).toArray) w := by
    have hv : a.eval (.func f) = .func (.func f) #[] #[] := rfl
    simp only [execOp, resolve, hv, Deferred.ofValue, Sem.run_bind, Sem.run_pure, Result.andThen_ok, invoke, callFunc, run_program, hfn, hnm, hbd]
    simp
  unfold Oper.wp
  rw [hr]
  obtain ⟨hF, hm0, hk0⟩ := hs.ahead (Min := []) (Mr := M) (List.Perm.refl _)
  have hargs := ArgsOv.rep hs ha
  refine (hcall w (bl M ++ x.F) _ hF hm0 (RepT.keep hk0 _ _ hargs)).mono ?_
  rintro e w' ⟨v, r', M', rfl, ⟨rfl, rfl⟩, hm', hrep, hf⟩
  have hs' := hs.back (Min := []) (Mr := M) (List.Perm.refl _) hm' hf
  refine hK v w' ?_ hs'.mem hs'.fr (hrep.keep ?_)
  · intro b c T fr hb hc
    have h1 := hf.block b (heap_lt hc) (by simp [bl])
    exact ⟨hb, by rw [h1.1]; exact hc⟩
  · exact fun b c T fr hb hc => ⟨fun h => hb (mem4.1 h), hc⟩
theorem DP.callp {f : FuncId} {d : Tmp} {os : List Operand} {ats : Array TypeId} {avs : List AV} {r : AV} (hc : FnP x.P f avs r) (ha : ArgsOv (sel (Oper.looksAt ops ⟨some d, .call ⟨.value (.func f), os.toArray, ats⟩, ty, pos, aft, none⟩) (done ++ L)) os avs) (hd : Nat.blt d x.n = true)
    (next : DP x M ops L R rest ((d, true, r) :: done)) : DP x M ops L R (⟨some d, .call ⟨.value (.func f), os.toArray, ats⟩, ty, pos, aft, none⟩ :: rest) done := ⟨d, true, r, rfl, hd, .inl ⟨rfl, rfl⟩, fun _ => Sv.callp hc ha, next⟩

theorem Sv.bs {d : Option Tmp} {T E k bytes n : Nat} {z : Value} {ps : List (Nat × Operand)} {es : List AV} {g : Option (Nat × Bool)} (hT : x.P.underlying T = some (.slice E)) (hE : Ty x.P E k bytes z) (hp : PartsOv L k 0 ps es) (hn : n = es.length) (hb : n * k ≤ 16777216) (hk1 : Nat.ble 1 k = true) :
    Sv x L M ⟨d, .buildSlice T n ps.toArray, ty, pos, aft, g⟩ (.sl k es) := by
  intro a w hs K Q hK
  obtain ⟨cells, hr, hsz, hrE⟩ := run_buildSlice (ty := ty) hs hT hE hp hn hb
  obtain ⟨hs', hk, hnew⟩ := hs.allocI (.cells cells E)
  unfold Oper.wp
  rw [show execOp a.eval ⟨d, .buildSlice T n ps.toArray, ty, pos, aft, g⟩ = execOp a.eval ⟨none, .buildSlice T n ps.toArray, ty, "", #[], none⟩ from rfl, hr]
  refine hK _ _ hk hs'.mem hs'.fr ?_
  rw [hn]
  refine Rep.slI (Nat.le_refl _) ?_ (.inr ⟨w.heap.size, 0, cells, E, (0, 0), rfl, hnew, alloc_new _ _, RepE.keep hk _ _ _ (by simpa using hrE)⟩)
  have : es.length ≤ n * k := by rw [hn]; exact Nat.le_mul_of_pos_right _ (Nat.le_of_ble_eq_true hk1)
  simp only [maxLen]; omega
theorem DP.bs {d : Tmp} {T E k bytes n : Nat} {z : Value} {ps : List (Nat × Operand)} {es : List AV} (hT : x.P.underlying T = some (.slice E)) (hE : Ty x.P E k bytes z) (hp : PartsOv (sel (Oper.looksAt ops ⟨some d, .buildSlice T n ps.toArray, ty, pos, aft, none⟩) (done ++ L)) k 0 ps es) (hn : n = es.length) (hb : n * k ≤ 16777216) (hk1 : Nat.ble 1 k = true) (hd : Nat.blt d x.n = true)
    (next : DP x M ops L R rest ((d, true, .sl k es) :: done)) : DP x M ops L R (⟨some d, .buildSlice T n ps.toArray, ty, pos, aft, none⟩ :: rest) done := ⟨d, true, _, rfl, hd, .inl ⟨rfl, rfl⟩, fun _ => Sv.bs hT hE hp hn hb hk1, next⟩
end rules
end draw
end Go.Vl
