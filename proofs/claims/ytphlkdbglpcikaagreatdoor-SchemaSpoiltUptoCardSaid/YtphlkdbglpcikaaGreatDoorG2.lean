/-
  Merged: Draw Arr DrawE Iter Utf Enc UtfLaw More Str.
-/
import Derived.Test.YtphlkdbglpcikaaGreatDoorG1
import Derived.Laws.StructEq
set_option linter.unusedVariables false
set_option linter.unusedSimpArgs false
set_option maxRecDepth 100000

section
namespace Go.Vl
abbrev En := Tmp × Bool × AV
def sel (r : List Tmp) : List En → List En
 | [] => []
 | e :: L => bif r.any (Nat.beq e.1) then e :: sel r L else sel r L
theorem any_beq {r : List Tmp} {t : Tmp} : r.any (Nat.beq t) = true ↔ t ∈ r := by
 rw [List.any_eq_true]
 constructor
 ·rintro ⟨u, hu, h⟩; exact (Nat.eq_of_beq_eq_true h) ▸ hu
 ·intro h; exact ⟨t, h, Nat.beq_refl t⟩
theorem look_sel (r : List Tmp) (L : List En) (t : Tmp) : look (sel r L) t = if t ∈ r then look L t else none := by
 induction L with
 | nil => simp [sel, look]
 | cons e L ih =>
  obtain ⟨u, p⟩ := e
  rw [sel]
  cases hb : r.any (Nat.beq u) with
  | true =>
   have hu := any_beq.1 hb
   simp only [cond_true]
   rw [look_cons, look_cons, ih]
   by_cases e : u = t
   ·subst e; simp [hu]
   ·simp [e]
  | false =>
   have hu : u ∉ r := fun h => by rw [any_beq.2 h] at hb; cases hb
   simp only [cond_false]
   rw [ih, look_cons]
   by_cases e : u = t
   ·subst e; simp [hu]
   ·simp [e]
section draw
variable {x : Cx} {L : List En} {M : List ME} {Q : Exit → Act → World → Prop}
def Sv (x : Cx) (L : List En) (M : List ME) (o : Oper) (av : AV) : Prop :=
 ∀ a w, St x L M a w → ∀ (K : Act → World → Prop) (Q : Exit → Act → World → Prop),
  (∀ v w', Keep w (bl M ++ x.F) w' (bl M ++ x.F) → MOk w' M x.F → Fr x.w0 x.N0 w' (bl M) → Rep w' (bl M ++ x.F) av v → K (a.put o.dst v) w') → o.wp x.P a w K Q
def Gd (ops : Array Oper) (L : List En) (o : Oper) (G : Bool) : Prop :=
 (o.guard = none ∧ G = true) ∨ ∃ j want t gb b, o.guard = some (j, want) ∧ (ops[j]?).bind (·.dst) = some t ∧ look L t = some (gb, .lit (.bool b)) ∧ G = (gb && (b == want))
def DP (x : Cx) (M : List ME) (ops : Array Oper) (L : List En) (R : Act → World → Prop) : List Oper → List En → Prop
 | [], done => W x (done ++ L) M R
 | o :: rest, done => ∃ d G av, o.dst = some d ∧ Nat.blt d x.n = true ∧ Gd ops (sel (o.looksAt ops) (done ++ L)) o G ∧ (G = true → Sv x (sel (o.looksAt ops) (done ++ L)) M o av) ∧ DP x M ops L R rest ((d, G, av) :: done)
theorem DP.extract {ops : Array Oper} {R : Act → World → Prop} : ∀ {rest : List Oper} {done : List En}, DP x M ops L R rest done →
 ∃ es : List En, es.length = rest.length ∧ (∀ (i : Nat) (o : Oper), rest[i]? = some o → ∃ d G av, es[i]? = some (d, G, av) ∧ o.dst = some d ∧ Nat.blt d x.n = true ∧ Gd ops (sel (o.looksAt ops) ((es.take i).reverse ++ (done ++ L))) o G ∧
  (G = true → Sv x (sel (o.looksAt ops) ((es.take i).reverse ++ (done ++ L))) M o av)) ∧ W x (es.reverse ++ (done ++ L)) M R
 | [], done, h => ⟨[], rfl, by simp, by simpa [DP] using h⟩
 | o :: rest, done, h => by
  obtain ⟨d, G, av, h1, h2, h3, h4, h5⟩ := h
  obtain ⟨es, e1, e2, e3⟩ := DP.extract h5
  refine ⟨(d, G, av) :: es, by simp [e1], ?_, by simpa using e3⟩
  intro i o' ho'
  cases i with
  | zero => simp at ho'; subst ho'; exact ⟨d, G, av, rfl, h1, h2, by simpa using h3, by simpa using h4⟩
  | succ i =>
   obtain ⟨d', G', av', f1, f2, f3, f4, f5⟩ := e2 i o' (by simpa using ho')
   exact ⟨d', G', av', by simpa using f1, f2, f3, by simpa using f4, by simpa using f5⟩
def okDraw (ops : Array Oper) : Bool :=
 (List.range ops.size).all fun i => match ops[i]? with
  | none => false
  | some oi => oi.after.all (fun e => e.on < i) && (List.range ops.size).all fun j => match ops[j]? with
   | none => false
   | some oj => i == j || (oi.dst != oj.dst && match oj.dst with
    | none => false
    | some d => !(oi.looksAt ops).contains d || (bif j < i then oi.after.any (fun e => Region.binds .any e && e.on == j) else oj.after.any (fun e => Region.binds .any e && e.on == i)))
theorem St.look {L L' : List En} {a : Act} {w : World} (hs : St x L M a w) (h : ∀ t p, look L' t = some p → Vl.look L t = some p) : St x L' M a w :=
 ⟨hs.defers, hs.size, fun t g av hl => hs.slots t g av (h t _ hl), hs.mem, hs.fr, hs.old⟩
theorem look_append (A L : List En) (t : Tmp) : look (A ++ L) t = (look A t).or (look L t) := by
 induction A with
 | nil => simp [look]
 | cons e A ih =>
  obtain ⟨u, p⟩ := e
  rw [List.cons_append, look_cons, look_cons, ih]
  split <;> simp
theorem look_none {A : List En} {t : Tmp} (h : ∀ e ∈ A, e.1 ≠ t) : look A t = none := by
 induction A with
 | nil => rfl
 | cons e A ih =>
  obtain ⟨u, p⟩ := e
  rw [look_cons, if_neg (h (u, p) (by simp)), ih (fun e he => h e (by simp [he]))]
theorem look_mem {A : List En} {t : Tmp} {p : Bool × AV} (hm : (t, p) ∈ A) (hd : ∀ e ∈ A, ∀ e' ∈ A, e.1 = e'.1 → e = e') : look A t = some p := by
 induction A with
 | nil => simp at hm
 | cons e A ih =>
  obtain ⟨u, q⟩ := e
  rw [look_cons]
  by_cases e : u = t
  ·subst e
   have := hd (u, q) (by simp) (u, p) hm rfl
   rw [if_pos rfl]
   cases this; rfl
  ·rw [if_neg e]
   refine ih ?_ (fun e he e' he' => hd e (by simp [he]) e' (by simp [he']))
   rcases List.mem_cons.1 hm with h | h
   ·cases h; exact absurd rfl e
   ·exact h
def esOf (es : List En) (listed : Array Bool) : List En := ((List.range es.length).filter fun i => listed.getD i false).filterMap fun i => es[i]?
theorem mem_esOf {es : List En} {listed : Array Bool} {e : En} : e ∈ esOf es listed ↔ ∃ i, listed.getD i false = true ∧ es[i]? = some e := by
 simp only [esOf, List.mem_filterMap, List.mem_filter, List.mem_range]
 constructor
 ·rintro ⟨i, ⟨_, h⟩, h'⟩; exact ⟨i, h, h'⟩
 ·rintro ⟨i, h, h'⟩
  refine ⟨i, ⟨?_, h⟩, h'⟩
  rcases Nat.lt_or_ge i es.length with hl | hl
  ·exact hl
  ·rw [List.getElem?_eq_none hl] at h'; cases h'
theorem count_set : ∀ (ls : List Bool) (i : Nat) (h : i < ls.length), ls[i] = false → ((ls.set i true).filter (!·)).length < (ls.filter (!·)).length
 | [], i, h, _ => by simp at h
 | b :: ls, 0, _, hv => by simp at hv; subst hv; simp
 | b :: ls, i + 1, h, hv => by
  have := count_set ls i (by simpa using h) (by simpa using hv)
  simp only [List.set_cons_succ, List.filter_cons]
  split <;> simp <;> omega
theorem W.drawn {id : Nat} {l : List Oper} (hm : x.P.follows .mixedOrders = true) (hok : okDraw l.toArray = true) (h : DP x M l.toArray L (Q .normal) l []) : W x L M (Code.wp x.P (.region id l.toArray true) Q) := by
 intro a w hs
 obtain ⟨es, hlen, hes, hW⟩ := h.extract
 simp only [List.nil_append] at hes hW
 -- the edges, in words
 have hok' : ∀ (i : Nat) (oi : Oper), l[i]? = some oi → (∀ e ∈ oi.after, e.on < i) ∧ ∀ (j : Nat) (oj : Oper), l[j]? = some oj → i ≠ j → oi.dst ≠ oj.dst ∧ ∀ d, oj.dst = some d → d ∈ oi.looksAt l.toArray →
  (j < i ∧ ∃ e ∈ oi.after, Region.binds .any e = true ∧ e.on = j) ∨ (i < j ∧ ∃ e ∈ oj.after, Region.binds .any e = true ∧ e.on = i) := by
  intro i oi hi
  have hil : i < l.length := by
   rcases Nat.lt_or_ge i l.length with h' | h'
   ·exact h'
   ·rw [List.getElem?_eq_none h'] at hi; cases hi
  simp only [okDraw, List.size_toArray, List.all_eq_true, List.mem_range] at hok
  have h1 := hok i hil
  rw [List.getElem?_toArray, hi] at h1
  simp only [Bool.and_eq_true, Array.all_eq_true', List.all_eq_true, List.mem_range, decide_eq_true_eq] at h1
  refine ⟨h1.1, fun j oj hj hne => ?_⟩
  have hjl : j < l.length := by
   rcases Nat.lt_or_ge j l.length with h' | h'
   ·exact h'
   ·rw [List.getElem?_eq_none h'] at hj; cases hj
  have h2 := h1.2 j hjl
  rw [List.getElem?_toArray, hj] at h2
  simp only [Bool.or_eq_true, beq_iff_eq, hne, false_or, Bool.and_eq_true, bne_iff_ne] at h2
  refine ⟨h2.1, fun d hd hdl => ?_⟩
  have h3 := h2.2
  rw [hd] at h3
  simp only [Bool.or_eq_true, Bool.not_eq_true', List.contains_eq_mem, decide_eq_false_iff_not, hdl, not_true_eq_false, false_or] at h3
  by_cases hji : j < i
  ·left
   simp only [hji, decide_true, cond_true, Array.any_eq_true', Bool.and_eq_true, beq_iff_eq] at h3
   obtain ⟨e, he, hb, ho⟩ := h3
   exact ⟨hji, e, he, hb, ho⟩
  ·right
   simp only [hji, decide_false, cond_false, Array.any_eq_true', Bool.and_eq_true, beq_iff_eq] at h3
   obtain ⟨e, he, hb, ho⟩ := h3
   exact ⟨by omega, e, he, hb, ho⟩
 have hget : ∀ (i : Nat) (e : En), es[i]? = some e → ∃ oi : Oper, l[i]? = some oi ∧ oi.dst = some e.1 := by
  intro i e he
  have hil : i < l.length := by
   rcases Nat.lt_or_ge i es.length with h' | h'
   ·omega
   ·rw [List.getElem?_eq_none h'] at he; cases he
  obtain ⟨d, G, av, h1, h2, _⟩ := hes i l[i] (List.getElem?_eq_getElem hil)
  rw [he] at h1
  cases h1
  exact ⟨l[i], List.getElem?_eq_getElem hil, h2⟩
 have hkey : ∀ (i j : Nat) (e e' : En), es[i]? = some e → es[j]? = some e' → e.1 = e'.1 → i = j := by
  intro i j e e' hi hj he
  by_cases hne : i = j
  ·exact hne
  ·obtain ⟨oi, h1, h2⟩ := hget i e hi
   obtain ⟨oj, h3, h4⟩ := hget j e' hj
   exact absurd (by rw [h2, h4, he]) (((hok' i oi h1).2 j oj h3 hne).1)
 have hdist : ∀ listed, ∀ e ∈ esOf es listed, ∀ e' ∈ esOf es listed, e.1 = e'.1 → e = e' := by
  intro listed e he e' he' hk
  obtain ⟨i, _, hi⟩ := mem_esOf.1 he
  obtain ⟨j, _, hj⟩ := mem_esOf.1 he'
  have := hkey i j e e' hi hj hk
  subst this
  rw [hi] at hj; cases hj; rfl
 refine wp_region_any hm ?_
 have key : ∀ (fuel : Nat) (listed : Array Bool) (a : Act) (w : World), listed.size = l.length → (∀ (i : Nat) (o : Oper), l[i]? = some o → listed.getD i false = true → ∀ e ∈ o.after, Region.binds .any e = true → listed.getD e.on false = true) →
  St x (esOf es listed ++ L) M a w → (fuel = 0 → ∀ i, i < l.length → listed.getD i false = true) → (listed.toList.filter (!·)).length ≤ fuel → wpAny x.P .any l.toArray Q fuel listed a w := by
  intro fuel
  have hdone : ∀ (listed : Array Bool) (a : Act) (w : World), listed.size = l.length → St x (esOf es listed ++ L) M a w → Region.ready .any l.toArray listed = [] → Q .normal a w := by
   intro listed a w hsz hs hr
   have hall : ∀ i, i < l.length → listed.getD i false = true := by
    intro i
    induction i using Nat.strongRecOn with
    | _ i ih =>
     intro hi
     cases hli : listed.getD i false with
     | true => rfl
     | false =>
      exfalso
      have : i ∈ Region.ready .any l.toArray listed := by
       simp only [Region.ready, List.mem_filter, List.mem_range, List.size_toArray, Bool.and_eq_true]
       refine ⟨hi, ?_, ?_⟩
       ·have : listed.getD i true = false := by
         rw [Array.getD_eq_getD_getElem?, Array.getElem?_eq_getElem (by omega)] at hli ⊢
         simpa using hli
        simp [this]
       ·rw [List.getElem?_toArray, List.getElem?_eq_getElem hi]
        simp only [Option.map_some, Option.getD_some, Array.all_eq_true', Bool.or_eq_true, Bool.not_eq_true']
        intro e he
        right
        have hlt := (hok' i l[i] (List.getElem?_eq_getElem hi)).1 e he
        exact ih e.on hlt (by omega)
      rw [hr] at this
      cases this
   refine hW a w (hs.look ?_)
   intro t p hl
   rw [look_append] at hl ⊢
   by_cases hk : ∃ e ∈ es, e.1 = t
   ·obtain ⟨e, he, rfl⟩ := hk
    obtain ⟨i, hi, hie⟩ := List.getElem_of_mem he
    have hie' : es[i]? = some e := by rw [List.getElem?_eq_getElem hi, hie]
    have h1 : look es.reverse e.1 = some e.2 := look_mem (List.mem_reverse.2 he) (by
     intro e1 he1 e2 he2 hk
     obtain ⟨i1, hi1, hie1⟩ := List.getElem_of_mem (List.mem_reverse.1 he1)
     obtain ⟨i2, hi2, hie2⟩ := List.getElem_of_mem (List.mem_reverse.1 he2)
     have := hkey i1 i2 e1 e2 (by rw [List.getElem?_eq_getElem hi1, hie1]) (by rw [List.getElem?_eq_getElem hi2, hie2]) hk
     subst this
     rw [← hie1, ← hie2])
    have h2 : look (esOf es listed) e.1 = some e.2 := look_mem (mem_esOf.2 ⟨i, hall i (by omega), hie'⟩) (hdist listed)
    rw [h1] at hl
    rw [h2]
    simpa using hl
   ·have h1 : look es.reverse t = none := look_none (fun e he h => hk ⟨e, List.mem_reverse.1 he, h⟩)
    rw [h1, Option.none_or] at hl
    have h2 : look (esOf es listed) t = none := look_none (fun e he h => by
     obtain ⟨i, _, hi⟩ := mem_esOf.1 he
     exact hk ⟨e, List.mem_of_getElem? hi, h⟩)
    rw [h2, Option.none_or]
    exact hl
  induction fuel with
  | zero =>
   intro listed a w hsz hcl hs h0 _
   have hall := h0 rfl
   have hr : Region.ready .any l.toArray listed = [] := by
    apply List.eq_nil_iff_forall_not_mem.2
    intro i hi
    simp only [Region.ready, List.mem_filter, List.mem_range, List.size_toArray, Bool.and_eq_true, Bool.not_eq_true'] at hi
    have h1 := hall i hi.1
    have h2 := hi.2.1
    rw [Array.getD_eq_getD_getElem?, Array.getElem?_eq_getElem (by omega)] at h1 h2
    simp at h1 h2
    rw [h1] at h2
    cases h2
   exact ⟨hr, hdone listed a w hsz hs hr⟩
  | succ fuel ih =>
   intro listed a w hsz hcl hs _ hcount
   refine ⟨hdone listed a w hsz hs, fun i hi => ?_⟩
   simp only [Region.ready, List.mem_filter, List.mem_range, List.size_toArray, Bool.and_eq_true, Bool.not_eq_true'] at hi
   obtain ⟨hil, hnl, hdeps⟩ := hi
   have hnl' : listed.getD i false = false := by
    rw [Array.getD_eq_getD_getElem?, Array.getElem?_eq_getElem (by omega)] at hnl ⊢
    simpa using hnl
   have hoi : l[i]? = some l[i] := List.getElem?_eq_getElem hil
   generalize l[i] = oi at hoi
   obtain ⟨d, G, av, he, hd, hdn, hgd, hsv⟩ := hes i oi hoi
   rw [List.getElem?_toArray, hoi] at hdeps
   simp only [Option.map_some, Option.getD_some, Array.all_eq_true', Bool.or_eq_true, Bool.not_eq_true'] at hdeps
   have hdeps' : ∀ e ∈ oi.after, Region.binds .any e = true → listed.getD e.on false = true := by
    intro e he hb
    rcases hdeps e he with h' | h'
    ·rw [hb] at h'; cases h'
    ·exact h'
   -- what the operation looks at is known
   have hsee : ∀ t p, look (sel (oi.looksAt l.toArray) ((es.take i).reverse ++ L)) t = some p → look (esOf es listed ++ L) t = some p := by
    intro t p hl
    rw [look_sel] at hl
    split at hl
    ·rename_i ht
     rw [look_append] at hl ⊢
     by_cases hk : ∃ j e, j < i ∧ es[j]? = some e ∧ e.1 = t
     ·obtain ⟨j, e, hji, hje, rfl⟩ := hk
      obtain ⟨oj, hoj, hdj⟩ := hget j e hje
      have hl1 : listed.getD j false = true := by
       rcases ((hok' i oi hoi).2 j oj hoj (by omega)).2 e.1 hdj ht with ⟨_, ed, hed, hb, ho⟩ | ⟨h', _⟩
       ·rw [← ho]; exact hdeps' ed hed hb
       ·omega
      have h1 : look (es.take i).reverse e.1 = some e.2 := look_mem (List.mem_reverse.2 (List.mem_of_getElem? (i := j) (by rw [List.getElem?_take, if_pos hji]; exact hje))) (by
       intro e1 he1 e2 he2 hk
       obtain ⟨i1, hi1, hie1⟩ := List.getElem_of_mem (List.mem_of_mem_take (List.mem_reverse.1 he1))
       obtain ⟨i2, hi2, hie2⟩ := List.getElem_of_mem (List.mem_of_mem_take (List.mem_reverse.1 he2))
       have := hkey i1 i2 e1 e2 (by rw [List.getElem?_eq_getElem hi1, hie1]) (by rw [List.getElem?_eq_getElem hi2, hie2]) hk
       subst this
       rw [← hie1, ← hie2])
      have h2 : look (esOf es listed) e.1 = some e.2 := look_mem (mem_esOf.2 ⟨j, hl1, hje⟩) (hdist listed)
      rw [h1] at hl
      rw [h2]
      simpa using hl
     ·have h1 : look (es.take i).reverse t = none := look_none (fun e he h => by
       obtain ⟨j, hj, hje⟩ := List.getElem_of_mem (List.mem_reverse.1 he)
       rw [List.length_take] at hj
       refine hk ⟨j, e, by omega, ?_, h⟩
       rw [← hje, List.getElem_take, List.getElem?_eq_getElem])
      rw [h1, Option.none_or] at hl
      have h2 : look (esOf es listed) t = none := look_none (fun e he h => by
       obtain ⟨j, hlj, hje⟩ := mem_esOf.1 he
       obtain ⟨oj, hoj, hdj⟩ := hget j e hje
       have hji : ¬ j < i := fun h' => hk ⟨j, e, h', hje, h⟩
       by_cases hij : i = j
       ·subst hij; rw [hnl'] at hlj; cases hlj
       ·rcases ((hok' i oi hoi).2 j oj hoj hij).2 e.1 hdj (h ▸ ht) with ⟨h', _⟩ | ⟨_, ed, hed, hb, ho⟩
        ·exact hji h'
        ·have := hcl j oj hoj hlj ed hed hb
         rw [ho, hnl'] at this
         cases this)
      rw [h2, Option.none_or]
      exact hl
    ·cases hl
   have hs' : St x (sel (oi.looksAt l.toArray) ((es.take i).reverse ++ L)) M a w := hs.look hsee
   -- behind it
   have hnext : ∀ a' w', St x ((d, G, av) :: (esOf es listed ++ L)) M a' w' → wpAny x.P .any l.toArray Q fuel (listed.setIfInBounds i true) a' w' := by
    intro a' w' hst
    have hset : ∀ j, (listed.setIfInBounds i true).getD j false = if i = j then true else listed.getD j false := by
     intro j
     rw [Array.getD_eq_getD_getElem?, Array.getD_eq_getD_getElem?, Array.getElem?_setIfInBounds]
     by_cases e : i = j
     ·subst e; simp [hsz, hil]
     ·simp [e]
    have hcnt : ((listed.setIfInBounds i true).toList.filter (!·)).length < (listed.toList.filter (!·)).length := by
     rw [Array.toList_setIfInBounds]
     have hlt : i < listed.toList.length := by simp [hsz]; exact hil
     have hv : listed.toList[i] = false := by
      rw [Array.getD_eq_getD_getElem?, Array.getElem?_eq_getElem (by omega)] at hnl'
      simpa using hnl'
     exact count_set _ i hlt hv
    refine ih _ a' w' (by simpa using hsz) ?_ (hst.look ?_) ?_ (by omega)
    ·intro j o ho hlj e he hb
     rw [hset] at hlj ⊢
     split
     ·rfl
     ·split at hlj
      ·rename_i hij; subst hij; rw [hoi] at ho; cases ho; exact hdeps' e he hb
      ·exact hcl j o ho hlj e he hb
    ·intro t p hl
     rw [look_append] at hl
     rw [look_cons]
     by_cases hdt : d = t
     ·subst hdt
      rw [if_pos rfl]
      have h2 : look (esOf es (listed.setIfInBounds i true)) d = some (G, av) := look_mem (mem_esOf.2 ⟨i, by rw [hset, if_pos rfl], he⟩) (hdist _)
      rw [h2] at hl
      simpa using hl
     ·rw [if_neg hdt, look_append]
      by_cases hk : ∃ e ∈ esOf es listed, e.1 = t
      ·obtain ⟨e, hee, rfl⟩ := hk
       obtain ⟨j, hlj, hje⟩ := mem_esOf.1 hee
       have h2 : look (esOf es (listed.setIfInBounds i true)) e.1 = some e.2 := look_mem (mem_esOf.2 ⟨j, by rw [hset, hlj, ite_self], hje⟩) (hdist _)
       have h3 : look (esOf es listed) e.1 = some e.2 := look_mem hee (hdist _)
       rw [h2] at hl
       rw [h3]
       exact hl
      ·have h2 : look (esOf es (listed.setIfInBounds i true)) t = none := look_none (fun e hee h => by
        obtain ⟨j, hlj, hje⟩ := mem_esOf.1 hee
        rw [hset] at hlj
        split at hlj
        ·rename_i hij; subst hij; rw [he] at hje; cases hje; exact hdt h
        ·exact hk ⟨e, mem_esOf.2 ⟨j, hlj, hje⟩, h⟩)
       have h3 : look (esOf es listed) t = none := look_none (fun e hee h => hk ⟨e, hee, h⟩)
       rw [h2, Option.none_or] at hl
       rw [h3, Option.none_or]
       exact hl
    ·intro hf j hj
     rw [hset]
     split
     ·rfl
     ·rename_i hij
      subst hf
      cases hlj : listed.getD j false with
      | true => rfl
      | false =>
       exfalso
       have hz : ((listed.setIfInBounds i true).toList.filter (!·)).length = 0 := by omega
       have hz' := List.eq_nil_of_length_eq_zero hz
       have : false ∈ (listed.setIfInBounds i true).toList.filter (!·) := by
        rw [List.mem_filter]
        refine ⟨?_, rfl⟩
        have h5 := hset j
        rw [if_neg hij, hlj, Array.getD_eq_getD_getElem?, Array.getElem?_eq_getElem (by simp; omega)] at h5
        simp only [Option.getD_some] at h5
        rw [← h5]
        exact Array.mem_toList_iff.2 (Array.getElem_mem _)
       rw [hz'] at this
       cases this
   -- the operation itself
   unfold wpOp
   rw [List.getElem?_toArray, hoi]
   have hw : Region.wanted oi (yielded l.toArray a.tmps) = G := by
    rcases hgd with ⟨h1, h2⟩ | ⟨j, want, t, gb, b, h1, h2, h3, h4⟩
    ·rw [Region.wanted, h1, h2]
    ·obtain ⟨dst, op, ty', pos', aft', gu⟩ := oi
     simp only at h1
     subst h1
     rw [guard_of (want := want) h2 h3 hs', h4]
   simp only [hw]
   cases hG : G with
   | true =>
    rw [if_pos rfl]
    left
    refine hsv hG a w hs' _ _ ?_
    intro v w' hk hmm hf hr
    rw [hd]
    have hsw : St x (esOf es listed ++ L) M a w' := hs.world hk hmm hf
    exact hnext _ _ (hsw.put hdn G av v (fun _ => hr) (by simp [hG]))
   | false =>
    rw [if_neg (by simp)]
    rw [hd]
    exact hnext _ _ (hs.put hdn G av undef (by simp [hG]) (fun _ => rfl))
 refine key _ _ _ _ (by simp) ?_ ?_ ?_ ?_
 ·intro i o ho hl
  exfalso
  rw [Array.getD_eq_getD_getElem?] at hl
  rcases Nat.lt_or_ge i l.length with h' | h'
  ·simp [h'] at hl
  ·simp [h'] at hl
 ·have : esOf es (Array.replicate l.toArray.size false) = [] := by
   apply List.eq_nil_iff_forall_not_mem.2
   intro e he
   obtain ⟨i, hi, _⟩ := mem_esOf.1 he
   rw [Array.getD_eq_getD_getElem?] at hi
   rcases Nat.lt_or_ge i l.length with h' | h'
   ·simp [h'] at hi
   ·simp [h'] at hi
  rw [this, List.nil_append]
  exact hs.same rfl rfl rfl rfl
 ·intro h0 i hi
  simp at h0
  subst h0
  simp at hi
 ·simp
/-! ### what such a region's operations are met by -/
section rules
variable {ops : Array Oper} {R : Act → World → Prop} {rest : List Oper} {done : List En} {ty : TypeId} {pos : String} {aft : Array Edge}
theorem Sv.ev {o : Oper} {av : AV} (h : Ev x true L M o.op o.type av) : Sv x L M o av := by
 intro a w hs K Q hK
 obtain ⟨v, hr, hv⟩ := h a w hs rfl
 unfold Oper.wp
 rw [show execOp a.eval o = execOp a.eval ⟨none, o.op, o.type, "", #[], none⟩ from rfl, hr]
 exact hK v w (Keep.refl _ _) hs.mem hs.fr hv
theorem Ev.strip {g : Bool} {op : Op} {av : AV} (h : Ev x g L M op ty av) (hg : g = true) : Ev x true L M op ty av := by subst hg; exact h
theorem DP.nil (h : W x (done ++ L) M R) : DP x M ops L R [] done := h
theorem DP.q {d : Tmp} {op : Op} {av : AV} (he : Ev x true (sel (Oper.looksAt ops ⟨some d, op, ty, pos, aft, none⟩) (done ++ L)) M op ty av) (hd : Nat.blt d x.n = true) (next : DP x M ops L R rest ((d, true, av) :: done)) :
 DP x M ops L R (⟨some d, op, ty, pos, aft, none⟩ :: rest) done := ⟨d, true, av, rfl, hd, .inl ⟨rfl, rfl⟩, fun _ => Sv.ev he, next⟩
theorem DP.qgT {d : Tmp} {op : Op} {av : AV} {j : Nat} {t : Tmp} {b : Bool} (hj : (ops[j]?).bind (·.dst) = some t) (hl : Vl.look (sel (Oper.looksAt ops ⟨some d, op, ty, pos, aft, some (j, true)⟩) (done ++ L)) t = some (true, .lit (.bool b)))
 (he : Ev x b (sel (Oper.looksAt ops ⟨some d, op, ty, pos, aft, some (j, true)⟩) (done ++ L)) M op ty av) (hd : Nat.blt d x.n = true) (next : DP x M ops L R rest ((d, b, av) :: done)) :
 DP x M ops L R (⟨some d, op, ty, pos, aft, some (j, true)⟩ :: rest) done := ⟨d, b, av, rfl, hd, .inr ⟨j, true, t, true, b, rfl, hj, hl, by simp⟩, fun hb => Sv.ev (he.strip hb), next⟩
theorem Sv.callp {f : FuncId} {d : Option Tmp} {os : List Operand} {ats : Array TypeId} {g : Option (Nat × Bool)} {avs : List AV} {r : AV} (hc : FnP x.P f avs r) (ha : ArgsOv L os avs) : Sv x L M ⟨d, .call ⟨.value (.func f), os.toArray, ats⟩, ty, pos, aft, g⟩ r := by
 intro a w hs K Q hK
 obtain ⟨⟨fn, hfn, hnm, hbd⟩, hcall⟩ := hc
 have hr : (execOp a.eval ⟨d, .call ⟨.value (.func f), os.toArray, ats⟩, ty, pos, aft, g⟩).run x.P w = .ok (.enter f (os.map a.eval).toArray) w := by
  have hv : a.eval (.func f) = .func (.func f) #[] #[] := rfl
  simp only [execOp, resolve, hv, Deferred.ofValue, Sem.run_bind, Sem.run_pure, Result.andThen_ok, invoke, callFunc, run_program, hfn, hnm, hbd]
  simp
 unfold Oper.wp
 rw [hr]
 obtain ⟨hF, hm0, hk0⟩ := hs.ahead (Min := []) (Mr := M) (List.Perm.refl _)
 have hargs := ArgsOv.rep hs ha
 refine (hcall w (bl M ++ x.F) _ hF hm0 (RepT.keep hk0 _ _ hargs)).mono ?_
 rintro e w' ⟨v, r', M', rfl, ⟨rfl, rfl⟩, hm', hrep, hf⟩
 have hs' := hs.back (Min := []) (Mr := M) (List.Perm.refl _) hm' hf
 refine hK v w' ?_ hs'.mem hs'.fr (hrep.keep ?_)
 ·intro b c T fr hb hc
  have h1 := hf.block b (heap_lt hc) (by simp [bl])
  exact ⟨hb, by rw [h1.1]; exact hc⟩
 ·exact fun b c T fr hb hc => ⟨fun h => hb (mem4.1 h), hc⟩
theorem Sv.bs {d : Option Tmp} {T E k bytes n : Nat} {z : Value} {ps : List (Nat × Operand)} {es : List AV} {g : Option (Nat × Bool)} (hT : x.P.underlying T = some (.slice E)) (hE : Ty x.P E k bytes z) (hp : PartsOv L k 0 ps es) (hn : n = es.length) (hb : n * k ≤ 16777216) (hk1 : Nat.ble 1 k = true) :
 Sv x L M ⟨d, .buildSlice T n ps.toArray, ty, pos, aft, g⟩ (.sl k es) := by
 intro a w hs K Q hK
 obtain ⟨cells, hr, hsz, hrE⟩ := run_buildSlice (ty := ty) hs hT hE hp hn hb
 obtain ⟨hs', hk, hnew⟩ := hs.allocI (.cells cells E)
 unfold Oper.wp
 rw [show execOp a.eval ⟨d, .buildSlice T n ps.toArray, ty, pos, aft, g⟩ = execOp a.eval ⟨none, .buildSlice T n ps.toArray, ty, "", #[], none⟩ from rfl, hr]
 refine hK _ _ hk hs'.mem hs'.fr ?_
 rw [hn]
 refine Rep.slI (Nat.le_refl _) ?_ (.inr ⟨w.heap.size, 0, cells, E, (0, 0), rfl, hnew, alloc_new _ _, RepE.keep hk _ _ _ (by simpa using hrE)⟩)
 have : es.length ≤ n * k := by rw [hn]; exact Nat.le_mul_of_pos_right _ (Nat.le_of_ble_eq_true hk1)
 simp only [maxLen]; omega
end rules
end draw
end Go.Vl
end
section
namespace Go.Vl
section arr
variable {x : Cx} {L : List (Tmp × Bool × AV)} {M : List ME} {ops : Array Oper} {Q : Exit → Act → World → Prop} {rest : List Oper} {ty : TypeId} {pos : String} {aft : Array Edge}
theorem RepE.congr {w : World} {N : List Nat} {k : Nat} : ∀ {es : List AV} {r s : List Value}, RepE w N k es r → r.take (es.length * k) = s.take (es.length * k) → RepE w N k es s
 | [], r, s, h, _ => by simp [RepE]
 | e :: es, r, s, h, hrs => by
  simp only [RepE] at h ⊢
  have hm : (e :: es).length * k = es.length * k + k := by simp [Nat.add_mul]
  rw [hm] at hrs
  have h1 : r.take k = s.take k := by
   have := congrArg (List.take k) hrs
   rw [List.take_take, List.take_take, Nat.min_eq_left (by omega)] at this
   exact this
  have hl : k ≤ s.length := by
   have := congrArg List.length h1
   simp at this; omega
  refine ⟨hl, by rw [← h1]; exact h.2.1, RepE.congr h.2.2 ?_⟩
  have := congrArg (List.drop k) hrs
  rw [List.drop_take, List.drop_take, Nat.add_sub_cancel] at this
  exact this
theorem RepE.append {w : World} {N : List Nat} {k : Nat} : ∀ {es xs : List AV} {r : List Value}, RepE w N k es r → RepE w N k xs (r.drop (es.length * k)) → RepE w N k (es ++ xs) r
 | [], xs, r, _, h => by simpa using h
 | e :: es, xs, r, h, h' => by
  simp only [RepE, List.cons_append] at h ⊢
  refine ⟨h.1, h.2.1, RepE.append h.2.2 ?_⟩
  have hm : (e :: es).length * k = k + es.length * k := by simp [Nat.add_mul]; omega
  rw [hm] at h'
  rw [List.drop_drop]
  exact h'
theorem perm_set {M : List ME} {i : Nat} {m m' : ME} (hM : M[i]? = some m) : List.Perm (m' :: M) (M.set i m' ++ [m]) := by
 induction M generalizing i with
 | nil => simp at hM
 | cons n M ih =>
  cases i with
  | zero =>
   simp at hM; subst hM
   simp only [List.set_cons_zero, List.cons_append]
   refine List.Perm.cons _ ?_
   exact (List.perm_append_comm (l₁ := [n]) (l₂ := M))
  | succ i =>
   simp only [List.set_cons_succ, List.cons_append]
   refine (List.Perm.swap n m' M).trans (List.Perm.cons _ (ih (by simpa using hM)))
theorem set_self {M : List ME} {i : Nat} {m : ME} (hM : M[i]? = some m) : M.set i m = M := by
 apply List.ext_getElem?
 intro j
 rw [List.getElem?_set]
 by_cases e : i = j
 ·subst e
  have hlt : i < M.length := by
   rcases Nat.lt_or_ge i M.length with h | h
   ·exact h
   ·rw [List.getElem?_eq_none h] at hM; cases hM
  rw [if_pos rfl, if_pos hlt, hM]
 ·rw [if_neg e]
def Src (P : Program) (w : World) (N : List Nat) (k : Nat) (v : Value) (xs : List AV) : Prop :=
 (Builtin.lenOf v).run P w = .ok xs.length w ∧ ∃ news : Array Value, news.size = xs.length * k ∧ RepE w N k xs news.toList ∧ (∀ u ∈ news.toList, shV u = 0) ∧
  ∀ w' : World, w'.heap = w.heap → (Builtin.firstCells k xs.length v).run P w' = .ok news w'
def Src0 (P : Program) (w : World) (N : List Nat) (k : Nat) (v : Value) (xs : List AV) : Prop :=
 (Builtin.lenOf v).run P w = .ok xs.length w ∧ ∃ news : Array Value, news.size = xs.length * k ∧ RepE w N k xs news.toList ∧
  ∀ w' : World, w'.heap = w.heap → (Builtin.firstCells k xs.length v).run P w' = .ok news w'
theorem Src.to0 {P : Program} {w : World} {N : List Nat} {k : Nat} {v : Value} {xs : List AV} (h : Src P w N k v xs) : Src0 P w N k v xs :=
 ⟨h.1, let ⟨n, a, b, _, c⟩ := h.2; ⟨n, a, b, c⟩⟩
theorem src0_cells {P : Program} {w : World} {N : List Nat} {k n cap : Nat} {ad : Option Addr} {xs : List AV} (hn : n = xs.length)
 (h : xs = [] ∨ ∃ b off cur T fr, ad = some ⟨b, off, none⟩ ∧ w.heap[b]? = some (.cells cur T fr) ∧ RepE w N k xs (cur.toList.drop off)) : Src0 P w N k (.slice ad n cap) xs := by
 refine ⟨by simp [Builtin.lenOf, hn], ?_⟩
 rcases h with rfl | ⟨b, off, cur, T, fr, rfl, hc, hE⟩
 ·refine ⟨#[], by simp, by simp [RepE], fun w' _ => ?_⟩
  cases ad with
  | none => simp [Builtin.firstCells]
  | some a => simp [Builtin.firstCells, loadCells, loadCellsFrom]
 ·have hlen := hE.len
  have hsz : off + xs.length * k ≤ cur.size ∨ xs.length * k = 0 := by
   simp at hlen
   omega
  have htk : ((cur.toList.drop off).take (xs.length * k)).length = xs.length * k := by simp at hlen ⊢; omega
  refine ⟨((cur.toList.drop off).take (xs.length * k)).toArray, by simpa using htk, ?_, ?_⟩
  ·rw [List.toList_toArray]
   exact RepE.congr hE (by rw [List.take_take, Nat.min_self])
  ·intro w' hw'
   rcases hsz with hsz | hsz
   ·have := run_loadCells (P := P) (w := w') (off := off) (by rw [hw']; exact hc) (xs.length * k) hsz
    simpa [Builtin.firstCells] using this
   ·rw [hsz]; simp [Builtin.firstCells, loadCells, loadCellsFrom, hsz]
theorem RepE.sh {w : World} {N : List Nat} {k : Nat} : ∀ {es : List AV} {r : List Value}, RepE w N k es r → (∀ e ∈ es, e.okc = true) → ∀ u ∈ r.take (es.length * k), shV u = 0
 | [], r, _, _ => by simp
 | e :: es, r, h, ho => by
  simp only [RepE] at h
  have hm : (e :: es).length * k = k + es.length * k := by simp [Nat.add_mul]; omega
  rw [hm, List.take_add]
  intro u hu
  rcases List.mem_append.1 hu with hu | hu
  ·exact (RepC.cells (ho e (by simp)) h.2.1).sh u hu
  ·exact RepE.sh h.2.2 (fun e' he' => ho e' (by simp [he'])) u hu
theorem src_cells {P : Program} {w : World} {N : List Nat} {k n cap : Nat} {ad : Option Addr} {xs : List AV} (hn : n = xs.length) (ho : ∀ e ∈ xs, e.okc = true)
 (h : xs = [] ∨ ∃ b off cur T fr, ad = some ⟨b, off, none⟩ ∧ w.heap[b]? = some (.cells cur T fr) ∧ RepE w N k xs (cur.toList.drop off)) : Src P w N k (.slice ad n cap) xs := by
 obtain ⟨h1, news, h2, h3, h4⟩ := src0_cells (P := P) (cap := cap) hn h
 refine ⟨h1, news, h2, h3, ?_, h4⟩
 have := h3.sh ho
 rw [List.take_of_length_le (by simp; omega)] at this
 exact this
def SrcOv (x : Cx) (L : List (Tmp × Bool × AV)) (M : List ME) (o : Operand) (k : Nat) (xs : List AV) : Prop :=
 (∀ e ∈ xs, e.okc = true) ∧ (Ov true L o (.sl k xs) ∨ (∃ (v : Value) (i : Nat) (U : TypeId), Ov true L o (.lit v) ∧ M[i]? = some (ME.arr v U k xs)) ∨ (∃ l : List UInt8, Ov true L o (.str l) ∧ k = 1 ∧ xs = l.map AV.u8))
theorem SrcOv.sl {o : Operand} {k : Nat} {xs : List AV} (h : Ov true L o (.sl k xs)) (ho : ∀ e ∈ xs, e.okc = true) : SrcOv x L M o k xs := ⟨ho, .inl h⟩
theorem SrcOv.arr (i : Nat) {o : Operand} {v : Value} {U k : Nat} {xs : List AV} (h : Ov true L o (.lit v)) (hM : M[i]? = some (ME.arr v U k xs)) (ho : ∀ e ∈ xs, e.okc = true) : SrcOv x L M o k xs := ⟨ho, .inr (.inl ⟨v, i, U, h, hM⟩)⟩
theorem SrcOv.str {o : Operand} {l : List UInt8} (h : Ov true L o (.str l)) : SrcOv x L M o 1 (l.map AV.u8) := ⟨by intro e he; obtain ⟨b, _, rfl⟩ := List.mem_map.1 he; rfl, .inr (.inr ⟨l, h, rfl, rfl⟩)⟩
theorem RepE.u8s {w : World} {N : List Nat} : ∀ l : List UInt8, RepE w N 1 (l.map AV.u8) (l.map fun b => Value.int .u8 (b.toNat : Int))
 | [] => by simp [RepE]
 | b :: l => by
  simp only [List.map_cons, RepE, List.length_cons, List.drop_succ_cons, List.drop_zero]
  exact ⟨by omega, by simp [RepC, Value.cells], RepE.u8s l⟩
theorem src_str {P : Program} {w : World} {N : List Nat} (l : List UInt8) : Src P w N 1 (.string ⟨l.toArray⟩) (l.map AV.u8) := by
 have hsz : (ByteArray.mk l.toArray).size = l.length := by simp [ByteArray.size]
 refine ⟨by simp [Builtin.lenOf, hsz], (l.map fun b => Value.int .u8 (b.toNat : Int)).toArray, by simp, by simpa using RepE.u8s l, ?_, ?_⟩
 ·intro u hu
  simp only [List.toList_toArray, List.mem_map] at hu
  obtain ⟨b, _, rfl⟩ := hu
  rfl
 ·intro w' hw'
  have e : (ByteArray.mk l.toArray).extract 0 l.length = ⟨l.toArray⟩ := by
   have := ByteArray.extract_zero_size (b := ByteArray.mk l.toArray)
   rw [hsz] at this; exact this
  simp [Builtin.firstCells, e]
theorem SrcOv.src {o : Operand} {k : Nat} {xs : List AV} {a : Act} {w : World} (h : SrcOv x L M o k xs) (hs : St x L M a w) : Src x.P w (bl M ++ x.F) k (a.eval o) xs := by
 obtain ⟨ho, h | ⟨v, i, U, h, hM⟩ | ⟨l, h, rfl, rfl⟩⟩ := h
 ·obtain ⟨ad, cap, e, _, _, h3⟩ := (h.rep rfl hs).sl_inv
  rw [e]
  refine src_cells rfl ho ?_
  rcases h3 with h3 | ⟨b, off, cur, T, fr, h4, _, h5, h6⟩
  ·exact .inl h3
  ·exact .inr ⟨b, off, cur, T, fr, h4, h5, h6⟩
 ·obtain ⟨ad, cap, e, h1, h2, h3⟩ := hs.mem.holds _ (List.mem_of_getElem? hM)
  rw [h.lit rfl hs, e]
  refine src_cells rfl ho ?_
  rcases h3 with ⟨_, hc⟩ | ⟨g, off, cur, lo, hi, h4, h5, _, _, h6⟩
  ·left; exact List.eq_nil_of_length_eq_zero (by omega)
  ·exact .inr ⟨g, off, cur, U, (lo, hi), h4, h5, h6⟩
 ·rw [h.lit rfl hs]; exact src_str l
def NotInt (P : Program) (T : TypeId) : Prop := (∃ e, P.underlying T = some (.slice e)) ∨ P.underlying T = some .string
theorem cap_cut (w : World) (need old : Nat) (e : TypeId) (h : need ≤ maxLen) : need ≤ grownCap w need old e ∧ grownCap w need old e ≤ maxLen := ⟨grownCap_ge w need old e, grownCap_le_maxLen w need old e h⟩
theorem run_append_in {P : Program} {w : World} {T T' E k bytes : Nat} {z : Value} {g off n cap lo hi : Nat} {cur : Array Value} {U : TypeId} {xv : Value} {N : List Nat} {xs : List AV} (hT : P.underlying T = some (.slice E)) (hT' : NotInt P T') (hE : Ty P E k bytes z)
 (hc : w.heap[g]? = some (.cells cur U (lo, hi))) (hsz : off + cap * k ≤ cur.size) (hfr : hi ≤ lo ∨ off + cap * k ≤ lo) (hx : Src P w N k xv xs) (hle : n + xs.length ≤ cap) :
 ∃ news : Array Value, news.size = xs.length * k ∧ RepE w N k xs news.toList ∧ (Builtin.append_ #[T, T'] ty #[.slice (some ⟨g, off, none⟩) n cap, xv]).run P w =
  .ok (.slice (some ⟨g, off, none⟩) (n + xs.length) cap) { w with heap := w.heap.setIfInBounds g (.cells (wr cur (off + n * k) news.toList) U (lo, hi)) } := by
 obtain ⟨hlen, news, hn1, hn2, hn3, hn4⟩ := hx
 have hf := hn4 w rfl
 have hmul : (n + xs.length) * k ≤ cap * k := Nat.mul_le_mul_right _ hle
 rw [Nat.add_mul] at hmul
 have hst := run_storeCells (P := P) (g := g) (off := off + n * k) (T := U) (lo := lo) (hi := hi) news.toList 0 cur w hc (by simp; omega) (by simp; omega) hn3
 refine ⟨news, hn1, hn2, ?_⟩
 rw [Nat.add_zero] at hst
 obtain ⟨i, hi1, hi2, hi3, hi4⟩ := hE
 rcases hT' with ⟨e', hd⟩ | hd <;>
  simp [Builtin.append_, run_underlying hT, run_underlying hd, sizeOf, typeInfo, hi1, hi2, hlen, hle, hf, Addr.add_lit, hst]
theorem run_append_new {P : Program} {w : World} {T T' E k bytes : Nat} {z : Value} {ad : Option Addr} {n cap : Nat} {xv : Value} {N : List Nat} {es xs : List AV} (hT : P.underlying T = some (.slice E)) (hT' : NotInt P T') (hE : Ty P E k bytes z) (hzk : z.cells.size = k)
 (hs : Src0 P w N k (.slice ad n cap) es) (hx : Src0 P w N k xv xs) (hn : n = es.length) (hgt : cap < n + xs.length) (hb : (n + xs.length) * bytes ≤ 140737488355328) (hb1 : 1 ≤ bytes) :
 ∃ cells : Array Value, cells.size = grownCap w (n + xs.length) cap E * k ∧ RepE w N k (es ++ xs) cells.toList ∧ (Builtin.append_ #[T, T'] ty #[.slice ad n cap, xv]).run P w =
  .ok (.slice (some ⟨w.heap.size, 0, none⟩) (n + xs.length) (grownCap w (n + xs.length) cap E)) (w.drew.alloc (.cells cells E)) := by
 obtain ⟨_, olds, ho1, ho2, ho4⟩ := hs
 obtain ⟨hlen, news, hn1, hn2, hn4⟩ := hx
 have hfit := growslice_fits hgt hb
 have h63 : n + xs.length ≤ maxLen := by
  have : n + xs.length ≤ (n + xs.length) * bytes := Nat.le_mul_of_pos_right _ hb1
  simp only [maxLen]; omega
 obtain ⟨hg1, hg2⟩ := cap_cut w (n + xs.length) cap E h63
 subst hn
 refine ⟨olds ++ news ++ Builtin.zeroCells z.cells (grownCap w (es.length + xs.length) cap E - (es.length + xs.length)), ?_, ?_, ?_⟩
 ·have hzc : (Builtin.zeroCells z.cells (grownCap w (es.length + xs.length) cap E - (es.length + xs.length))).size = (grownCap w (es.length + xs.length) cap E - (es.length + xs.length)) * k := by simp [Builtin.zeroCells, hzk]
  rw [Array.size_append, Array.size_append, ho1, hn1, hzc, ← Nat.add_mul, ← Nat.add_mul]
  congr 1; omega
 ·have hol : olds.toList.length = es.length * k := by simpa using ho1
  have hnl : news.toList.length = xs.length * k := by simpa using hn1
  refine RepE.append (RepE.congr ho2 ?_) ?_
  ·rw [Array.toList_append, Array.toList_append, List.append_assoc, List.take_append_of_le_length (by omega)]
  ·rw [Array.toList_append, Array.toList_append, List.append_assoc, List.drop_append_of_le_length (by omega), List.drop_of_length_le (by omega), List.nil_append]
   exact RepE.congr hn2 (by rw [List.take_append_of_le_length (by omega)])
 ·have hf1 := ho4 w.drew rfl
  have hf2 := hn4 w.drew rfl
  obtain ⟨i, hi1, hi2, hi3, hi4⟩ := hE
  have hle : ¬ (es.length + xs.length ≤ cap) := by omega
  have hneg : ¬ ((((es.length + xs.length : Nat) : Int) > IntKind.i64.max) ∧ (False ∨ i.bytes = 0)) := by
   rw [IntKind.max_i64]; simp only [maxLen] at h63; omega
  have h48 : ¬ (Builtin.nextslicecap (es.length + xs.length) cap * i.bytes > 2 ^ 48) := by rw [hi3]; omega
  have hz : (zeroValue E).run P w.drew = .ok z w.drew := by simp [zeroValue, typeInfo, hi1, hi4]
  have hch : (choose (.appendCap (es.length + xs.length) cap E)).run P w = .ok (grownCap w (es.length + xs.length) cap E) w.drew := by
   simp [run_choose, Question.forced, grownCap]
  have hneg' : ¬ (9223372036854775807 < ((es.length : Int) + (xs.length : Int))) := by simp only [maxLen] at h63; omega
  have h48' : ¬ (281474976710656 < Builtin.nextslicecap (es.length + xs.length) cap * i.bytes) := by rw [hi3]; omega
  have hch' : (Question.appendCap (es.length + xs.length) cap E).cut (w.tape w.drawn (.appendCap (es.length + xs.length) cap E)) = grownCap w (es.length + xs.length) cap E := rfl
  have hdrew : ({ w with drawn := w.drawn + 1 } : World) = w.drew := rfl
  rcases hT' with ⟨e', hd⟩ | hd <;>
   simp [Builtin.append_, run_underlying hT, run_underlying hd, sizeOf, typeInfo, hi1, hi2, hlen, hle, hneg', h48', Question.forced, hch', hdrew, hf1, hf2, zeroValue, hi4, newRow]
theorem W.app (i : Nat) {d : Tmp} {T T' E k bytes : Nat} {z : Value} {o1 o2 : Operand} {v : Value} {es xs : List AV} (h1 : Ov true L o1 (.lit v)) (hM : M[i]? = some (ME.arr v E k es)) (h2 : SrcOv x L M o2 k xs) (hT : x.P.underlying T = some (.slice E)) (hT' : NotInt x.P T') (hE : Ty x.P E k bytes z) (hzk : z.cells.size = k)
 (hb1 : Nat.ble 1 bytes = true) (hb : (es.length + xs.length) * bytes ≤ 140737488355328) (hd : Nat.blt d x.n = true)
 (next : ∀ v', W x ((d, true, .lit v') :: L) (M.set i (ME.arr v' E k (es ++ xs))) (wpList x.P ops Q rest)) :
 W x L M (wpList x.P ops Q (⟨some d, .call ⟨.builtin .append, #[o1, o2], #[T, T']⟩, ty, pos, aft, none⟩ :: rest)) := by
 refine W.opv (ι := Value) (fun v' => M.set i (ME.arr v' E k (es ++ xs))) (fun v' => .lit v') hd ?_ next; intro a w hs
 have hsrc := h2.src hs
 have e1 := h1.lit rfl hs
 have hb1' := Nat.le_of_ble_eq_true hb1
 obtain ⟨ad, cap, rfl, hlc, hcm, hcase⟩ := hs.mem.holds _ (List.mem_of_getElem? hM)
 have h63 : es.length + xs.length ≤ maxLen := by
  have : es.length + xs.length ≤ (es.length + xs.length) * bytes := Nat.le_mul_of_pos_right _ hb1'
  simp only [maxLen]; omega
 by_cases hle : es.length + xs.length ≤ cap
 ·rcases hcase with ⟨rfl, rfl⟩ | ⟨g, off, cur, lo, hi, rfl, hc, hsz, hfr, hrE⟩
  ·
   have hes : es = [] := List.eq_nil_of_length_eq_zero (by omega)
   have hxs : xs = [] := List.eq_nil_of_length_eq_zero (by omega)
   subst hes; subst hxs
   refine ⟨.slice none 0 0, w, .slice none 0 0, ?_, ?_, Rep.lit _⟩
   ·obtain ⟨hlen, news, hn1, _, _, hn4⟩ := hsrc
    have hf := hn4 w rfl
    obtain ⟨ii, hi1, hi2, hi3, hi4⟩ := hE
    have hlen' : (Builtin.lenOf (a.eval o2)).run x.P w = .ok 0 w := hlen
    have hf' : (Builtin.firstCells k 0 (a.eval o2)).run x.P w = .ok news w := hf
    have e1' : a.eval o1 = .slice none 0 0 := e1
    rcases hT' with ⟨e', hd'⟩ | hd' <;>
     simp [execOp, resolve, invoke, builtin, e1', Builtin.append_, run_underlying hT, run_underlying hd', sizeOf, typeInfo, hi1, hi2, hlen', hf']
   ·have hM' : M[i]? = some (ME.arr (.slice none 0 0) E k []) := hM
    rw [List.append_nil, set_self hM']; exact hs
  ·obtain ⟨news, hn1, hn2, hrun⟩ := run_append_in (ty := ty) hT hT' hE hc hsz hfr hsrc hle
   refine ⟨.slice (some ⟨g, off, none⟩) (es.length + xs.length) cap, { w with heap := w.heap.setIfInBounds g (.cells (wr cur (off + es.length * k) news.toList) E (lo, hi)) }, .slice (some ⟨g, off, none⟩) (es.length + xs.length) cap, ?_, ?_, Rep.lit _⟩
   ·simp only [execOp, resolve, invoke, builtin, Sem.run_bind, Sem.run_pure, Result.andThen_ok, List.map_toArray, List.map_cons, List.map_nil, e1, hrun]
   ·refine hs.write hM rfl rfl ?_
    intro w' hother hnew hk'
    have hmul : (es.length + xs.length) * k ≤ cap * k := Nat.mul_le_mul_right _ hle
    rw [Nat.add_mul] at hmul
    have hnl : news.toList.length = xs.length * k := by simpa using hn1
    refine ⟨some ⟨g, off, none⟩, cap, by rw [List.length_append], by rw [List.length_append]; exact hle, hcm, .inr ⟨g, off, _, lo, hi, rfl, hnew, ?_, hfr, ?_⟩⟩
    ·rw [wr_size _ _ _ (by omega)]; exact hsz
    ·have hcl : cur.toList.length = cur.size := Array.length_toList
     refine RepE.append (RepE.congr (RepE.keep hk' _ _ _ hrE) ?_) (RepE.congr (RepE.keep hk' _ _ _ hn2) ?_)
     ·simp only [wr, List.toList_toArray]
      rw [List.append_assoc, List.drop_append_of_le_length (by simp; omega), List.take_append_of_le_length (by simp; omega), List.drop_take, Nat.add_sub_cancel_left, List.take_take, Nat.min_self]
     ·simp only [wr, List.toList_toArray]
      rw [List.drop_drop, List.append_assoc, List.drop_append, List.drop_of_length_le (by simp; omega), List.nil_append]
      have : off + es.length * k - (cur.toList.take (off + es.length * k)).length = 0 := by simp; omega
      rw [this, List.drop_zero, List.take_append_of_le_length (by omega)]
 ·have hold : Src0 x.P w (bl M ++ x.F) k (.slice ad es.length cap) es := by
   refine src0_cells rfl ?_
   rcases hcase with ⟨rfl, hc0⟩ | ⟨g, off, cur, lo, hi, rfl, hc, hsz, hfr, hrE⟩
   ·left; exact List.eq_nil_of_length_eq_zero (by omega)
   ·exact .inr ⟨g, off, cur, E, (lo, hi), rfl, hc, hrE⟩
  obtain ⟨cells, hsz, hrE, hrun⟩ := run_append_new (ty := ty) hT hT' hE hzk hold hsrc.to0 rfl (by omega) hb hb1'
  obtain ⟨hg1, hg2⟩ := cap_cut w (es.length + xs.length) cap E h63
  refine ⟨.slice (some ⟨w.heap.size, 0, none⟩) (es.length + xs.length) (grownCap w (es.length + xs.length) cap E), w.drew.alloc (.cells cells E), .slice (some ⟨w.heap.size, 0, none⟩) (es.length + xs.length) (grownCap w (es.length + xs.length) cap E), ?_, ?_, Rep.lit _⟩
  ·simp only [execOp, resolve, invoke, builtin, Sem.run_bind, Sem.run_pure, Result.andThen_ok, List.map_toArray, List.map_cons, List.map_nil, e1, hrun]
  ·have hd1 : St x L M a w.drew := hs.same rfl rfl rfl rfl
   have hnew : St x L (ME.arr (.slice (some ⟨w.heap.size, 0, none⟩) (es.length + xs.length) (grownCap w (es.length + xs.length) cap E)) E k (es ++ xs) :: M) a (w.drew.alloc (.cells cells E)) := by
    refine hd1.alloc _ _ rfl ?_
    intro N hN
    refine ⟨some ⟨w.heap.size, 0, none⟩, _, by rw [List.length_append], by rw [List.length_append]; exact hg1, hg2, .inr ⟨w.heap.size, 0, cells, 0, 0, rfl, alloc_new w.drew _, by omega, .inl (Nat.le_refl _), ?_⟩⟩
    refine RepE.keep (w := w) (N := bl M ++ x.F) ?_ _ _ _ (by simpa using hrE)
    intro b c U fr hn hc
    refine ⟨fun h => ?_, by rw [alloc_old w.drew _ (heap_lt (w := w.drew) hc)]; exact hc⟩
    rcases (hN b).1 h with h | h
    ·have := heap_lt hc; subst h; exact absurd this (Nat.lt_irrefl _)
    ·exact hn h
   obtain ⟨hm, hk, hsb⟩ := hnew.mem.sub (perm_set (m' := ME.arr (.slice (some ⟨w.heap.size, 0, none⟩) (es.length + xs.length) (grownCap w (es.length + xs.length) cap E)) E k (es ++ xs)) hM)
   exact hnew.world hk hm (hnew.fr.sub hsb)
theorem W.own_nil {R : Act → World → Prop} (E k : Nat) (h : W x L (ME.arr (.slice none 0 0) E k [] :: M) R) : W x L M R := by
 intro a w hs
 refine h a w ⟨hs.defers, hs.size, hs.slots, ⟨hs.mem.nodup, hs.mem.apart, ?_⟩, hs.fr, hs.old⟩
 intro m hm
 rcases List.mem_cons.1 hm with rfl | hm
 ·exact ⟨none, 0, rfl, Nat.le_refl _, by simp [maxLen], .inl ⟨rfl, rfl⟩⟩
 ·exact hs.mem.holds m hm
theorem W.appn {d : Tmp} {T T' E k bytes : Nat} {z : Value} {o1 o2 : Operand} {xs : List AV} (h1 : Ov true L o1 (.lit (.slice none 0 0))) (h2 : SrcOv x L (ME.arr (.slice none 0 0) E k [] :: M) o2 k xs) (hT : x.P.underlying T = some (.slice E)) (hT' : NotInt x.P T') (hE : Ty x.P E k bytes z) (hzk : z.cells.size = k)
 (hb1 : Nat.ble 1 bytes = true) (hb : xs.length * bytes ≤ 140737488355328) (hd : Nat.blt d x.n = true)
 (next : ∀ v', W x ((d, true, .lit v') :: L) (ME.arr v' E k xs :: M) (wpList x.P ops Q rest)) :
 W x L M (wpList x.P ops Q (⟨some d, .call ⟨.builtin .append, #[o1, o2], #[T, T']⟩, ty, pos, aft, none⟩ :: rest)) :=
 W.own_nil E k (W.app 0 h1 rfl h2 hT hT' hE hzk hb1 (by simpa using hb) hd (fun v' => next v'))
/-! ### what is written no more -/
inductive Frz (v : Value) (k : Nat) (es : List AV) : AV → AV → Prop
 | refl (av : AV) : Frz v k es av av
 | hit : Frz v k es (.lit v) (.sl k es)
def FrzL (v : Value) (k : Nat) (es : List AV) : List AV → List AV → Prop
 | [], [] => True
 | a :: as_, b :: bs => Frz v k es a b ∧ FrzL v k es as_ bs
 | _, _ => False
inductive FrzS (v : Value) (k : Nat) (es : List AV) : AV → AV → Prop
 | one {a b : AV} : Frz v k es a b → FrzS v k es a b
 | agg {as_ bs : List AV} : FrzL v k es as_ bs → FrzS v k es (.agg as_) (.agg bs)
def FSub (v : Value) (k : Nat) (es : List AV) (L : List (Tmp × Bool × AV)) : List (Tmp × Bool × AV) → Prop
 | [] => True
 | (t, g, b) :: r => (∃ a, look L t = some (g, a) ∧ FrzS v k es a b) ∧ FSub v k es L r
theorem Frz.repC {w : World} {N : List Nat} {v : Value} {k : Nat} {es : List AV} (hv : Rep w N (.sl k es) v) {a b : AV} (h : Frz v k es a b) {row : List Value} (hr : RepC w N a row) : RepC w N b row := by
 cases h with
 | refl => exact hr
 | hit => simp only [RepC] at hr; rw [hr]; exact hv.2
theorem Frz.sh {w : World} {N : List Nat} {v : Value} {k : Nat} {es : List AV} (hv : Rep w N (.sl k es) v) {a b : AV} (h : Frz v k es a b) : a.sh = b.sh := by
 cases h with
 | refl => rfl
 | hit => exact hv.1.symm
theorem FrzL.repL {w : World} {N : List Nat} {v : Value} {k : Nat} {es : List AV} (hv : Rep w N (.sl k es) v) : ∀ {as_ bs : List AV} {row : List Value}, FrzL v k es as_ bs → RepL w N as_ row → RepL w N bs row
 | [], [], row, _, h => h
 | a :: as_, b :: bs, row, h, hr => by
  simp only [RepL] at hr ⊢
  obtain ⟨u, us, rfl, ⟨h1, h2, h3⟩, h4⟩ := hr
  exact ⟨u, us, rfl, ⟨by rw [← h.1.sh hv]; exact h1, h2, h.1.repC hv h3⟩, FrzL.repL hv h.2 h4⟩
 | [], _ :: _, _, h, _ => h.elim
 | _ :: _, [], _, h, _ => h.elim
theorem FrzS.rep {w : World} {N : List Nat} {v : Value} {k : Nat} {es : List AV} (hv : Rep w N (.sl k es) v) {a b : AV} (h : FrzS v k es a b) {u : Value} (hr : Rep w N a u) : Rep w N b u := by
 cases h with
 | one h => exact ⟨by rw [← h.sh hv]; exact hr.1, h.repC hv hr.2⟩
 | agg h =>
  refine ⟨hr.1, ?_⟩
  have := hr.2
  simp only [RepC] at this ⊢
  exact h.repL hv this
theorem FSub.look {v : Value} {k : Nat} {es : List AV} : ∀ {L' : List (Tmp × Bool × AV)}, FSub v k es L L' → ∀ t g b, look L' t = some (g, b) → ∃ a, look L t = some (g, a) ∧ FrzS v k es a b
 | [], _, t, g, b, h => by cases h
 | (u, g', b') :: r, hs, t, g, b, h => by
  rw [look_cons] at h
  by_cases e : u = t
  ·subst e; rw [if_pos rfl] at h; cases h; exact hs.1
  ·rw [if_neg e] at h; exact FSub.look hs.2 t g b h
theorem FrzL.len {v : Value} {k : Nat} {es : List AV} : ∀ {as_ bs : List AV}, FrzL v k es as_ bs → as_.length = bs.length
 | [], [], _ => rfl
 | a :: as_, b :: bs, h => by rw [List.length_cons, List.length_cons, FrzL.len h.2]
 | [], _ :: _, h => h.elim
 | _ :: _, [], h => h.elim
theorem FrzL.repE {w : World} {N : List Nat} {v : Value} {k : Nat} {es : List AV} (hv : Rep w N (.sl k es) v) {j : Nat} : ∀ {as_ bs : List AV} {row : List Value}, FrzL v k es as_ bs → RepE w N j as_ row → RepE w N j bs row
 | [], [], row, _, h => h
 | a :: as_, b :: bs, row, h, hr => by
  simp only [RepE] at hr ⊢
  exact ⟨hr.1, h.1.repC hv hr.2.1, FrzL.repE hv h.2 hr.2.2⟩
 | [], _ :: _, _, h, _ => h.elim
 | _ :: _, [], _, h, _ => h.elim
inductive FrzM (v : Value) (k : Nat) (es : List AV) : ME → ME → Prop
 | refl (m : ME) : FrzM v k es m m
 | box {b T : Nat} {as_ bs : List AV} : FrzL v k es as_ bs → FrzM v k es (.box b T as_) (.box b T bs)
 | arr {u : Value} {T j : Nat} {as_ bs : List AV} : FrzL v k es as_ bs → FrzM v k es (.arr u T j as_) (.arr u T j bs)
def FrzMs (v : Value) (k : Nat) (es : List AV) : List ME → List ME → Prop
 | [], [] => True
 | a :: as_, b :: bs => FrzM v k es a b ∧ FrzMs v k es as_ bs
 | _, _ => False
theorem FrzM.blks {v : Value} {k : Nat} {es : List AV} {m m' : ME} (h : FrzM v k es m m') : m'.blks = m.blks := by
 cases h with
 | refl => rfl
 | box h => rfl
 | @arr u _ _ _ _ h =>
  cases u with
  | slice a n c => cases a <;> rfl
  | _ => rfl
theorem FrzM.holds {w : World} {N : List Nat} {v : Value} {k : Nat} {es : List AV} (hv : Rep w N (.sl k es) v) {m m' : ME} (h : FrzM v k es m m') (hm : m.holds w N) : m'.holds w N := by
 cases h with
 | refl => exact hm
 | box h => obtain ⟨cur, hc, hr⟩ := hm; exact ⟨cur, hc, h.repL hv hr⟩
 | arr h =>
  obtain ⟨a, cap, e, h1, h2, h3⟩ := hm
  rw [h.len] at e h1
  refine ⟨a, cap, e, h1, h2, ?_⟩
  rcases h3 with h3 | ⟨g, off, cur, lo, hi, q1, q2, q3, q4, q5⟩
  ·exact .inl h3
  ·exact .inr ⟨g, off, cur, lo, hi, q1, q2, q3, q4, h.repE hv q5⟩
theorem FrzMs.bl {v : Value} {k : Nat} {es : List AV} : ∀ {M M' : List ME}, FrzMs v k es M M' → bl M' = bl M
 | [], [], _ => rfl
 | m :: M, m' :: M', h => by
  have := FrzMs.bl h.2
  simp only [Vl.bl, List.flatMap_cons] at this ⊢
  rw [this, h.1.blks]
 | [], _ :: _, h => h.elim
 | _ :: _, [], h => h.elim
theorem FrzMs.mem {v : Value} {k : Nat} {es : List AV} : ∀ {M M' : List ME}, FrzMs v k es M M' → ∀ m' ∈ M', ∃ m ∈ M, FrzM v k es m m'
 | [], [], _, m', h => by simp at h
 | m :: M, n :: M', h, m', hm => by
  rcases List.mem_cons.1 hm with rfl | hm
  ·exact ⟨m, by simp, h.1⟩
  ·obtain ⟨m1, h1, h2⟩ := FrzMs.mem h.2 m' hm
   exact ⟨m1, by simp [h1], h2⟩
 | [], _ :: _, h, _, _ => h.elim
 | _ :: _, [], h, _, _ => h.elim
theorem FrzMs.refl {v : Value} {k : Nat} {es : List AV} : ∀ (M : List ME), FrzMs v k es M M
 | [] => trivial
 | m :: M => ⟨.refl m, FrzMs.refl M⟩
theorem W.freeze {R : Act → World → Prop} {v : Value} {T k : Nat} {es : List AV} {L' : List (Tmp × Bool × AV)} {M1 M2 D : List ME} (hM : List.Perm M (ME.arr v T k es :: (M1 ++ D))) (hL : FSub v k es L L') (hM2 : FrzMs v k es M1 M2) (h : W x L' M2 R) : W x L M R := by
 intro a w hs
 have hm := hs.mem.holds _ (hM.mem_iff.2 List.mem_cons_self)
 obtain ⟨ad, cap, e, h1, h2, h3⟩ := hm
 have hp2 : List.Perm M (M1 ++ (ME.arr v T k es :: D)) := hM.trans (List.perm_middle.symm)
 obtain ⟨hmem, hk, hsub⟩ := hs.mem.sub hp2
 have hbl := hM2.bl
 have hnd := (bl_perm hM).nodup_iff.1 hs.mem.nodup
 -- the slice itself, now that its block is none of the mutable ones
 have hv : Rep w (bl M1 ++ x.F) (.sl k es) v := by
  rw [e]
  refine Rep.slI h1 h2 ?_
  rcases h3 with ⟨_, hc⟩ | ⟨g, off, cur, lo, hi, rfl, hc, _, _, hE⟩
  ·left; exact List.eq_nil_of_length_eq_zero (by omega)
  ·refine .inr ⟨g, off, cur, T, (lo, hi), rfl, ?_, hc, RepE.keep hk _ _ _ hE⟩
   have hg : g ∈ bl [ME.arr v T k es] := by subst e; simp [Vl.bl, ME.blks]
   intro hin
   rcases List.mem_append.1 hin with hin | hin
   ·have : bl (ME.arr v T k es :: (M1 ++ D)) = bl [ME.arr v T k es] ++ (bl M1 ++ bl D) := by simp [Vl.bl]
    rw [this] at hnd
    exact (List.nodup_append.1 hnd).2.2 g hg g (List.mem_append_left _ hin) rfl
   ·refine hs.mem.apart g ?_ hin
    rw [(bl_perm hM).mem_iff]
    have : bl (ME.arr v T k es :: (M1 ++ D)) = bl [ME.arr v T k es] ++ (bl M1 ++ bl D) := by simp [Vl.bl]
    rw [this]
    exact List.mem_append_left _ hg
 refine h a w ⟨hs.defers, hs.size, ?_, ⟨by rw [hbl]; exact hmem.nodup, by rw [hbl]; exact hmem.apart, ?_⟩, by rw [hbl]; exact hs.fr.sub hsub, hs.old⟩
 ·intro t g b hl
  obtain ⟨a', hl', hf⟩ := hL.look t g b hl
  have := hs.slots t g a' hl'
  rw [hbl]
  exact ⟨fun hg => hf.rep hv ((this.1 hg).keep hk), this.2⟩
 ·intro m' hm'
  obtain ⟨m, h4, h5⟩ := hM2.mem m' hm'
  rw [hbl]
  exact h5.holds hv (hmem.holds m h4)
/-! ### make -/
theorem run_makeSlice {P : Program} {w : World} {T E k bytes : Nat} {z : Value} {n : Nat} (hT : P.underlying T = some (.slice E)) (hE : Ty P E k bytes z) (hzk : z.cells.size = k) (hb1 : 1 ≤ bytes) (hb : n * bytes ≤ 140737488355328) :
 ∃ cells : Array Value, (Instr.makeSlice T (.int .i64 n) (.int .i64 n)).run P w = .ok (.slice (some ⟨w.heap.size, 0, none⟩) n n) (w.alloc (.cells cells E)) ∧ cells.size = n * k ∧ ∀ j, j < n * k → cells[j]? = some (z.cells[j % k]!) := by
 have hn : n ≤ n * bytes := Nat.le_mul_of_pos_right _ hb1
 have hw : IntKind.i64.wrap (n : Int) = n := IntWalk.i64_in _ (by omega)
 obtain ⟨i, hi1, hi2, hi3, hi4⟩ := hE
 have ht : ¬ ((n : Int) < 0) := by omega
 have hmul : ((bytes : Int) * n) = ((n * bytes : Nat) : Int) := by rw [Int.mul_comm]; simp
 have ht2 : ¬ (281474976710656 < (bytes : Int) * n) := by rw [hmul]; omega
 have hsz : (zeroValue E).run P w = .ok z w := by simp [zeroValue, typeInfo, hi1, hi4]
 by_cases h0 : n * k = 0
 ·refine ⟨#[], ?_, by simp [h0], by intro j hj; omega⟩
  simp [Array.range_zero', Instr.makeSlice, run_underlying hT, asInt, asIntOf, typeInfo, hi1, hi3, hw, ht, ht2, sizeOf, hi2, h0, newRow]
 ·refine ⟨(Array.range (n * k)).map (z.cells[· % z.cells.size]!), ?_, by simp, ?_⟩
  ·simp [Instr.makeSlice, run_underlying hT, asInt, asIntOf, typeInfo, hi1, hi3, hw, ht, ht2, sizeOf, hi2, h0, newRow, hsz]
  ·intro j hj
   rw [Array.getElem?_map, Array.getElem?_range, if_pos hj, hzk]
   rfl
theorem RepE.rep {w : World} {N : List Nat} {k : Nat} {zl : List Value} (hk : zl.length = k) (hz : zl.all (fun v => shV v == 0) = true) {e : AV} (he : RepC w N e zl) : ∀ (n : Nat) (row : List Value), row.length = n * k → (∀ j, j < n * k → row[j]? = zl[j % k]?) → RepE w N k (List.replicate n e) row
 | 0, row, _, _ => by simp [RepE]
 | n + 1, row, hl, hr => by
  simp only [List.replicate_succ, RepE]
  have hm : (n + 1) * k = n * k + k := by rw [Nat.add_mul, Nat.one_mul]
  have h1 : row.take k = zl := by
   apply List.ext_getElem?
   intro j
   rw [List.getElem?_take]
   by_cases hj : j < k
   ·rw [if_pos hj, hr j (by omega), Nat.mod_eq_of_lt hj]
   ·rw [if_neg hj, List.getElem?_eq_none (by omega)]
  refine ⟨by omega, by rw [h1]; exact he, RepE.rep hk hz he n _ (by rw [List.length_drop]; omega) ?_⟩
  intro j hj
  rw [List.getElem?_drop, hr (k + j) (by omega), Nat.add_mod_left]
theorem W.mk {d : Tmp} {T E k bytes : Nat} {z : Value} {o1 o2 : Operand} {n : Nat} {e : AV} (h1 : Ov true L o1 (.lit (.int .i64 (n : Int)))) (h2 : Ov true L o2 (.lit (.int .i64 (n : Int)))) (hT : x.P.underlying T = some (.slice E)) (hE : Ty x.P E k bytes z) (hzk : z.cells.size = k) (hz : z.cells.toList.all (fun v => shV v == 0) = true)
 (he : e = match z.cells.toList with | [v] => if shV z == 1 then .agg [.lit v] else .lit v | l => .agg (l.map .lit)) (hb1 : Nat.ble 1 bytes = true) (hk1 : Nat.ble 1 k = true) (hb : n * bytes ≤ 140737488355328) (hd : Nat.blt d x.n = true)
 (next : ∀ v', W x ((d, true, .lit v') :: L) (ME.arr v' E k (List.replicate n e) :: M) (wpList x.P ops Q rest)) :
 W x L M (wpList x.P ops Q (⟨some d, .makeSlice T o1 o2, ty, pos, aft, none⟩ :: rest)) := by
 refine W.opv (ι := Value) (fun v' => ME.arr v' E k (List.replicate n e) :: M) (fun v' => .lit v') hd ?_ next; intro a w hs
 have hb1' := Nat.le_of_ble_eq_true hb1
 have hn : n ≤ n * bytes := Nat.le_mul_of_pos_right _ hb1'
 obtain ⟨cells, hr, hsz, hc⟩ := run_makeSlice (P := x.P) (w := w) hT hE hzk hb1' hb
 refine ⟨.slice (some ⟨w.heap.size, 0, none⟩) n n, w.alloc (.cells cells E), .slice (some ⟨w.heap.size, 0, none⟩) n n, by simp only [execOp, h1.lit rfl hs, h2.lit rfl hs, Sem.run_bind, hr, Result.andThen_ok, Sem.run_pure], ?_, Rep.lit _⟩
 refine hs.alloc _ _ rfl ?_
 intro N hN
 refine ⟨some ⟨w.heap.size, 0, none⟩, n, by simp, by simp, by simp only [maxLen]; omega, .inr ⟨w.heap.size, 0, cells, 0, 0, rfl, alloc_new _ _, by omega, .inl (Nat.le_refl _), ?_⟩⟩
 have hzl : z.cells.toList.length = k := by simpa using hzk
 refine RepE.rep hzl hz (e := e) ?_ n _ (by simp [hsz]) ?_
 ·have hL : ∀ l : List Value, l.all (fun v => shV v == 0) = true → RepL (w.alloc (.cells cells E)) N (l.map .lit) l := by
   intro l
   induction l with
   | nil => intro _; simp [RepL]
   | cons v l ih =>
    intro hz
    simp only [List.all_cons, Bool.and_eq_true, beq_iff_eq] at hz
    simp only [List.map_cons, RepL]
    exact ⟨v, l, rfl, ⟨hz.1, hz.1, by simp only [RepC, cells_of_sh hz.1]⟩, ih hz.2⟩
  subst he
  have := hL _ hz
  revert this hz
  generalize z.cells.toList = l
  intro hz this
  match l with
  | [] => simpa [RepC] using this
  | [v] =>
   simp only [List.all_cons, List.all_nil, Bool.and_true, beq_iff_eq] at hz
   dsimp only
   split
   ·simpa only [RepC, List.map_cons, List.map_nil] using this
   ·simp only [RepC, cells_of_sh hz]
  | u :: v :: l => simpa only [RepC] using this
 ·intro j hj
  have hkpos := Nat.le_of_ble_eq_true hk1
  have hlt : j % k < z.cells.size := by rw [hzk]; exact Nat.mod_lt _ hkpos
  rw [List.drop_zero, Array.getElem?_toList, hc j hj]
  simp [hlt]
/-! ### elements of the call's own arrays -/
section elems
variable {g : Bool} {T T' : TypeId} {o1 o2 : Operand}
theorem Ev.ata (i : Nat) {v : Value} {U k E bytes : Nat} {z : Value} {es : List AV} {n : Int} {ki : IntKind} (h1 : Ov g L o1 (.lit v)) (hM : M[i]? = some (ME.arr v U k es)) (h2 : Ov g L o2 (.lit (.int ki n))) (hT : x.P.underlying T = some (.slice E)) (hE : Ty x.P E k bytes z)
 (hi : g = true → 0 ≤ n ∧ n < es.length) : Ev x g L M (.indexAddr T o1 o2) ty (.aptr v (n.toNat * k)) := fun a w hs hg => by
 obtain ⟨hi0, hi1⟩ := hi hg
 obtain ⟨ad, cap, e, hlc, hcm, hcase⟩ := hs.mem.holds _ (List.mem_of_getElem? hM)
 have e1 := h1.lit hg hs
 rcases hcase with ⟨_, hc⟩ | ⟨gb, off, cur, lo, hi', rfl, hc, hsz, hfr, hrE⟩
 ·have : es.length = 0 := by omega
  omega
 ·refine ⟨.pointer (some ⟨gb, off + n.toNat * k, none⟩), ?_, rfl, ?_⟩
  ·rw [e] at e1
   simp [execOp, e1, h2.lit hg hs, Instr.indexAt, asIntOf, run_underlying hT, hi0, hi1, hE.size, Addr.add_lit]
  ·simp only [RepC]; exact ⟨gb, off, _, _, e, by simp [Value.cells]⟩
theorem arr_at {a : Act} {w : World} (hs : St x L M a w) {i : Nat} {v : Value} {U k : Nat} {es : List AV} (hM : M[i]? = some (ME.arr v U k es)) {q : Nat} {e : AV} (hq : es[q]? = some e) :
 ∃ gb off cap cur lo hi, v = .slice (some ⟨gb, off, none⟩) es.length cap ∧ w.heap[gb]? = some (.cells cur U (lo, hi)) ∧ off + cap * k ≤ cur.size ∧ (hi ≤ lo ∨ off + cap * k ≤ lo) ∧ es.length ≤ cap ∧ cap ≤ maxLen ∧ RepE w (bl M ++ x.F) k es (cur.toList.drop off) := by
 have hlt : q < es.length := by
  rcases Nat.lt_or_ge q es.length with h' | h'
  ·exact h'
  ·rw [List.getElem?_eq_none h'] at hq; cases hq
 obtain ⟨ad, cap, e, hlc, hcm, hcase⟩ := hs.mem.holds _ (List.mem_of_getElem? hM)
 rcases hcase with ⟨_, hc⟩ | ⟨gb, off, cur, lo, hi', rfl, hc, hsz, hfr, hrE⟩
 ·have : es.length = 0 := by omega
  omega
 ·exact ⟨gb, off, cap, cur, lo, hi', e, hc, hsz, hfr, hlc, hcm, hrE⟩
theorem Ev.lda1 (i q o : Nat) {v : Value} {U k j : Nat} {es : List AV} {e c : AV} (h1 : Ov g L o1 (.aptr v j)) (hM : M[i]? = some (ME.arr v U k es)) (hq : es[q]? = some e) (hj : j = q * k + o) (ho : e.okc = true) (hk : e.cells.length = k) (hc : e.cells[o]? = some c) (hT : IsAgg x.P T false) : Ev x g L M (.load T o1) ty c := fun a w hs hg => by
 obtain ⟨gb, off, cap, cur, lo, hi, hv, hcur, hsz, _, _, _, hrE⟩ := arr_at hs hM hq
 obtain ⟨g2, off2, n2, cap2, hv2, ep⟩ := (h1.rep hg hs).aptr_inv
 rw [hv] at hv2
 cases hv2
 obtain ⟨h3, h4⟩ := hrE.get hq
 obtain ⟨u, hu, hrep⟩ := RepL.get (RepC.cells ho h4) hc
 have hok : o < k := by
  have : o < e.cells.length := by
   rcases Nat.lt_or_ge o e.cells.length with h' | h'
   ·exact h'
   ·rw [List.getElem?_eq_none h'] at hc; cases hc
  omega
 rw [List.getElem?_take, if_pos hok, List.getElem?_drop, List.getElem?_drop, Array.getElem?_toList] at hu
 subst hj
 exact ⟨u, run_load1 hT hcur (by rw [← hu]) ep, hrep⟩
theorem Ev.ldan (i q : Nat) {v : Value} {U k j bytes : Nat} {z : Value} {es : List AV} {e : AV} (h1 : Ov g L o1 (.aptr v j)) (hM : M[i]? = some (ME.arr v U k es)) (hq : es[q]? = some e) (hj : j = q * k) (ho : e.okc = true) (hT : IsAgg x.P T true) (hk : Ty x.P T k bytes z) : Ev x g L M (.load T o1) ty (.agg e.cells) := fun a w hs hg => by
 obtain ⟨gb, off, cap, cur, lo, hi, hv, hcur, hsz, _, hlc, _, hrE⟩ := arr_at hs hM hq
 obtain ⟨g2, off2, n2, cap2, hv2, ep⟩ := (h1.rep hg hs).aptr_inv
 rw [hv] at hv2
 cases hv2
 obtain ⟨h3, h4⟩ := hrE.get hq
 subst hj
 have hlt : q < es.length := by
  rcases Nat.lt_or_ge q es.length with h' | h'
  ·exact h'
  ·rw [List.getElem?_eq_none h'] at hq; cases hq
 have hle : (q + 1) * k ≤ cap * k := Nat.mul_le_mul_right _ (by omega)
 rw [Nat.add_mul, Nat.one_mul] at hle
 refine ⟨_, run_loadn hT hk hcur (by omega) ep, rfl, ?_⟩
 rw [List.drop_drop] at h4
 simpa only [RepC, Value.cells] using RepC.cells ho h4
theorem RepE.set {w : World} {N : List Nat} {k : Nat} : ∀ {es : List AV} {row : List Value} {q : Nat} {e' : AV} {new : List Value}, RepE w N k es row → q < es.length → new.length = k → RepC w N e' new →
 RepE w N k (es.set q e') (row.take (q * k) ++ new ++ row.drop (q * k + k))
 | [], row, q, e', new, _, hq, _, _ => by simp at hq
 | e :: es, row, 0, e', new, h, _, hn, he => by
  simp only [RepE] at h
  simp only [List.set_cons_zero, RepE, Nat.zero_mul, List.take_zero, List.nil_append, Nat.zero_add]
  refine ⟨by simp; omega, by rw [List.take_append_of_le_length (by omega), List.take_of_length_le (by omega)]; exact he, ?_⟩
  rw [List.drop_append_of_le_length (by omega), List.drop_of_length_le (by omega), List.nil_append]
  exact h.2.2
 | e :: es, row, q + 1, e', new, h, hq, hn, he => by
  simp only [RepE] at h
  have ih := RepE.set h.2.2 (show q < es.length by simpa using hq) hn he
  simp only [List.set_cons_succ, RepE]
  have hm : (q + 1) * k = k + q * k := by rw [Nat.add_mul, Nat.one_mul, Nat.add_comm]
  have hle : k ≤ row.length := h.1
  rw [hm, List.take_add, List.append_assoc, List.append_assoc]
  have hkl : (row.take k).length = k := by simp; omega
  refine ⟨by simp; omega, by rw [List.take_append_of_le_length (by omega), List.take_take, Nat.min_self]; exact h.2.1, ?_⟩
  rw [List.drop_append_of_le_length (by omega), List.drop_of_length_le (by omega), List.nil_append]
  rw [List.drop_drop] at ih
  rw [List.append_assoc] at ih
  rw [show k + q * k + k = k + (q * k + k) from by omega]
  exact ih
theorem RepC.ofL {w : World} {N : List Nat} {e : AV} {row : List Value} (ho : e.okc = true) (h : RepL w N e.cells row) : RepC w N e row := by
 cases e with
 | agg cs => simpa only [RepC, AV.cells] using h
 | tup vs => simp [AV.okc] at ho
 | lit u =>
  simp only [AV.okc, beq_iff_eq] at ho
  have hu : (AV.lit u).cells = [.lit u] := by cases u <;> first | rfl | simp [shV] at ho
  rw [hu] at h; simp only [RepL] at h; obtain ⟨_, _, rfl, ⟨_, _, h1⟩, rfl⟩ := h; exact h1
 | sl k es => simp only [AV.cells, RepL] at h; obtain ⟨_, _, rfl, ⟨_, _, h1⟩, rfl⟩ := h; exact h1
 | eptr cs => simp only [AV.cells, RepL] at h; obtain ⟨_, _, rfl, ⟨_, _, h1⟩, rfl⟩ := h; exact h1
 | aptr v j => simp only [AV.cells, RepL] at h; obtain ⟨_, _, rfl, ⟨_, _, h1⟩, rfl⟩ := h; exact h1
theorem wr_elem {R nl : List Value} {off p o n k : Nat} (hn : nl.length = n) (hon : o + n ≤ k) (hR : off + p + k ≤ R.length) :
 (R.take (off + (p + o)) ++ nl ++ R.drop (off + (p + o) + n)).drop off =
  (R.drop off).take p ++ ((((R.drop off).drop p).take k).take o ++ nl ++ (((R.drop off).drop p).take k).drop (o + n)) ++ (R.drop off).drop (p + k) := by
 have e1 : (R.take (off + (p + o)) ++ nl ++ R.drop (off + (p + o) + n)).drop off = (R.drop off).take (p + o) ++ nl ++ (R.drop off).drop (p + o + n) := by
  rw [List.append_assoc, List.drop_append_of_le_length (by rw [List.length_take]; omega), List.drop_take, Nat.add_sub_cancel_left, List.append_assoc, List.drop_drop, Nat.add_assoc off (p + o) n]
 rw [e1]
 have hS : p + k ≤ (R.drop off).length := by rw [List.length_drop]; omega
 generalize R.drop off = S at hS
 have e2 : ((S.drop p).take k).take o = (S.drop p).take o := by rw [List.take_take, Nat.min_eq_left (by omega)]
 have e3 : ((S.drop p).take k).drop (o + n) ++ S.drop (p + k) = S.drop (p + o + n) := by
  have : S.drop (p + k) = ((S.drop p).drop k) := by rw [List.drop_drop]
  rw [this, ← List.drop_append_of_le_length (by rw [List.length_take, List.length_drop]; omega), List.take_append_drop, List.drop_drop, Nat.add_assoc]
 rw [e2, List.take_add, List.append_assoc, List.append_assoc, List.append_assoc, List.append_assoc, e3]
 simp [List.append_assoc]
theorem W.sta (i q o : Nat) {v : Value} {U k j n bytes : Nat} {z : Value} {es : List AV} {e e' av : AV} (h1 : Ov true L o1 (.aptr v j)) (h2 : Ov true L o2 av) (hM : M[i]? = some (ME.arr v U k es)) (hq : es[q]? = some e) (hj : j = q * k + o) (hT : Ty x.P T n bytes z)
 (hoe : e.okc = true) (hke : e.cells.length = k) (hoa : av.okc = true) (hka : av.cells.length = n) (hle : Nat.ble (o + n) k = true) (hoe' : e'.okc = true) (hce : e'.cells = splice e.cells o av.cells)
 (next : W x L (M.set i (ME.arr v U k (es.set q e'))) (wpList x.P ops Q rest)) :
 W x L M (wpList x.P ops Q (⟨none, .store T o1 o2, ty, pos, aft, none⟩ :: rest)) := by
 refine W.opu (ι := Unit) (fun _ => M.set i (ME.arr v U k (es.set q e'))) ?_ (fun _ => next); intro a w hs
 have hr := h2.rep rfl hs
 have hrl := hr.toL hoa
 have hlen := hrl.length
 have hle' := Nat.le_of_ble_eq_true hle
 obtain ⟨gb, off, cap, cur, lo, hi, hv, hcur, hsz, hfr, hlc, hcm, hrE⟩ := arr_at hs hM hq
 obtain ⟨g2, off2, n2, cap2, hv2, ep⟩ := (h1.rep rfl hs).aptr_inv
 rw [hv] at hv2
 cases hv2
 subst hj
 have hlt : q < es.length := by
  rcases Nat.lt_or_ge q es.length with h' | h'
  ·exact h'
  ·rw [List.getElem?_eq_none h'] at hq; cases hq
 have hmul : (q + 1) * k ≤ cap * k := Nat.mul_le_mul_right _ (by omega)
 rw [Nat.add_mul, Nat.one_mul] at hmul
 have hnl : (a.eval o2).cells.toList.length = n := by omega
 have hst := run_storeCells (P := x.P) (g := gb) (off := off + (q * k + o)) (T := U) (lo := lo) (hi := hi) (a.eval o2).cells.toList 0 cur w hcur (by omega) (by omega) hrl.sh
 refine ⟨{ w with heap := w.heap.setIfInBounds gb (.cells (wr cur (off + (q * k + o)) (a.eval o2).cells.toList) U (lo, hi)) }, (), ?_, ?_⟩
 ·have hne : ¬ ((a.eval o2).cells.size ≠ n) := by simp at hnl; omega
  simp only [execOp, ep, Instr.storeAt, Instr.sureAddr, storeVar, Sem.run_bind, Sem.run_pure, Result.andThen_ok, hT.size, if_neg hne, hst, Nat.add_zero]
 ·refine hs.write (m' := ME.arr v U k (es.set q e')) hM (by subst hv; rfl) (by subst hv; rfl) ?_
  intro w' hother hnew hk'
  have hcl : cur.toList.length = cur.size := Array.length_toList
  have hrE' := RepE.keep hk' _ _ _ hrE
  obtain ⟨h3, h4⟩ := hrE'.get hq
  have hsp := (RepC.cells hoe h4)
  -- the element's new cells
  have hnewcells : RepL w' (bl M ++ x.F) e'.cells ((((cur.toList.drop off).drop (q * k)).take k).take o ++ (a.eval o2).cells.toList ++ (((cur.toList.drop off).drop (q * k)).take k).drop (o + n)) := by
   rw [hce]
   unfold splice
   rw [hka]
   exact ((hsp.take o).append (RepL.keep hk' _ _ hrl)).append (hsp.drop _)
  refine ⟨some ⟨gb, off, none⟩, cap, by rw [List.length_set]; exact hv, by rw [List.length_set]; exact hlc, hcm, .inr ⟨gb, off, _, lo, hi, rfl, hnew, ?_, hfr, ?_⟩⟩
  ·rw [wr_size _ _ _ (by omega)]; exact hsz
  ·have hseg : (((cur.toList.drop off).drop (q * k)).take k).length = k := by rw [List.length_take]; omega
   have hset := RepE.set hrE' hlt (new := (((cur.toList.drop off).drop (q * k)).take k).take o ++ (a.eval o2).cells.toList ++ (((cur.toList.drop off).drop (q * k)).take k).drop (o + n)) (by
    rw [List.length_append, List.length_append, List.length_take, List.length_drop, hseg, hnl]; omega) (RepC.ofL hoe' hnewcells)
   refine RepE.congr hset ?_
   congr 1
   simp only [wr, List.toList_toArray]
   rw [hnl]
   exact (wr_elem hnl (by omega) (by omega)).symm
end elems
end arr
end Go.Vl
end
section
namespace Go.Vl
open Go Go.Sem
def ancN (ops : Array Oper) : Nat → Nat → Nat → Bool
 | 0, _, _ => false
 | n + 1, a, i => match ops[i]? with
  | none => false
  | some o => o.after.any fun e => Region.binds .any e && (Nat.beq e.on a || ancN ops n a e.on)
def anc (ops : Array Oper) (a i : Nat) : Bool := ancN ops ops.size a i
def Closed (ops : Array Oper) (e : Nat → Bool) : Prop := ∀ (j : Nat) (o : Oper), ops[j]? = some o → e j = true → ∀ ed ∈ o.after, Region.binds .any ed = true → e ed.on = true
structure OkE (ops : Array Oper) (e : Nat → Bool) (i : Nat) : Prop where
 closed : Closed ops e
 not : e i = false
 deps : ∀ o, ops[i]? = some o → ∀ ed ∈ o.after, Region.binds .any ed = true → e ed.on = true
theorem ancN_closed {ops : Array Oper} {e : Nat → Bool} (hc : Closed ops e) : ∀ (n a i : Nat), e i = true → ancN ops n a i = true → e a = true
 | 0, _, _, _, h => by simp [ancN] at h
 | n + 1, a, i, hi, h => by
  unfold ancN at h
  split at h
  ·cases h
  ·rename_i o ho
   simp only [Array.any_eq_true', Bool.and_eq_true, Bool.or_eq_true] at h
   obtain ⟨ed, hed, hb, h⟩ := h
   have h1 := hc i o ho hi ed hed hb
   rcases h with h | h
   ·rw [← Nat.eq_of_beq_eq_true h]; exact h1
   ·exact ancN_closed hc n a ed.on h1 h
theorem OkE.up {ops : Array Oper} {e : Nat → Bool} {i : Nat} (h : OkE ops e i) (a : Nat) (ha : anc ops a i = true) : e a = true := by
 unfold anc at ha
 cases hn : ops.size with
 | zero => rw [hn] at ha; simp [ancN] at ha
 | succ n =>
  rw [hn] at ha
  unfold ancN at ha
  split at ha
  ·cases ha
  ·rename_i o ho
   simp only [Array.any_eq_true', Bool.and_eq_true, Bool.or_eq_true] at ha
   obtain ⟨ed, hed, hb, ha⟩ := ha
   have h1 := h.deps o ho ed hed hb
   rcases ha with ha | ha
   ·rw [← Nat.eq_of_beq_eq_true ha]; exact h1
   ·exact ancN_closed h.closed n a ed.on h1 ha
theorem OkE.down {ops : Array Oper} {e : Nat → Bool} {i : Nat} (h : OkE ops e i) (s : Nat) (hs : anc ops i s = true) : e s = false := by
 cases he : e s with
 | false => rfl
 | true => have := ancN_closed h.closed _ i s he hs; rw [h.not] at this; cases this
def addE (e : Nat → Bool) (i : Nat) : Nat → Bool := fun j => if i = j then true else e j
theorem fm_congr {α β : Type} {f g : α → Option β} : ∀ (l : List α), (∀ j ∈ l, f j = g j) → l.filterMap f = l.filterMap g
 | [], _ => rfl
 | a :: l, h => by rw [List.filterMap_cons, List.filterMap_cons, h a (by simp), fm_congr l (fun j hj => h j (by simp [hj]))]
section draw
variable {x : Cx} {L : List En} {M : List ME} {Q : Exit → Act → World → Prop} {ι : Type}
def stepE (x : Cx) (ops : Array Oper) (o : Oper) (a : Act) (w : World) (K : Act → World → Prop) : Prop :=
 ∀ Q : Exit → Act → World → Prop, if Region.wanted o (yielded ops a.tmps) then o.wp x.P a w K Q else K (a.put o.dst undef) w
def KeyOk (x : Cx) (o : Oper) (ent : ι → En) : Prop := ∀ c, match o.dst with
 | some d => (ent c).1 = d ∧ Nat.blt d x.n = true
 | none => ent c = (x.n, false, .lit undef)
def ObE (x : Cx) (ops : Array Oper) (L : List En) (Mf : (Nat → Bool) → ι → List ME) (i0 i : Nat) (o : Oper) (done : ι → List En) (ent : ι → En) : Prop :=
 ∀ e c, OkE ops e i → ∀ L' a w, (∀ t p, look (sel (o.looksAt ops) (done c ++ L)) t = some p → look L' t = some p) → St x L' (Mf e c) a w →
  stepE x ops o a w (fun a' w' => ∃ c', (i = i0 ∨ c' = c) ∧ St x (ent c' :: L') (Mf (addE e i) c') a' w')
def DE (x : Cx) (ops : Array Oper) (L : List En) (Mf : (Nat → Bool) → ι → List ME) (i0 : Nat) (R : Act → World → Prop) : Nat → List Oper → (ι → List En) → Prop
 | i, [], done => ∀ c e, (∀ j, j < i → e j = true) → W x (done c ++ L) (Mf e c) R
 | i, o :: rest, done => ∃ ent : ι → En, KeyOk x o ent ∧ (i = i0 ∨ anc ops i0 i = true ∨ ∀ c c', ent c = ent c') ∧ ObE x ops L Mf i0 i o done ent ∧ DE x ops L Mf i0 R (i + 1) rest (fun c => ent c :: done c)
theorem DE.extract {ops : Array Oper} {R : Act → World → Prop} {Mf : (Nat → Bool) → ι → List ME} {i0 : Nat} : ∀ {rest : List Oper} {k : Nat} {done : ι → List En}, DE x ops L Mf i0 R k rest done →
 ∃ ents : List (ι → En), ents.length = rest.length ∧ (∀ (i : Nat) (o : Oper), rest[i]? = some o → ∃ ent, ents[i]? = some ent ∧ KeyOk x o ent ∧ (k + i = i0 ∨ anc ops i0 (k + i) = true ∨ ∀ c c', ent c = ent c') ∧
  ObE x ops L Mf i0 (k + i) o (fun c => ((ents.take i).map (· c)).reverse ++ done c) ent) ∧ (∀ c e, (∀ j, j < k + rest.length → e j = true) → W x ((ents.map (· c)).reverse ++ (done c ++ L)) (Mf e c) R)
 | [], k, done, h => by
  have h' : ∀ c e, (∀ j, j < k → e j = true) → W x (done c ++ L) (Mf e c) R := h
  exact ⟨[], rfl, by simp, fun c e he => by simpa using h' c e (by simpa using he)⟩
 | o :: rest, k, done, h => by
  obtain ⟨ent, h1, h2, h3, h4⟩ := h
  obtain ⟨ents, e1, e2, e3⟩ := DE.extract h4
  refine ⟨ent :: ents, by simp [e1], ?_, ?_⟩
  ·intro i o' ho'
   cases i with
   | zero => simp at ho'; subst ho'; exact ⟨ent, rfl, h1, h2, by simpa using h3⟩
   | succ i =>
    obtain ⟨ent', f1, f2, f3, f4⟩ := e2 i o' (by simpa using ho')
    have e : k + 1 + i = k + (i + 1) := by omega
    rw [e] at f3 f4
    exact ⟨ent', by simpa using f1, f2, f3, by simpa using f4⟩
  ·intro c e he
   have := e3 c e (fun j hj => he j (by simp; omega))
   simpa using this
def okDrawE (n : Nat) (ops : Array Oper) : Bool :=
 (List.range ops.size).all fun i => match ops[i]? with
  | none => false
  | some oi => oi.after.all (fun e => !(Region.binds .any e) || decide (e.on < i)) && !(oi.looksAt ops).contains n && (List.range ops.size).all fun j => match ops[j]? with
   | none => false
   | some oj => i == j || ((oi.dst != oj.dst || oj.dst.isNone) && match oj.dst with
    | none => true
    | some d => !(oi.looksAt ops).contains d || (bif j < i then oi.after.any (fun e => Region.binds .any e && e.on == j) else oj.after.any (fun e => Region.binds .any e && e.on == i)))
theorem St.ghost {a : Act} {w : World} (hs : St x L M a w) : St x ((x.n, false, .lit undef) :: L) M a w := by
 refine ⟨hs.defers, hs.size, ?_, hs.mem, hs.fr, hs.old⟩
 intro t g av hl
 rw [look_cons] at hl
 by_cases e : x.n = t
 ·subst e
  rw [if_pos rfl] at hl
  cases hl
  refine ⟨fun h => (by cases h), fun _ => ?_⟩
  rw [Array.getD_eq_getD_getElem?, Array.getElem?_eq_none (by rw [hs.size]; omega)]
  rfl
 ·rw [if_neg e] at hl
  exact hs.slots t g av hl
theorem W.drawnE {id : Nat} {l : List Oper} (Mf : (Nat → Bool) → ι → List ME) (i0 : Nat) (c0 : ι) (hm : x.P.follows .mixedOrders = true) (hok : okDrawE x.n l.toArray = true) (hM0 : M = Mf (fun _ => false) c0) (h : DE x l.toArray L Mf i0 (Q .normal) 0 l (fun _ => [])) : W x L M (Code.wp x.P (.region id l.toArray true) Q) := by
 subst hM0
 intro a w hs
 obtain ⟨ents, hlen, hes, hW⟩ := h.extract
 simp only [List.append_nil, Nat.zero_add, List.nil_append] at hes hW
 -- the edges, in words
 have hok' : ∀ (i : Nat) (oi : Oper), l[i]? = some oi → ((∀ e ∈ oi.after, Region.binds .any e = true → e.on < i) ∧ x.n ∉ oi.looksAt l.toArray) ∧ ∀ (j : Nat) (oj : Oper), l[j]? = some oj → i ≠ j → (oi.dst ≠ oj.dst ∨ oj.dst = none) ∧ ∀ d, oj.dst = some d → d ∈ oi.looksAt l.toArray →
  (j < i ∧ ∃ e ∈ oi.after, Region.binds .any e = true ∧ e.on = j) ∨ (i < j ∧ ∃ e ∈ oj.after, Region.binds .any e = true ∧ e.on = i) := by
  intro i oi hi
  have hil : i < l.length := by
   rcases Nat.lt_or_ge i l.length with h' | h'
   ·exact h'
   ·rw [List.getElem?_eq_none h'] at hi; cases hi
  simp only [okDrawE, List.size_toArray, List.all_eq_true, List.mem_range] at hok
  have h1 := hok i hil
  rw [List.getElem?_toArray, hi] at h1
  simp only [Bool.and_eq_true, Array.all_eq_true', List.all_eq_true, List.mem_range, decide_eq_true_eq, Bool.not_eq_true', List.contains_eq_mem, decide_eq_false_iff_not] at h1
  refine ⟨⟨fun e he hb => by
   have h9 := h1.1.1 e he
   rw [hb] at h9
   simpa using h9, h1.1.2⟩, fun j oj hj hne => ?_⟩
  have hjl : j < l.length := by
   rcases Nat.lt_or_ge j l.length with h' | h'
   ·exact h'
   ·rw [List.getElem?_eq_none h'] at hj; cases hj
  have h2 := h1.2 j hjl
  rw [List.getElem?_toArray, hj] at h2
  simp only [Bool.or_eq_true, beq_iff_eq, hne, false_or, Bool.and_eq_true, bne_iff_ne, Option.isNone_iff_eq_none] at h2
  refine ⟨h2.1, fun d hd hdl => ?_⟩
  have h3 := h2.2
  rw [hd] at h3
  simp only [Bool.or_eq_true, Bool.not_eq_true', List.contains_eq_mem, decide_eq_false_iff_not, hdl, not_true_eq_false, false_or] at h3
  by_cases hji : j < i
  ·left
   simp only [hji, decide_true, cond_true, Array.any_eq_true', Bool.and_eq_true, beq_iff_eq] at h3
   obtain ⟨e, he, hb, ho⟩ := h3
   exact ⟨hji, e, he, hb, ho⟩
  ·right
   simp only [hji, decide_false, cond_false, Array.any_eq_true', Bool.and_eq_true, beq_iff_eq] at h3
   obtain ⟨e, he, hb, ho⟩ := h3
   exact ⟨by omega, e, he, hb, ho⟩
 have hkd : ∀ (i : Nat) (ent : ι → En), ents[i]? = some ent → ∃ oi : Oper, l[i]? = some oi ∧ KeyOk x oi ent := by
  intro i e he
  have hil : i < l.length := by
   rcases Nat.lt_or_ge i ents.length with h' | h'
   ·omega
   ·rw [List.getElem?_eq_none h'] at he; cases he
  obtain ⟨ent, h1, h2, _⟩ := hes i l[i] (List.getElem?_eq_getElem hil)
  rw [he] at h1
  cases h1
  exact ⟨l[i], List.getElem?_eq_getElem hil, h2⟩
 let es : ι → List En := fun c => ents.map (· c)
 have hesl : ∀ c, (es c).length = ents.length := fun c => List.length_map ..
 have hesi : ∀ (c : ι) (i : Nat) (e : En), (es c)[i]? = some e → ∃ ent, ents[i]? = some ent ∧ ent c = e := by
  intro c i e he
  rw [List.getElem?_map] at he
  cases hx : ents[i]? with
  | none => rw [hx] at he; cases he
  | some ent => rw [hx] at he; cases he; exact ⟨ent, rfl, rfl⟩
 have hesm : ∀ (c : ι) (i : Nat) (ent : ι → En), ents[i]? = some ent → (es c)[i]? = some (ent c) := by
  intro c i ent he
  rw [List.getElem?_map, he]; rfl
 have hget : ∀ (c : ι) (i : Nat) (e : En), (es c)[i]? = some e → ∃ oi : Oper, l[i]? = some oi ∧ (oi.dst = some e.1 ∨ (oi.dst = none ∧ e.1 = x.n)) := by
  intro c i e he
  obtain ⟨ent, h1, rfl⟩ := hesi c i e he
  obtain ⟨oi, h2, h3⟩ := hkd i ent h1
  refine ⟨oi, h2, ?_⟩
  have h4 := h3 c
  cases hd : oi.dst with
  | none => rw [hd] at h4; exact .inr ⟨rfl, by rw [show ent c = (x.n, false, .lit undef) from h4]⟩
  | some d => rw [hd] at h4; exact .inl (by rw [h4.1])
 have hkey : ∀ (c : ι) (i j : Nat) (e e' : En), (es c)[i]? = some e → (es c)[j]? = some e' → e.1 = e'.1 → e = e' := by
  intro c i j e e' hi hj he
  by_cases hne : i = j
  ·subst hne; rw [hi] at hj; cases hj; rfl
  ·skip
   obtain ⟨enti, hi1, rfl⟩ := hesi c i e hi
   obtain ⟨entj, hj1, rfl⟩ := hesi c j e' hj
   obtain ⟨oi, h1, h2⟩ := hkd i enti hi1
   obtain ⟨oj, h3, h4⟩ := hkd j entj hj1
   have hn := ((hok' i oi h1).2 j oj h3 hne).1
   have h5 := h2 c
   have h6 := h4 c
   cases hd : oi.dst with
   | none =>
    cases hd' : oj.dst with
    | none =>
     rw [hd] at h5
     rw [hd'] at h6
     exact (show enti c = _ from h5).trans (show entj c = _ from h6).symm
    | some d' =>
     exfalso
     rw [hd] at h5
     rw [hd'] at h6
     replace h5 : (enti c).1 = x.n := by rw [show enti c = (x.n, false, .lit undef) from h5]
     have : d' < x.n := by simpa [Nat.blt_eq] using h6.2
     have e1 : d' = x.n := by rw [← h6.1, ← he, h5]
     rw [e1] at this; exact Nat.lt_irrefl _ this
   | some d =>
    exfalso
    cases hd' : oj.dst with
    | none =>
     rw [hd] at h5
     rw [hd'] at h6
     replace h6 : (entj c).1 = x.n := by rw [show entj c = (x.n, false, .lit undef) from h6]
     have : d < x.n := by simpa [Nat.blt_eq] using h5.2
     have e1 : d = x.n := by rw [← h5.1, he, h6]
     rw [e1] at this; exact Nat.lt_irrefl _ this
    | some d' =>
     rw [hd] at h5
     rw [hd'] at h6
     rcases hn with hn | hn
     ·exact hn (by rw [hd, hd', ← h5.1, ← h6.1, he])
     ·rw [hd'] at hn; cases hn
 have hdist : ∀ (c : ι) listed, ∀ e ∈ esOf (es c) listed, ∀ e' ∈ esOf (es c) listed, e.1 = e'.1 → e = e' := by
  intro c listed e he e' he' hk
  obtain ⟨i, _, hi⟩ := mem_esOf.1 he
  obtain ⟨j, _, hj⟩ := mem_esOf.1 he'
  exact hkey c i j e e' hi hj hk
 refine wp_region_any hm ?_
 have key : ∀ (fuel : Nat) (listed : Array Bool) (a : Act) (w : World), listed.size = l.length → (∀ (i : Nat) (o : Oper), l[i]? = some o → listed.getD i false = true → ∀ e ∈ o.after, Region.binds .any e = true → listed.getD e.on false = true) →
  (∃ c, St x (esOf (es c) listed ++ L) (Mf (fun j => listed.getD j false) c) a w) → (fuel = 0 → ∀ i, i < l.length → listed.getD i false = true) → (listed.toList.filter (!·)).length ≤ fuel → wpAny x.P .any l.toArray Q fuel listed a w := by
  intro fuel
  have hdone : ∀ (listed : Array Bool) (a : Act) (w : World), listed.size = l.length → (∃ c, St x (esOf (es c) listed ++ L) (Mf (fun j => listed.getD j false) c) a w) → Region.ready .any l.toArray listed = [] → Q .normal a w := by
   rintro listed a w hsz ⟨c, hs⟩ hr
   have hall : ∀ i, i < l.length → listed.getD i false = true := by
    intro i
    induction i using Nat.strongRecOn with
    | _ i ih =>
     intro hi
     cases hli : listed.getD i false with
     | true => rfl
     | false =>
      exfalso
      have : i ∈ Region.ready .any l.toArray listed := by
       simp only [Region.ready, List.mem_filter, List.mem_range, List.size_toArray, Bool.and_eq_true]
       refine ⟨hi, ?_, ?_⟩
       ·have : listed.getD i true = false := by
         rw [Array.getD_eq_getD_getElem?, Array.getElem?_eq_getElem (by omega)] at hli ⊢
         simpa using hli
        simp [this]
       ·rw [List.getElem?_toArray, List.getElem?_eq_getElem hi]
        simp only [Option.map_some, Option.getD_some, Array.all_eq_true', Bool.or_eq_true, Bool.not_eq_true']
        intro e he
        cases hb : Region.binds .any e with
        | false => exact .inl rfl
        | true =>
         have hlt := (hok' i l[i] (List.getElem?_eq_getElem hi)).1.1 e he hb
         exact .inr (ih e.on hlt (by omega))
      rw [hr] at this
      cases this
   refine hW c _ (fun j hj => hall j (by simpa using hj)) a w (hs.look ?_)
   intro t p hl
   rw [look_append] at hl ⊢
   by_cases hk : ∃ e ∈ es c, e.1 = t
   ·obtain ⟨e, he, rfl⟩ := hk
    obtain ⟨i, hi, hie⟩ := List.getElem_of_mem he
    have hie' : (es c)[i]? = some e := by rw [List.getElem?_eq_getElem hi, hie]
    have h1 : look (es c).reverse e.1 = some e.2 := look_mem (List.mem_reverse.2 he) (by
     intro e1 he1 e2 he2 hk
     obtain ⟨i1, hi1, hie1⟩ := List.getElem_of_mem (List.mem_reverse.1 he1)
     obtain ⟨i2, hi2, hie2⟩ := List.getElem_of_mem (List.mem_reverse.1 he2)
     exact hkey c i1 i2 e1 e2 (by rw [List.getElem?_eq_getElem hi1, hie1]) (by rw [List.getElem?_eq_getElem hi2, hie2]) hk)
    have h2 : look (esOf (es c) listed) e.1 = some e.2 := look_mem (mem_esOf.2 ⟨i, hall i (by have := hesl c; omega), hie'⟩) (hdist c listed)
    rw [h1] at hl
    rw [h2]
    simpa using hl
   ·have h1 : look (es c).reverse t = none := look_none (fun e he h => hk ⟨e, List.mem_reverse.1 he, h⟩)
    rw [h1, Option.none_or] at hl
    have h2 : look (esOf (es c) listed) t = none := look_none (fun e he h => by
     obtain ⟨i, _, hi⟩ := mem_esOf.1 he
     exact hk ⟨e, List.mem_of_getElem? hi, h⟩)
    rw [h2, Option.none_or]
    exact hl
  induction fuel with
  | zero =>
   intro listed a w hsz hcl hs h0 _
   have hall := h0 rfl
   have hr : Region.ready .any l.toArray listed = [] := by
    apply List.eq_nil_iff_forall_not_mem.2
    intro i hi
    simp only [Region.ready, List.mem_filter, List.mem_range, List.size_toArray, Bool.and_eq_true, Bool.not_eq_true'] at hi
    have h1 := hall i hi.1
    have h2 := hi.2.1
    rw [Array.getD_eq_getD_getElem?, Array.getElem?_eq_getElem (by omega)] at h1 h2
    simp at h1 h2
    rw [h1] at h2
    cases h2
   exact ⟨hr, hdone listed a w hsz hs hr⟩
  | succ fuel ih =>
   rintro listed a w hsz hcl ⟨c, hs⟩ _ hcount
   refine ⟨hdone listed a w hsz ⟨c, hs⟩, fun i hi => ?_⟩
   simp only [Region.ready, List.mem_filter, List.mem_range, List.size_toArray, Bool.and_eq_true, Bool.not_eq_true'] at hi
   obtain ⟨hil, hnl, hdeps⟩ := hi
   have hnl' : listed.getD i false = false := by
    rw [Array.getD_eq_getD_getElem?, Array.getElem?_eq_getElem (by omega)] at hnl ⊢
    simpa using hnl
   have hoi : l[i]? = some l[i] := List.getElem?_eq_getElem hil
   generalize l[i] = oi at hoi
   obtain ⟨ent, he, hko, hdep, hob⟩ := hes i oi hoi
   have hce := hesm c i ent he
   rw [List.getElem?_toArray, hoi] at hdeps
   simp only [Option.map_some, Option.getD_some, Array.all_eq_true', Bool.or_eq_true, Bool.not_eq_true'] at hdeps
   have hdeps' : ∀ e ∈ oi.after, Region.binds .any e = true → listed.getD e.on false = true := by
    intro e he hb
    rcases hdeps e he with h' | h'
    ·rw [hb] at h'; cases h'
    ·exact h'
   -- what the operation looks at is known
   have hsee : ∀ t p, look (sel (oi.looksAt l.toArray) (((ents.take i).map (· c)).reverse ++ L)) t = some p → look (esOf (es c) listed ++ L) t = some p := by
    intro t p hl
    rw [look_sel] at hl
    split at hl
    ·rename_i ht
     rw [look_append] at hl ⊢
     by_cases hk : ∃ j e, j < i ∧ (es c)[j]? = some e ∧ e.1 = t
     ·obtain ⟨j, e, hji, hje, rfl⟩ := hk
      obtain ⟨oj, hoj, hdj⟩ := hget c j e hje
      replace hdj : oj.dst = some e.1 := by
       rcases hdj with h | ⟨_, h⟩
       ·exact h
       ·rw [h] at ht; exact absurd ht (hok' i oi hoi).1.2
      have hl1 : listed.getD j false = true := by
       rcases ((hok' i oi hoi).2 j oj hoj (by omega)).2 e.1 hdj ht with ⟨_, ed, hed, hb, ho⟩ | ⟨h', _⟩
       ·rw [← ho]; exact hdeps' ed hed hb
       ·omega
      have h1 : look ((ents.take i).map (· c)).reverse e.1 = some e.2 := look_mem (List.mem_reverse.2 (by rw [List.map_take]; exact List.mem_of_getElem? (i := j) (by rw [List.getElem?_take, if_pos hji]; exact hje))) (by
       intro e1 he1 e2 he2 hk
       obtain ⟨i1, hi1, hie1⟩ := List.getElem_of_mem (l := es c) (by have := List.mem_reverse.1 he1; rw [List.map_take] at this; exact List.mem_of_mem_take this)
       obtain ⟨i2, hi2, hie2⟩ := List.getElem_of_mem (l := es c) (by have := List.mem_reverse.1 he2; rw [List.map_take] at this; exact List.mem_of_mem_take this)
       exact hkey c i1 i2 e1 e2 (by rw [List.getElem?_eq_getElem hi1, hie1]) (by rw [List.getElem?_eq_getElem hi2, hie2]) hk)
      have h2 : look (esOf (es c) listed) e.1 = some e.2 := look_mem (mem_esOf.2 ⟨j, hl1, hje⟩) (hdist c listed)
      rw [h1] at hl
      rw [h2]
      simpa using hl
     ·have h1 : look ((ents.take i).map (· c)).reverse t = none := look_none (fun e he h => by
       have he' := List.mem_reverse.1 he
       rw [List.map_take] at he'
       obtain ⟨j, hj, hje⟩ := List.getElem_of_mem he'
       rw [List.length_take] at hj
       refine hk ⟨j, e, by omega, ?_, h⟩
       rw [← hje, List.getElem_take]
       exact List.getElem?_eq_getElem _)
      rw [h1, Option.none_or] at hl
      have h2 : look (esOf (es c) listed) t = none := look_none (fun e he h => by
       obtain ⟨j, hlj, hje⟩ := mem_esOf.1 he
       obtain ⟨oj, hoj, hdj⟩ := hget c j e hje
       replace hdj : oj.dst = some e.1 := by
        rcases hdj with h' | ⟨_, h'⟩
        ·exact h'
        ·rw [← h, h'] at ht; exact absurd ht (hok' i oi hoi).1.2
       have hji : ¬ j < i := fun h' => hk ⟨j, e, h', hje, h⟩
       by_cases hij : i = j
       ·subst hij; rw [hnl'] at hlj; cases hlj
       ·rcases ((hok' i oi hoi).2 j oj hoj hij).2 e.1 hdj (h ▸ ht) with ⟨h', _⟩ | ⟨_, ed, hed, hb, ho⟩
        ·exact hji h'
        ·have := hcl j oj hoj hlj ed hed hb
         rw [ho, hnl'] at this
         cases this)
      rw [h2, Option.none_or]
      exact hl
    ·cases hl
   -- behind it
   have hnext : ∀ a' w', (∃ c', (i = i0 ∨ c' = c) ∧ St x (ent c' :: (esOf (es c) listed ++ L)) (Mf (addE (fun j => listed.getD j false) i) c') a' w') → wpAny x.P .any l.toArray Q fuel (listed.setIfInBounds i true) a' w' := by
    rintro a' w' ⟨c', hcc, hst⟩
    have hset : ∀ j, (listed.setIfInBounds i true).getD j false = if i = j then true else listed.getD j false := by
     intro j
     rw [Array.getD_eq_getD_getElem?, Array.getD_eq_getD_getElem?, Array.getElem?_setIfInBounds]
     by_cases e : i = j
     ·subst e; simp [hsz, hil]
     ·simp [e]
    have hcnt : ((listed.setIfInBounds i true).toList.filter (!·)).length < (listed.toList.filter (!·)).length := by
     rw [Array.toList_setIfInBounds]
     have hlt : i < listed.toList.length := by simp [hsz]; exact hil
     have hv : listed.toList[i] = false := by
      rw [Array.getD_eq_getD_getElem?, Array.getElem?_eq_getElem (by omega)] at hnl'
      simpa using hnl'
     exact count_set _ i hlt hv
    have hMe : Mf (addE (fun j => listed.getD j false) i) c' = Mf (fun j => (listed.setIfInBounds i true).getD j false) c' := by
     congr 1
     funext j
     rw [hset]
     unfold addE
     rfl
    rw [hMe] at hst
    have hsame : ∀ j, listed.getD j false = true → (es c)[j]? = (es c')[j]? := by
     intro j hlj
     rcases hcc with hcc | hcc
     ·cases hx : ents[j]? with
      | none => show (ents.map (· c))[j]? = (ents.map (· c'))[j]?; rw [List.getElem?_map, List.getElem?_map, hx]; rfl
      | some entj =>
       obtain ⟨oj, hoj, _⟩ := hkd j entj hx
       obtain ⟨entj', hx', _, hd', _⟩ := hes j oj hoj
       rw [hx] at hx'; cases hx'
       rw [hesm c j entj hx, hesm c' j entj hx]
       rcases hd' with h' | h' | h'
       ·exfalso; rw [h', ← hcc, hnl'] at hlj; cases hlj
       ·exfalso
        have := ancN_closed (ops := l.toArray) (e := fun j => listed.getD j false) (fun j o ho hj ed hed hb => hcl j o (by simpa using ho) hj ed hed hb) _ i0 j hlj h'
        rw [← hcc, hnl'] at this; cases this
       ·rw [h' c c']
     ·rw [hcc]
    have hesE : esOf (es c) listed = esOf (es c') listed := by
     unfold esOf
     rw [hesl, hesl]
     refine fm_congr _ ?_
     intro j hj
     exact hsame j (by simpa using (List.mem_filter.1 hj).2)
    rw [hesE] at hst
    have he' := hesm c' i ent he
    refine ih _ a' w' (by simpa using hsz) ?_ ⟨c', hst.look ?_⟩ ?_ (by omega)
    ·intro j o ho hlj e he hb
     rw [hset] at hlj ⊢
     split
     ·rfl
     ·split at hlj
      ·rename_i hij; subst hij; rw [hoi] at ho; cases ho; exact hdeps' e he hb
      ·exact hcl j o ho hlj e he hb
    ·intro t p hl
     rw [look_append] at hl
     rw [show ent c' = ((ent c').1, (ent c').2) from rfl, look_cons]
     by_cases hdt : (ent c').1 = t
     ·subst hdt
      rw [if_pos rfl]
      have h2 : look (esOf (es c') (listed.setIfInBounds i true)) (ent c').1 = some (ent c').2 := look_mem (mem_esOf.2 ⟨i, by rw [hset, if_pos rfl], he'⟩) (hdist c' _)
      rw [h2] at hl
      simpa using hl
     ·rw [if_neg hdt, look_append]
      by_cases hk : ∃ e ∈ esOf (es c') listed, e.1 = t
      ·obtain ⟨e, hee, rfl⟩ := hk
       obtain ⟨j, hlj, hje⟩ := mem_esOf.1 hee
       have h2 : look (esOf (es c') (listed.setIfInBounds i true)) e.1 = some e.2 := look_mem (mem_esOf.2 ⟨j, by rw [hset, hlj, ite_self], hje⟩) (hdist c' _)
       have h3 : look (esOf (es c') listed) e.1 = some e.2 := look_mem hee (hdist c' _)
       rw [h2] at hl
       rw [h3]
       exact hl
      ·have h2 : look (esOf (es c') (listed.setIfInBounds i true)) t = none := look_none (fun e hee h => by
        obtain ⟨j, hlj, hje⟩ := mem_esOf.1 hee
        rw [hset] at hlj
        split at hlj
        ·rename_i hij; subst hij; rw [he'] at hje; cases hje; exact hdt h
        ·exact hk ⟨e, mem_esOf.2 ⟨j, hlj, hje⟩, h⟩)
       have h3 : look (esOf (es c') listed) t = none := look_none (fun e hee h => hk ⟨e, hee, h⟩)
       rw [h2, Option.none_or] at hl
       rw [h3, Option.none_or]
       exact hl
    ·intro hf j hj
     rw [hset]
     split
     ·rfl
     ·rename_i hij
      subst hf
      cases hlj : listed.getD j false with
      | true => rfl
      | false =>
       exfalso
       have hz : ((listed.setIfInBounds i true).toList.filter (!·)).length = 0 := by omega
       have hz' := List.eq_nil_of_length_eq_zero hz
       have : false ∈ (listed.setIfInBounds i true).toList.filter (!·) := by
        rw [List.mem_filter]
        refine ⟨?_, rfl⟩
        have h5 := hset j
        rw [if_neg hij, hlj, Array.getD_eq_getD_getElem?, Array.getElem?_eq_getElem (by simp; omega)] at h5
        simp only [Option.getD_some] at h5
        rw [← h5]
        exact Array.mem_toList_iff.2 (Array.getElem_mem _)
       rw [hz'] at this
       cases this
   -- the operation itself
   have hst := hob (fun j => listed.getD j false) c ⟨fun j o ho hj ed hed hb => hcl j o (by simpa using ho) hj ed hed hb, hnl', fun o ho ed hed hb => by rw [List.getElem?_toArray, hoi] at ho; cases ho; exact hdeps' ed hed hb⟩ _ a w hsee hs Q
   unfold wpOp
   rw [List.getElem?_toArray, hoi]
   simp only
   split
   ·rename_i hw
    rw [if_pos hw] at hst
    exact .inl (Oper.wp_mono hnext hst)
   ·rename_i hw
    rw [if_neg hw] at hst
    exact hnext _ _ hst
 refine key _ _ _ _ (by simp) ?_ ?_ ?_ ?_
 ·intro i o ho hl
  exfalso
  rw [Array.getD_eq_getD_getElem?] at hl
  rcases Nat.lt_or_ge i l.length with h' | h'
  ·simp [h'] at hl
  ·simp [h'] at hl
 ·refine ⟨c0, ?_⟩
  have : esOf (es c0) (Array.replicate l.toArray.size false) = [] := by
   apply List.eq_nil_iff_forall_not_mem.2
   intro e he
   obtain ⟨i, hi, _⟩ := mem_esOf.1 he
   rw [Array.getD_eq_getD_getElem?] at hi
   rcases Nat.lt_or_ge i l.length with h' | h'
   ·simp [h'] at hi
   ·simp [h'] at hi
  have hfe : (fun j => (Array.replicate l.toArray.size false).getD j false) = fun _ => false := by
   funext j
   rw [Array.getD_eq_getD_getElem?]
   rcases Nat.lt_or_ge j l.length with h' | h'
   ·simp [h']
   ·simp [h']
  rw [this, List.nil_append, hfe]
  exact hs.same rfl rfl rfl rfl
 ·intro h0 i hi
  simp at h0
  subst h0
  simp at hi
 ·simp
/-! ### what such a region's operations are met by -/
section rules
variable {ops : Array Oper} {R : Act → World → Prop} {rest : List Oper} {done : ι → List En} {ty : TypeId} {pos : String} {aft : Array Edge} {Mf : (Nat → Bool) → ι → List ME} {i0 i : Nat}
theorem ObE.pure {o : Oper} {d : Tmp} {G : Bool} {av : ι → AV} (hd : o.dst = some d) (hdn : Nat.blt d x.n = true) (hG : ∀ c, Gd ops (sel (o.looksAt ops) (done c ++ L)) o G)
 (hsv : ∀ e c, OkE ops e i → G = true → Sv x (sel (o.looksAt ops) (done c ++ L)) (Mf e c) o (av c)) (hMf : ∀ e c, Mf (addE e i) c = Mf e c) : ObE x ops L Mf i0 i o done (fun c => (d, G, av c)) := by
 intro e c hk L' a w hsub hs Q
 have hs0 := hs.look hsub
 have hw : Region.wanted o (yielded ops a.tmps) = G := by
  rcases hG c with ⟨h1, h2⟩ | ⟨j, want, t, gb, b, h1, h2, h3, h4⟩
  ·rw [Region.wanted, h1, h2]
  ·obtain ⟨dst, op, ty', pos', aft', gu⟩ := o
   simp only at h1
   subst h1
   rw [guard_of (want := want) h2 h3 hs0, h4]
 rw [hw]
 cases hG' : G with
 | true =>
  rw [if_pos rfl]
  refine hsv e c hk hG' a w hs0 _ _ ?_
  intro v w' hK hmm hf hr
  rw [hd]
  refine ⟨c, .inr rfl, ?_⟩
  rw [hMf]
  exact (hs.world hK hmm hf).put hdn true (av c) v (fun _ => hr) (by simp)
 | false =>
  rw [if_neg (by simp), hd]
  refine ⟨c, .inr rfl, ?_⟩
  rw [hMf]
  exact hs.put hdn false (av c) undef (by simp) (fun _ => rfl)
theorem DE.nil (h : ∀ c e, (∀ j, j < i → e j = true) → W x (done c ++ L) (Mf e c) R) : DE x ops L Mf i0 R i [] done := h
theorem DE.pure {o : Oper} {d : Tmp} {G : Bool} {av : ι → AV} (hd : o.dst = some d) (hdn : Nat.blt d x.n = true) (hG : ∀ c, Gd ops (sel (o.looksAt ops) (done c ++ L)) o G)
 (hsv : ∀ e c, OkE ops e i → G = true → Sv x (sel (o.looksAt ops) (done c ++ L)) (Mf e c) o (av c)) (hMf : ∀ e c, Mf (addE e i) c = Mf e c) (hi : anc ops i0 i = true ∨ ∀ c c', av c = av c')
 (next : DE x ops L Mf i0 R (i + 1) rest (fun c => (d, G, av c) :: done c)) : DE x ops L Mf i0 R i (o :: rest) done := by
 refine ⟨fun c => (d, G, av c), ?_, .inr ?_, ObE.pure hd hdn hG hsv hMf, next⟩
 ·intro c
  rw [hd]
  exact ⟨rfl, hdn⟩
 ·rcases hi with h | h
  ·exact .inl h
  ·exact .inr fun c c' => congrArg (fun a => (d, G, a)) (h c c')
theorem DE.q {d : Tmp} {op : Op} {av : ι → AV} (he : ∀ e c, OkE ops e i → Ev x true (sel (Oper.looksAt ops ⟨some d, op, ty, pos, aft, none⟩) (done c ++ L)) (Mf e c) op ty (av c)) (hdn : Nat.blt d x.n = true)
 (hMf : ∀ e c, Mf (addE e i) c = Mf e c) (hi : anc ops i0 i = true ∨ ∀ c c', av c = av c') (next : DE x ops L Mf i0 R (i + 1) rest (fun c => (d, true, av c) :: done c)) :
 DE x ops L Mf i0 R i (⟨some d, op, ty, pos, aft, none⟩ :: rest) done := DE.pure rfl hdn (fun _ => .inl ⟨rfl, rfl⟩) (fun e c hk _ => Sv.ev (he e c hk)) hMf hi next
theorem DE.qg {d : Tmp} {op : Op} {av : ι → AV} {j : Nat} {t : Tmp} {gb b want : Bool} (hj : (ops[j]?).bind (·.dst) = some t) (hl : ∀ c, Vl.look (sel (Oper.looksAt ops ⟨some d, op, ty, pos, aft, some (j, want)⟩) (done c ++ L)) t = some (gb, .lit (.bool b)))
 (he : ∀ e c, OkE ops e i → Ev x (gb && (b == want)) (sel (Oper.looksAt ops ⟨some d, op, ty, pos, aft, some (j, want)⟩) (done c ++ L)) (Mf e c) op ty (av c)) (hdn : Nat.blt d x.n = true)
 (hMf : ∀ e c, Mf (addE e i) c = Mf e c) (hi : anc ops i0 i = true ∨ ∀ c c', av c = av c') (next : DE x ops L Mf i0 R (i + 1) rest (fun c => (d, gb && (b == want), av c) :: done c)) :
 DE x ops L Mf i0 R i (⟨some d, op, ty, pos, aft, some (j, want)⟩ :: rest) done := DE.pure rfl hdn (fun c => .inr ⟨j, want, t, gb, b, rfl, hj, hl c, rfl⟩) (fun e c hk hb => Sv.ev ((he e c hk).strip hb)) hMf hi next
theorem DE.callp {f : FuncId} {d : Tmp} {os : List Operand} {ats : Array TypeId} {avs : ι → List AV} {r : ι → AV} (hc : ∀ c, FnP x.P f (avs c) (r c)) (ha : ∀ c, ArgsOv (sel (Oper.looksAt ops ⟨some d, .call ⟨.value (.func f), os.toArray, ats⟩, ty, pos, aft, none⟩) (done c ++ L)) os (avs c)) (hdn : Nat.blt d x.n = true)
 (hMf : ∀ e c, Mf (addE e i) c = Mf e c) (hi : anc ops i0 i = true ∨ ∀ c c', r c = r c') (next : DE x ops L Mf i0 R (i + 1) rest (fun c => (d, true, r c) :: done c)) :
 DE x ops L Mf i0 R i (⟨some d, .call ⟨.value (.func f), os.toArray, ats⟩, ty, pos, aft, none⟩ :: rest) done := DE.pure rfl hdn (fun _ => .inl ⟨rfl, rfl⟩) (fun e c _ _ => Sv.callp (hc c) (ha c)) hMf hi next
theorem DE.bs {d : Tmp} {T E k bytes n : Nat} {z : Value} {ps : List (Nat × Operand)} {es : ι → List AV} (hT : x.P.underlying T = some (.slice E)) (hE : Ty x.P E k bytes z)
 (hp : ∀ c, PartsOv (sel (Oper.looksAt ops ⟨some d, .buildSlice T n ps.toArray, ty, pos, aft, none⟩) (done c ++ L)) k 0 ps (es c)) (hn : ∀ c, n = (es c).length) (hb : n * k ≤ 16777216) (hk1 : Nat.ble 1 k = true) (hdn : Nat.blt d x.n = true)
 (hMf : ∀ e c, Mf (addE e i) c = Mf e c) (hi : anc ops i0 i = true ∨ ∀ c c', es c = es c') (next : DE x ops L Mf i0 R (i + 1) rest (fun c => (d, true, .sl k (es c)) :: done c)) : DE x ops L Mf i0 R i (⟨some d, .buildSlice T n ps.toArray, ty, pos, aft, none⟩ :: rest) done :=
 DE.pure rfl hdn (fun _ => .inl ⟨rfl, rfl⟩) (fun e c _ _ => Sv.bs hT hE (hp c) (hn c) hb hk1) hMf (hi.imp id fun h c c' => by rw [h c c']) next
theorem stepE_of {o : Oper} {a : Act} {w : World} {K : Act → World → Prop} (hg : o.guard = none) (h : wpList x.P ops (fun e a w => e = .normal ∧ K a w) [o] a w) : stepE x ops o a w K := by
 intro Q
 have hw : Region.wanted o (yielded ops a.tmps) = true := by rw [Region.wanted, hg]
 rw [if_pos hw]
 unfold wpList at h
 rw [if_pos hw] at h
 rcases h with h | ⟨_, a', w', h, _⟩
 ·unfold Oper.wp at h ⊢
  generalize (execOp a.eval o).run x.P w = r at h
  unfold Oper.upon at h ⊢
  split at h
  ·exact h.2
  ·exact h.2
  ·exact h.2
  ·refine Calls.mono h ?_
   rintro e w'' he
   cases e with
   | returned v => exact he.2
   | panicked ch => cases he.1
   | outgrown => obtain ⟨a', w3, h3, _⟩ := he; cases h3
  ·exact Rows.mono h (fun v w'' he => he.2)
  ·cases h.1
  ·exact h.elim
 ·cases h
theorem DE.eff0 {op : Op} (hW : ∀ e c, OkE ops e i → ∀ L', (∀ t p, Vl.look (sel (Oper.looksAt ops ⟨none, op, ty, pos, aft, none⟩) (done c ++ L)) t = some p → Vl.look L' t = some p) → ∀ Q : Exit → Act → World → Prop,
 W x L' (Mf (addE e i) c) (wpList x.P ops Q []) → W x L' (Mf e c) (wpList x.P ops Q [⟨none, op, ty, pos, aft, none⟩]))
 (next : DE x ops L Mf i0 R (i + 1) rest (fun c => (x.n, false, .lit undef) :: done c)) : DE x ops L Mf i0 R i (⟨none, op, ty, pos, aft, none⟩ :: rest) done := by
 refine ⟨fun c => (x.n, false, .lit undef), fun c => rfl, .inr (.inr fun _ _ => rfl), ?_, next⟩
 intro e c hk L' a w hsub hs
 refine stepE_of rfl ?_
 refine hW e c hk L' hsub _ ?_ a w hs
 exact fun a' w' hs' => ⟨rfl, c, .inr rfl, hs'.ghost⟩
theorem DE.eff1 {op : Op} {d : Tmp} {av : ι → AV} (hdn : Nat.blt d x.n = true) (hi : i = i0)
 (hW : ∀ e c, OkE ops e i → ∀ L', (∀ t p, Vl.look (sel (Oper.looksAt ops ⟨some d, op, ty, pos, aft, none⟩) (done c ++ L)) t = some p → Vl.look L' t = some p) → ∀ Q : Exit → Act → World → Prop,
  (∀ c', W x ((d, true, av c') :: L') (Mf (addE e i) c') (wpList x.P ops Q [])) → W x L' (Mf e c) (wpList x.P ops Q [⟨some d, op, ty, pos, aft, none⟩]))
 (next : DE x ops L Mf i0 R (i + 1) rest (fun c => (d, true, av c) :: done c)) : DE x ops L Mf i0 R i (⟨some d, op, ty, pos, aft, none⟩ :: rest) done := by
 refine ⟨fun c => (d, true, av c), fun c => ⟨rfl, hdn⟩, .inl hi, ?_, next⟩
 intro e c hk L' a w hsub hs
 refine stepE_of rfl ?_
 refine hW e c hk L' hsub _ ?_ a w hs
 exact fun c' a' w' hs' => ⟨rfl, c', .inl hi, hs'⟩
theorem DE.effc {op : Op} {d : Tmp} {av : ι → AV} (hdn : Nat.blt d x.n = true) (hi : anc ops i0 i = true ∨ ∀ c c', av c = av c')
 (hW : ∀ e c, OkE ops e i → ∀ L', (∀ t p, Vl.look (sel (Oper.looksAt ops ⟨some d, op, ty, pos, aft, none⟩) (done c ++ L)) t = some p → Vl.look L' t = some p) → ∀ Q : Exit → Act → World → Prop,
  W x ((d, true, av c) :: L') (Mf (addE e i) c) (wpList x.P ops Q []) → W x L' (Mf e c) (wpList x.P ops Q [⟨some d, op, ty, pos, aft, none⟩]))
 (next : DE x ops L Mf i0 R (i + 1) rest (fun c => (d, true, av c) :: done c)) : DE x ops L Mf i0 R i (⟨some d, op, ty, pos, aft, none⟩ :: rest) done := by
 refine ⟨fun c => (d, true, av c), fun c => ⟨rfl, hdn⟩, .inr (hi.imp id fun h c c' => congrArg (fun a => (d, true, a)) (h c c')), ?_, next⟩
 intro e c hk L' a w hsub hs
 refine stepE_of rfl ?_
 refine hW e c hk L' hsub _ ?_ a w hs
 exact fun a' w' hs' => ⟨rfl, c, .inr rfl, hs'⟩
end rules
end draw
end Go.Vl
end
section
namespace Go.Vl
def dec (l : List UInt8) : Nat × Nat := Utf8.decode ⟨l.toArray⟩ 0
theorem get!_mk (l : List UInt8) (i : Nat) : (ByteArray.mk l.toArray).get! i = l.getD i 0 := by
 simp [ByteArray.get!]
 rcases Nat.lt_or_ge i l.length with h | h
 ·simp [h]
 ·rw [List.getElem?_eq_none h, Option.getD_none]
  simp [getElem!_def, h]
  rfl
theorem decode_drop (l : List UInt8) (p : Nat) : Utf8.decode ⟨l.toArray⟩ p = dec (l.drop p) := by
 unfold dec Utf8.decode
 have e1 : ∀ k, (ByteArray.mk (l.drop p).toArray).get! (0 + k) = (ByteArray.mk l.toArray).get! (p + k) := fun k => by
  rw [get!_mk, get!_mk, List.getD_eq_getElem?_getD, List.getD_eq_getElem?_getD, List.getElem?_drop, Nat.zero_add]
 have e2 : ∀ k, decide (0 + k < (ByteArray.mk (l.drop p).toArray).size) = decide (p + k < (ByteArray.mk l.toArray).size) := fun k => by
  rw [size_mk, size_mk, List.length_drop]
  congr 1
  rw [eq_iff_iff]
  omega
 simp only [e1, e2]
section iter
variable {x : Cx} {L : List (Tmp × Bool × AV)} {M : List ME} {ops : Array Oper} {Q : Exit → Act → World → Prop} {rest : List Oper} {ty : TypeId} {pos : String} {aft : Array Edge}
theorem W.rng {d : Tmp} {T : TypeId} {o : Operand} {l : List UInt8} (h1 : Ov true L o (.lit (.string ⟨l.toArray⟩))) (hT : x.P.underlying T = some .string) (hd : Nat.blt d x.n = true)
 (next : ∀ b, W x ((d, true, .lit (.pointer (some ⟨b, 0, none⟩))) :: L) (ME.obj b (.stringIter ⟨l.toArray⟩ 0) :: M) (wpList x.P ops Q rest)) :
 W x L M (wpList x.P ops Q (⟨some d, .range T o, ty, pos, aft, none⟩ :: rest)) := by
 refine W.opv (ι := Nat) (fun b => ME.obj b (.stringIter ⟨l.toArray⟩ 0) :: M) (fun b => .lit (.pointer (some ⟨b, 0, none⟩))) hd ?_ next; intro a w hs
 refine ⟨.pointer (some ⟨w.heap.size, 0, none⟩), w.alloc (.stringIter ⟨l.toArray⟩ 0), w.heap.size, ?_, ?_, Rep.lit _⟩
 ·simp [execOp, h1.lit rfl hs, Instr.range, run_underlying hT]
 ·refine hs.alloc _ _ rfl ?_
  intro N hN
  exact ⟨alloc_new _ _, by intro c T fr h; cases h⟩
theorem W.nxtT (i : Nat) {d : Tmp} {o : Operand} {l : List UInt8} {b p : Nat} (h1 : Ov true L o (.lit (.pointer (some ⟨b, 0, none⟩)))) (hM : M[i]? = some (ME.obj b (.stringIter ⟨l.toArray⟩ p))) (hp : p < l.length) (hd : Nat.blt d x.n = true)
 (next : W x ((d, true, .tup [.lit (.bool true), .lit (.int .i64 (p : Int)), .lit (.int .i32 ((dec (l.drop p)).1 : Int))]) :: L) (M.set i (ME.obj b (.stringIter ⟨l.toArray⟩ (p + (dec (l.drop p)).2)))) (wpList x.P ops Q rest)) :
 W x L M (wpList x.P ops Q (⟨some d, .next o true, ty, pos, aft, none⟩ :: rest)) := by
 refine W.opv (ι := Unit) (fun _ => M.set i (ME.obj b (.stringIter ⟨l.toArray⟩ (p + (dec (l.drop p)).2)))) (fun _ => .tup [.lit (.bool true), .lit (.int .i64 (p : Int)), .lit (.int .i32 ((dec (l.drop p)).1 : Int))]) hd ?_ (fun _ => next); intro a w hs
 obtain ⟨hh, _⟩ := hs.mem.holds _ (List.mem_of_getElem? hM)
 refine ⟨.tuple #[.bool true, .int .i64 p, .int .i32 (dec (l.drop p)).1], { w with heap := w.heap.setIfInBounds b (.stringIter ⟨l.toArray⟩ (p + (dec (l.drop p)).2)) }, (), ?_, ?_, ?_⟩
 ·have hsz : p < (ByteArray.mk l.toArray).size := by rw [size_mk]; exact hp
  simp only [execOp, h1.lit rfl hs, Instr.next, getObj, setObj, Sem.run_bind, Sem.run, hh, Result.andThen_ok, if_pos hsz, decode_drop]
  simp [goInt, hh, Sem.run]
 ·refine hs.write hM rfl rfl ?_
  intro w' _ hnew _
  exact ⟨hnew, by intro c T fr h; cases h⟩
 ·refine ⟨rfl, ?_⟩
  simp only [RepC]
  exact ⟨_, rfl, by simp only [RepT]; exact ⟨_, _, rfl, Rep.lit _, _, _, rfl, Rep.lit _, _, _, rfl, Rep.lit _, rfl⟩⟩
theorem W.nxtF (i : Nat) {d : Tmp} {o : Operand} {l : List UInt8} {b p : Nat} (h1 : Ov true L o (.lit (.pointer (some ⟨b, 0, none⟩)))) (hM : M[i]? = some (ME.obj b (.stringIter ⟨l.toArray⟩ p))) (hp : ¬ p < l.length) (hd : Nat.blt d x.n = true)
 (next : W x ((d, true, .tup [.lit (.bool false)]) :: L) M (wpList x.P ops Q rest)) :
 W x L M (wpList x.P ops Q (⟨some d, .next o true, ty, pos, aft, none⟩ :: rest)) := by
 refine W.q (fun a w hs hg => ?_) hd next
 obtain ⟨hh, _⟩ := hs.mem.holds _ (List.mem_of_getElem? hM)
 have hsz : ¬ p < (ByteArray.mk l.toArray).size := by rw [size_mk]; exact hp
 refine ⟨.tuple #[.bool false], ?_, rfl, ?_⟩
 ·simp only [execOp, h1.lit rfl hs, Instr.next, getObj, Sem.run_bind, Sem.run, hh, Result.andThen_ok, if_neg hsz]
  rfl
 ·simp only [RepC]
  exact ⟨_, rfl, by simp only [RepT]; exact ⟨_, _, rfl, Rep.lit _, rfl⟩⟩
/-! ### bytes as_ a string -/
end iter
end Go.Vl
end
section
namespace Go.Vl
theorem dec_eq (l : List UInt8) : dec l =
 (if (l.getD 0 0).toNat < 128 then ((l.getD 0 0).toNat, 1)
 else if (l.getD 0 0).toNat / 32 == 6 && (decide (1 < l.length) && (l.getD 1 0).toNat / 64 == 2) then
  if ((l.getD 0 0).toNat % 32) * 64 + (l.getD 1 0).toNat % 64 ≥ 128 then (((l.getD 0 0).toNat % 32) * 64 + (l.getD 1 0).toNat % 64, 2) else (Utf8.runeError, 1)
 else if (l.getD 0 0).toNat / 16 == 14 && (decide (1 < l.length) && (l.getD 1 0).toNat / 64 == 2) && (decide (2 < l.length) && (l.getD 2 0).toNat / 64 == 2) then
  if ((l.getD 0 0).toNat % 16) * 4096 + ((l.getD 1 0).toNat % 64) * 64 + (l.getD 2 0).toNat % 64 ≥ 2048 && Utf8.valid ((((l.getD 0 0).toNat % 16) * 4096 + ((l.getD 1 0).toNat % 64) * 64 + (l.getD 2 0).toNat % 64 : Nat) : Int) then (((l.getD 0 0).toNat % 16) * 4096 + ((l.getD 1 0).toNat % 64) * 64 + (l.getD 2 0).toNat % 64, 3) else (Utf8.runeError, 1)
 else if (l.getD 0 0).toNat / 8 == 30 && (decide (1 < l.length) && (l.getD 1 0).toNat / 64 == 2) && (decide (2 < l.length) && (l.getD 2 0).toNat / 64 == 2) && (decide (3 < l.length) && (l.getD 3 0).toNat / 64 == 2) then
  if ((l.getD 0 0).toNat % 8) * 262144 + ((l.getD 1 0).toNat % 64) * 4096 + ((l.getD 2 0).toNat % 64) * 64 + (l.getD 3 0).toNat % 64 ≥ 65536 && Utf8.valid ((((l.getD 0 0).toNat % 8) * 262144 + ((l.getD 1 0).toNat % 64) * 4096 + ((l.getD 2 0).toNat % 64) * 64 + (l.getD 3 0).toNat % 64 : Nat) : Int) then (((l.getD 0 0).toNat % 8) * 262144 + ((l.getD 1 0).toNat % 64) * 4096 + ((l.getD 2 0).toNat % 64) * 64 + (l.getD 3 0).toNat % 64, 4) else (Utf8.runeError, 1)
 else (Utf8.runeError, 1)) := by
 unfold dec Utf8.decode
 simp only [get!_mk, size_mk, Nat.zero_add]
theorem dec_width (l : List UInt8) (h : l ≠ []) : 1 ≤ (dec l).2 ∧ (dec l).2 ≤ l.length ∧ (dec l).2 ≤ 4 := by
 have hl : 0 < l.length := List.length_pos_iff.2 h
 rw [dec_eq]
 generalize (l.getD 0 0).toNat = b0
 generalize (l.getD 1 0).toNat = b1
 generalize (l.getD 2 0).toNat = b2
 generalize (l.getD 3 0).toNat = b3
 repeat' split
 all_goals simp_all
 all_goals omega
theorem dec_le (l : List UInt8) : (dec l).1 ≤ 1114111 := by
 rw [dec_eq]
 generalize (l.getD 0 0).toNat = b0
 generalize (l.getD 1 0).toNat = b1
 generalize (l.getD 2 0).toNat = b2
 generalize (l.getD 3 0).toNat = b3
 repeat' split
 all_goals simp_all [Utf8.runeError, Utf8.valid]
 all_goals omega
def runesN : Nat → List UInt8 → List Nat
 | 0, _ => []
 | _ + 1, [] => []
 | n + 1, b :: l => (dec (b :: l)).1 :: runesN n ((b :: l).drop (dec (b :: l)).2)
def runes (l : List UInt8) : List Nat := runesN l.length l
theorem runesN_eq : ∀ (n m : Nat) (l : List UInt8), l.length ≤ n → l.length ≤ m → runesN n l = runesN m l
 | 0, m, l, h, _ => by
  have : l = [] := List.eq_nil_of_length_eq_zero (by omega)
  subst this
  cases m <;> rfl
 | n + 1, 0, l, _, h => by
  have : l = [] := List.eq_nil_of_length_eq_zero (by omega)
  subst this
  rfl
 | n + 1, m + 1, [], _, _ => rfl
 | n + 1, m + 1, b :: l, h1, h2 => by
  have hw := dec_width (b :: l) (by simp)
  simp only [runesN]
  rw [runesN_eq n m _ (by rw [List.length_drop]; omega) (by rw [List.length_drop]; omega)]
theorem runes_nil : runes [] = [] := rfl
theorem runes_cons (l : List UInt8) (h : l ≠ []) : runes l = (dec l).1 :: runes (l.drop (dec l).2) := by
 cases l with
 | nil => exact absurd rfl h
 | cons b l =>
  have hw := dec_width (b :: l) h
  simp only [runes, List.length_cons, runesN]
  rw [runesN_eq l.length _ _ (by rw [List.length_drop, List.length_cons]; omega) (Nat.le_refl _)]
theorem runes_drop (l : List UInt8) (p : Nat) (h : p < l.length) : runes (l.drop p) = (dec (l.drop p)).1 :: runes (l.drop (p + (dec (l.drop p)).2)) := by
 rw [runes_cons (l.drop p) (by intro e; have := congrArg List.length e; simp at this; omega), List.drop_drop]
/-! ### how many letters -/
def rc (l : List UInt8) : Nat := (runes l).length
def v2 (a b : UInt8) : Nat := (a.toNat % 32) * 64 + b.toNat % 64
def v3 (a b c : UInt8) : Nat := (a.toNat % 16) * 4096 + (b.toNat % 64) * 64 + c.toNat % 64
def v4 (a b c d : UInt8) : Nat := (a.toNat % 8) * 262144 + (b.toNat % 64) * 4096 + (c.toNat % 64) * 64 + d.toNat % 64
def ct (b : UInt8) : Bool := b.toNat / 64 == 2
def k2 (a b : UInt8) : Bool := a.toNat / 32 == 6 && ct b && decide (v2 a b ≥ 128)
def k3 (a b c : UInt8) : Bool := a.toNat / 16 == 14 && ct b && ct c && (decide (v3 a b c ≥ 2048) && Utf8.valid (v3 a b c : Int))
def k4 (a b c d : UInt8) : Bool := a.toNat / 8 == 30 && ct b && ct c && ct d && (decide (v4 a b c d ≥ 65536) && Utf8.valid (v4 a b c d : Int))
end Go.Vl
end
section
namespace Go.Vl
def o8 (n : Nat) : UInt8 := UInt8.ofNat n
def encN (c : Nat) : List UInt8 :=
 if c < 128 then [o8 c]
 else if c < 2048 then [o8 (192 + c / 64), o8 (128 + c % 64)]
 else if c < 65536 then [o8 (224 + c / 4096), o8 (128 + c / 64 % 64), o8 (128 + c % 64)]
 else [o8 (240 + c / 262144), o8 (128 + c / 4096 % 64), o8 (128 + c / 64 % 64), o8 (128 + c % 64)]
def enc (r : Int) : List UInt8 := encN (if Utf8.valid r then r.toNat else 65533)
/-! ### the bytes as_ the program reckons them -/
/-! ### Clean -/
end Go.Vl
end
section
namespace Go.Vl
/-! ### what is encoded is decoded -/
def flat (cs : List Nat) : List UInt8 := cs.flatMap encN
def Good (c : Nat) : Prop := Utf8.valid (c : Int) = true ∧ c ≠ 0 ∧ c ≠ 13
/-! ### Text -/
/-! ### the letters that the laws draw -/
end Go.Vl
end
section
namespace Go.Vl
open Go Go.Sem
variable {x : Cx} {L : List (Tmp × Bool × AV)} {M : List ME} {ops : Array Oper} {Q : Exit → Act → World → Prop} {rest : List Oper}
theorem W.gnob {d : Tmp} {op : Op} {ty : TypeId} {pos : String} {aft : Array Edge} {j : Nat} {want b : Bool} {t : Tmp} (hj : (ops[j]?).bind (·.dst) = some t) (hl : look L t = some (true, .lit (.bool b))) (hb : b ≠ want) (hd : Nat.blt d x.n = true)
 (next : W x ((d, false, .lit (.bool false)) :: L) M (wpList x.P ops Q rest)) : W x L M (wpList x.P ops Q (⟨some d, op, ty, pos, aft, some (j, want)⟩ :: rest)) := by
 intro a w hs
 have hw := guard_of (d := some d) (op := op) (ty := ty) (pos := pos) (aft := aft) (want := want) hj hl hs
 refine wpList_cons_skip (by rw [hw]; simpa using hb) ?_
 exact next _ _ (hs.put hd false _ undef (fun h => by cases h) (fun _ => rfl))
theorem getD_map (l : List Int) (i : Nat) (h : i < l.length) : (l.map AV.int)[i]? = some (AV.int (l.getD i 0)) := by
 rw [List.getD_eq_getElem?_getD, List.getElem?_map, List.getElem?_eq_getElem h]; rfl
end Go.Vl
end
section
namespace Go.Vl
open Go Go.Sem
variable {x : Cx} {g : Bool} {L : List (Tmp × Bool × AV)} {M : List ME} {ty : TypeId}
def PlacesAt (P : Program) : List Field → List (Nat × Nat) → Prop
 | [], [] => True
 | f :: fs, (o, k) :: ps => f.offset = o ∧ (∀ w, (sizeOf f.type).run P w = .ok k w) ∧ PlacesAt P fs ps
 | _, _ => False
def StructAt (P : Program) (T : TypeId) (pl : List (Nat × Nat)) : Prop := ∃ fields : List Field, P.underlying T = some (.struct fields.toArray) ∧ PlacesAt P fields pl
theorem PlacesAt.run {P : Program} : ∀ {fs : List Field} {ps : List (Nat × Nat)}, PlacesAt P fs ps → ∀ w, (fs.mapM (fun (f : Field) => (do Pure.pure (f.offset, ← sizeOf f.type) : Sem (Nat × Nat)))).run P w = .ok ps w
 | [], [], _, w => by simp
 | f :: fs, (o, k) :: ps, h, w => by
  obtain ⟨rfl, h1, h2⟩ := h
  rw [List.mapM_cons]
  simp only [Sem.run_bind, h1, Result.andThen_ok, Sem.run_pure, h2.run w]
 | [], _ :: _, h, _ => h.elim
 | _ :: _, [], h, _ => h.elim
def BuildOv (g : Bool) (L : List (Tmp × Bool × AV)) (pl : List (Nat × Nat)) : List (Nat × Operand) → List AV → List AV → Prop
 | [], cs, res => cs = res
 | (f, o) :: ps, cs, res => ∃ off k av, pl[f]? = some (off, k) ∧ Ov g L o av ∧ av.okc = true ∧ av.cells.length = k ∧ Nat.ble (off + k) cs.length = true ∧ BuildOv g L pl ps (Vl.splice cs off av.cells) res
theorem BuildOv.run {a : Act} {w : World} (hs : St x L M a w) {pl : List (Nat × Nat)} : ∀ {ps : List (Nat × Operand)} {cs res : List AV} {cells : Array Value}, BuildOv true L pl ps cs res → RepL w (bl M ++ x.F) cs cells.toList →
 ∃ cells', Instr.fill (pl.toArray[·]?) cells (ps.map fun (i, o) => (i, a.eval o)) = some cells' ∧ RepL w (bl M ++ x.F) res cells'.toList
 | [], cs, res, cells, h, hr => by
  have h' : cs = res := h
  subst h'
  exact ⟨cells, rfl, hr⟩
 | (f, o) :: ps, cs, res, cells, h, hr => by
  obtain ⟨off, k, av, h1, h2, ho, hk, hl, h3⟩ := h
  have hv := h2.rep rfl hs
  have hvl := hv.toL ho
  have hlen : (a.eval o).cells.size = k := by have := hvl.length; simp at this; omega
  have hcl := hr.length
  have hl' := Nat.le_of_ble_eq_true hl
  simp at hcl
  have hfold := foldl_set (a.eval o).cells.toList off 0 cells (by simp [hlen]; omega)
  rw [Nat.add_zero] at hfold
  obtain ⟨cells', hf, hres⟩ := BuildOv.run hs (cells := wr cells off (a.eval o).cells.toList) h3 (hr.splice hvl)
  refine ⟨cells', ?_, hres⟩
  have hpl : (pl.toArray[f]? : Option (Nat × Nat)) = some (off, k) := by simpa using h1
  simp only [List.map_cons, Instr.fill, hpl]
  have hne : ¬ ((a.eval o).cells.size ≠ k ∨ off + (a.eval o).cells.size > cells.size) := by rw [hlen]; omega
  rw [if_neg (by simpa using hne)]
  rw [← hf]
  congr 1
  rw [← hfold]
  rw [← Array.foldl_toList, Array.toList_zipIdx]
theorem RepL.lits {w : World} {N : List Nat} : ∀ (vs : List Value), vs.all (fun v => shV v == 0) = true → RepL w N (vs.map .lit) vs
 | [], _ => by simp [RepL]
 | v :: vs, h => by
  simp only [List.all_cons, Bool.and_eq_true, beq_iff_eq] at h
  simp only [List.map_cons, RepL]
  refine ⟨v, vs, rfl, ⟨h.1, h.1, ?_⟩, RepL.lits vs h.2⟩
  simp only [RepC]
  cases v <;> first | rfl | (simp [shV] at h)
theorem Ev.build {T k bytes : Nat} {z : Value} {pl : List (Nat × Nat)} {ps : List (Nat × Operand)} {res : List AV} (hT : Ty x.P T k bytes z) (hst : StructAt x.P T pl) (hz : z.cells.toList.all (fun v => shV v == 0) = true)
 (hb : g = true → BuildOv true L pl ps (z.cells.toList.map .lit) res) : Ev x g L M (.build T ps.toArray) ty (.agg res) := fun a w hs hg => by
 obtain ⟨fields, hT', hp⟩ := hst
 obtain ⟨cells', hf, hres⟩ := BuildOv.run hs (cells := z.cells) (hb hg) (RepL.lits _ hz)
 have hf' : Instr.fill (pl.toArray[·]?) z.cells (ps.toArray.map fun p => (p.1, a.eval p.2)).toList = some cells' := by rw [← hf]; congr 1; simp
 refine ⟨.agg cells', ?_, rfl, by simp only [RepC]; exact hres⟩
 have hm : (fields.toArray.mapM (fun (f : Field) => (do Pure.pure (f.offset, ← sizeOf f.type) : Sem (Nat × Nat)))).run x.P w = .ok pl.toArray w := by
  rw [List.mapM_toArray]
  have h2 := hp.run w
  generalize (fields.mapM (fun (f : Field) => (do Pure.pure (f.offset, ← sizeOf f.type) : Sem (Nat × Nat)))) = m at h2 ⊢
  simp [h2]
 simp only [execOp, Instr.build, Sem.run_bind, hT.zero, run_underlying hT', Result.andThen_ok, hm]
 rw [hf']
 simp
theorem Ev.max {o1 o2 : Operand} {T T' : TypeId} {ki : IntKind} {p q : Int} (h1 : Ov g L o1 (.lit (.int ki p))) (h2 : Ov g L o2 (.lit (.int ki q))) : Ev x g L M (.call ⟨.builtin .max, #[o1, o2], #[T, T']⟩) ty (.lit (.int ki (if q > p then q else p))) := Ev.pure fun a w hs hg => by
 simp [execOp, resolve, invoke, builtin, h1.lit hg hs, h2.lit hg hs, Builtin.max_, Builtin.max2]
end Go.Vl
end
