/-
  Regions that draw their order, with several operations that give new memory: each gives a value of its own (c i).
-/
import Derived.Test.YtpjngpegkoohgaaDrawE
set_option linter.unusedVariables false
set_option linter.unusedSimpArgs false
set_option linter.unusedSectionVars false
namespace Go.Vl
open Go Go.Sem
abbrev Ks := Nat → Nat × Value
def upd (c : Ks) (i : Nat) (z : Nat × Value) : Ks := fun k => if k = i then z else c k
def ks0 : Ks := fun _ => (0, undef)
theorem St.perm {x : Cx} {L : List En} {M M' : List ME} {a : Act} {w : World} (hs : St x L M a w) (hp : List.Perm M M') : St x L M' a w := by
  obtain ⟨hm, hk, hsub⟩ := hs.mem.sub (M' := M') (D := []) (by rw [List.append_nil]; exact hp)
  exact ⟨hs.defers, hs.size, fun t g av hl => ⟨fun hg => ((hs.slots t g av hl).1 hg).keep hk, (hs.slots t g av hl).2⟩, hm, hs.fr.sub hsub, hs.old⟩
theorem W.perm {x : Cx} {L : List En} {M M' : List ME} {R : Act → World → Prop} (hp : List.Perm M M') (h : W x L M' R) : W x L M R := fun a w hs => h a w (hs.perm hp)
section draw
variable {x : Cx} {L : List En} {M : List ME} {Q : Exit → Act → World → Prop}

def ObM (x : Cx) (ops : Array Oper) (L : List En) (Mf : (Nat → Bool) → Ks → List ME) (i : Nat) (o : Oper) (done : Ks → List En) (ent : Ks → En) : Prop :=
  ∀ e c, OkE ops e i → ∀ L' a w, (∀ t p, look (sel (o.looksAt ops) (done c ++ L)) t = some p → look L' t = some p) → St x L' (Mf e c) a w →
    stepE x ops o a w (fun a' w' => ∃ c' : Ks, (∀ k, k ≠ i → c' k = c k) ∧ St x (ent c' :: L') (Mf (addE e i) c') a' w')

/-- the region's operations in the text's order -/
def DM (x : Cx) (ops : Array Oper) (L : List En) (Mf : (Nat → Bool) → Ks → List ME) (R : Act → World → Prop) : Nat → List Oper → (Ks → List En) → Prop
  | i, [], done => ∀ c e, (∀ j, j < i → e j = true) → W x (done c ++ L) (Mf e c) R
  | i, o :: rest, done => ∃ ent : Ks → En, KeyOk x o ent ∧ (∀ c c' : Ks, (∀ k, (k = i ∨ anc ops k i = true) → c k = c' k) → ent c = ent c') ∧ ObM x ops L Mf i o done ent ∧ DM x ops L Mf R (i + 1) rest (fun c => ent c :: done c)

theorem DM.extract {ops : Array Oper} {R : Act → World → Prop} {Mf : (Nat → Bool) → Ks → List ME} : ∀ {rest : List Oper} {k : Nat} {done : Ks → List En}, DM x ops L Mf R k rest done →
    ∃ ents : List (Ks → En), ents.length = rest.length ∧ (∀ (i : Nat) (o : Oper), rest[i]? = some o → ∃ ent, ents[i]? = some ent ∧ KeyOk x o ent ∧ (∀ c c' : Ks, (∀ m, (m = k + i ∨ anc ops m (k + i) = true) → c m = c' m) → ent c = ent c') ∧
      ObM x ops L Mf (k + i) o (fun c => ((ents.take i).map (· c)).reverse ++ done c) ent) ∧ (∀ c e, (∀ j, j < k + rest.length → e j = true) → W x ((ents.map (· c)).reverse ++ (done c ++ L)) (Mf e c) R)
  | [], k, done, h => by
    have h' : ∀ c e, (∀ j, j < k → e j = true) → W x (done c ++ L) (Mf e c) R := h
    exact ⟨[], rfl, by simp, fun c e he => by simpa using h' c e (by simpa using he)⟩
  | o :: rest, k, done, h => by
    obtain ⟨ent, h1, h2, h3, h4⟩ := h
    obtain ⟨ents, e1, e2, e3⟩ := DM.extract h4
    refine ⟨ent :: ents, by simp [e1], ?_, ?_⟩
    · intro i o' ho'
      cases i with
      | zero => simp at ho'; subst ho'; exact ⟨ent, rfl, h1, h2, by simpa using h3⟩
      | succ i =>
        obtain ⟨ent', f1, f2, f3, f4⟩ := e2 i o' (by simpa using ho')
        have e : k + 1 + i = k + (i + 1) := by omega
        rw [e] at f3 f4
        exact ⟨ent', by simpa using f1, f2, f3, by simpa using f4⟩
    · intro c e he
      have := e3 c e (fun j hj => he j (by simp; omega))
      simpa using this

theorem W.drawnM {id : Nat} {l : List Oper} (Mf : (Nat → Bool) → Ks → List ME) (c0 : Ks) (hm : x.P.follows .mixedOrders = true) (hok : okDrawE x.n l.toArray = true) (hM0 : M = Mf (fun _ => false) c0) (h : DM x l.toArray L Mf (Q .normal) 0 l (fun _ => [])) : W x L M (Code.wp x.P (.region id l.toArray true) Q) := by
  subst hM0
  intro a w hs
  obtain ⟨ents, hlen, hes, hW⟩ := h.extract
  simp only [List.append_nil, Nat.zero_add, List.nil_append] at hes hW
  -- the edges, in words
  have hok' : ∀ (i : Nat) (oi : Oper), l[i]? = some oi → ((∀ e ∈ oi.after, Region.binds .any e = true → e.on < i) ∧ x.n ∉ oi.looksAt l.toArray) ∧ ∀ (j : Nat) (oj : Oper), l[j]? = some oj → i ≠ j → (oi.dst ≠ oj.dst ∨ oj.dst = none) ∧ ∀ d, oj.dst = some d → d ∈ oi.looksAt l.toArray →
      (j < i ∧ ∃ e ∈ oi.after, Region.binds .any e = true ∧ e.on = j) ∨ (i < j ∧ ∃ e ∈ oj.after, Region.binds .any e = true ∧ e.on = i) := by
    intro i oi hi
    have hil : i < l.length := by
      rcases Nat.lt_or_ge i l.length with h' | h'
      · exact h'
      · rw [List.getElem?_eq_none h'] at hi; cases hi
    simp only [okDrawE, List.size_toArray, List.all_eq_true, List.mem_range] at hok
    have h1 := hok i hil
    rw [List.getElem?_toArray, hi] at h1
    simp only [Bool.and_eq_true, Array.all_eq_true', List.all_eq_true, List.mem_range, decide_eq_true_eq, Bool.not_eq_true', List.contains_eq_mem, decide_eq_false_iff_not] at h1
    refine ⟨⟨fun e he hb => by
      have h9 := h1.1.1 e he
      rw [hb] at h9
      simpa using h9, h1.1.2⟩, fun j oj hj hne => ?_⟩
    have hjl : j < l.length := by
      rcases Nat.lt_or_ge j l.length with h' | h'
      · exact h'
      · rw [List.getElem?_eq_none h'] at hj; cases hj
    have h2 := h1.2 j hjl
    rw [List.getElem?_toArray, hj] at h2
    simp only [Bool.or_eq_true, beq_iff_eq, hne, false_or, Bool.and_eq_true, bne_iff_ne, Option.isNone_iff_eq_none] at h2
    refine ⟨h2.1, fun d hd hdl => ?_⟩
    have h3 := h2.2
    rw [hd] at h3
    simp only [Bool.or_eq_true, Bool.not_eq_true', List.contains_eq_mem, decide_eq_false_iff_not, hdl, not_true_eq_false, false_or] at h3
    by_cases hji : j < i
    · left
      simp only [hji, decide_true, cond_true, Array.any_eq_true', Bool.and_eq_true, beq_iff_eq] at h3
      obtain ⟨e, he, hb, ho⟩ := h3
      exact ⟨hji, e, he, hb, ho⟩
    · right
      simp only [hji, decide_false, cond_false, Array.any_eq_true', Bool.and_eq_true, beq_iff_eq] at h3
      obtain ⟨e, he, hb, ho⟩ := h3
      exact ⟨by omega, e, he, hb, ho⟩
  have hkd : ∀ (i : Nat) (ent : Ks → En), ents[i]? = some ent → ∃ oi : Oper, l[i]? = some oi ∧ KeyOk x oi ent := by
    intro i e he
    have hil : i < l.length := by
      rcases Nat.lt_or_ge i ents.length with h' | h'
      · omega
      · rw [List.getElem?_eq_none h'] at he; cases he
    obtain ⟨ent, h1, h2, _⟩ := hes i l[i] (List.getElem?_eq_getElem hil)
    rw [he] at h1
    cases h1
    exact ⟨l[i], List.getElem?_eq_getElem hil, h2⟩
  let es : Ks → List En := fun c => ents.map (· c)
  have hesl : ∀ c, (es c).length = ents.length := fun c => List.length_map ..
  have hesi : ∀ (c : Ks) (i : Nat) (e : En), (es c)[i]? = some e → ∃ ent, ents[i]? = some ent ∧ ent c = e := by
    intro c i e he
    rw [List.getElem?_map] at he
    cases hx : ents[i]? with
    | none => rw [hx] at he; cases he
    | some ent => rw [hx] at he; cases he; exact ⟨ent, rfl, rfl⟩
  have hesm : ∀ (c : Ks) (i : Nat) (ent : Ks → En), ents[i]? = some ent → (es c)[i]? = some (ent c) := by
    intro c i ent he
    rw [List.getElem?_map, he]; rfl
  have hget : ∀ (c : Ks) (i : Nat) (e : En), (es c)[i]? = some e → ∃ oi : Oper, l[i]? = some oi ∧ (oi.dst = some e.1 ∨ (oi.dst = none ∧ e.1 = x.n)) := by
    intro c i e he
    obtain ⟨ent, h1, rfl⟩ := hesi c i e he
    obtain ⟨oi, h2, h3⟩ := hkd i ent h1
    refine ⟨oi, h2, ?_⟩
    have h4 := h3 c
    cases hd : oi.dst with
    | none => rw [hd] at h4; exact .inr ⟨rfl, by rw [show ent c = (x.n, false, .lit undef) from h4]⟩
    | some d => rw [hd] at h4; exact .inl (by rw [h4.1])
  have hkey : ∀ (c : Ks) (i j : Nat) (e e' : En), (es c)[i]? = some e → (es c)[j]? = some e' → e.1 = e'.1 → e = e' := by
    intro c i j e e' hi hj he
    by_cases hne : i = j
    · subst hne; rw [hi] at hj; cases hj; rfl
    · skip
      obtain ⟨enti, hi1, rfl⟩ := hesi c i e hi
      obtain ⟨entj, hj1, rfl⟩ := hesi c j e' hj
      obtain ⟨oi, h1, h2⟩ := hkd i enti hi1
      obtain ⟨oj, h3, h4⟩ := hkd j entj hj1
      have hn := ((hok' i oi h1).2 j oj h3 hne).1
      have h5 := h2 c
      have h6 := h4 c
      cases hd : oi.dst with
      | none =>
        cases hd' : oj.dst with
        | none =>
          rw [hd] at h5
          rw [hd'] at h6
          exact (show enti c = _ from h5).trans (show entj c = _ from h6).symm
        | some d' =>
          exfalso
          rw [hd] at h5
          rw [hd'] at h6
          replace h5 : (enti c).1 = x.n := by rw [show enti c = (x.n, false, .lit undef) from h5]
          have : d' < x.n := by simpa [Nat.blt_eq] using h6.2
          have e1 : d' = x.n := by rw [← h6.1, ← he, h5]
          rw [e1] at this; exact Nat.lt_irrefl _ this
      | some d =>
        exfalso
        cases hd' : oj.dst with
        | none =>
          rw [hd] at h5
          rw [hd'] at h6
          replace h6 : (entj c).1 = x.n := by rw [show entj c = (x.n, false, .lit undef) from h6]
          have : d < x.n := by simpa [Nat.blt_eq] using h5.2
          have e1 : d = x.n := by rw [← h5.1, he, h6]
          rw [e1] at this; exact Nat.lt_irrefl _ this
        | some d' =>
          rw [hd] at h5
          rw [hd'] at h6
          rcases hn with hn | hn
          · exact hn (by rw [hd, hd', ← h5.1, ← h6.1, he])
          · rw [hd'] at hn; cases hn
  have hdist : ∀ (c : Ks) listed, ∀ e ∈ esOf (es c) listed, ∀ e' ∈ esOf (es c) listed, e.1 = e'.1 → e = e' := by
    intro c listed e he e' he' hk
    obtain ⟨i, _, hi⟩ := mem_esOf.1 he
    obtain ⟨j, _, hj⟩ := mem_esOf.1 he'
    exact hkey c i j e e' hi hj hk
  refine wp_region_any hm ?_
  have key : ∀ (fuel : Nat) (listed : Array Bool) (a : Act) (w : World), listed.size = l.length → (∀ (i : Nat) (o : Oper), l[i]? = some o → listed.getD i false = true → ∀ e ∈ o.after, Region.binds .any e = true → listed.getD e.on false = true) →
      (∃ c, St x (esOf (es c) listed ++ L) (Mf (fun j => listed.getD j false) c) a w) → (fuel = 0 → ∀ i, i < l.length → listed.getD i false = true) → (listed.toList.filter (!·)).length ≤ fuel → wpAny x.P .any l.toArray Q fuel listed a w := by
    intro fuel
    have hdone : ∀ (listed : Array Bool) (a : Act) (w : World), listed.size = l.length → (∃ c, St x (esOf (es c) listed ++ L) (Mf (fun j => listed.getD j false) c) a w) → Region.ready .any l.toArray listed = [] → Q .normal a w := by
      rintro listed a w hsz ⟨c, hs⟩ hr
      have hall : ∀ i, i < l.length → listed.getD i false = true := by
        intro i
        induction i using Nat.strongRecOn with
        | _ i ih =>
          intro hi
          cases hli : listed.getD i false with
          | true => rfl
          | false =>
            exfalso
            have : i ∈ Region.ready .any l.toArray listed := by
              simp only [Region.ready, List.mem_filter, List.mem_range, List.size_toArray, Bool.and_eq_true]
              refine ⟨hi, ?_, ?_⟩
              · have : listed.getD i true = false := by
                  rw [Array.getD_eq_getD_getElem?, Array.getElem?_eq_getElem (by omega)] at hli ⊢
                  simpa using hli
                simp [this]
              · rw [List.getElem?_toArray, List.getElem?_eq_getElem hi]
                simp only [Option.map_some, Option.getD_some, Array.all_eq_true', Bool.or_eq_true, Bool.not_eq_true']
                intro e he
                cases hb : Region.binds .any e with
                | false => exact .inl rfl
                | true =>
                  have hlt := (hok' i l[i] (List.getElem?_eq_getElem hi)).1.1 e he hb
                  exact .inr (ih e.on hlt (by omega))
            rw [hr] at this
            cases this
      refine hW c _ (fun j hj => hall j (by simpa using hj)) a w (hs.look ?_)
      intro t p hl
      rw [look_append] at hl ⊢
      by_cases hk : ∃ e ∈ es c, e.1 = t
      · obtain ⟨e, he, rfl⟩ := hk
        obtain ⟨i, hi, hie⟩ := List.getElem_of_mem he
        have hie' : (es c)[i]? = some e := by rw [List.getElem?_eq_getElem hi, hie]
        have h1 : look (es c).reverse e.1 = some e.2 := look_mem (List.mem_reverse.2 he) (by
          intro e1 he1 e2 he2 hk
          obtain ⟨i1, hi1, hie1⟩ := List.getElem_of_mem (List.mem_reverse.1 he1)
          obtain ⟨i2, hi2, hie2⟩ := List.getElem_of_mem (List.mem_reverse.1 he2)
          exact hkey c i1 i2 e1 e2 (by rw [List.getElem?_eq_getElem hi1, hie1]) (by rw [List.getElem?_eq_getElem hi2, hie2]) hk)
        have h2 : look (esOf (es c) listed) e.1 = some e.2 := look_mem (mem_esOf.2 ⟨i, hall i (by have := hesl c; omega), hie'⟩) (hdist c listed)
        rw [h1] at hl
        rw [h2]
        simpa using hl
      · have h1 : look (es c).reverse t = none := look_none (fun e he h => hk ⟨e, List.mem_reverse.1 he, h⟩)
        rw [h1, Option.none_or] at hl
        have h2 : look (esOf (es c) listed) t = none := look_none (fun e he h => by
          obtain ⟨i, _, hi⟩ := mem_esOf.1 he
          exact hk ⟨e, List.mem_of_getElem? hi, h⟩)
        rw [h2, Option.none_or]
        exact hl
    induction fuel with
    | zero =>
      intro listed a w hsz hcl hs h0 _
      have hall := h0 rfl
      have hr : Region.ready .any l.toArray listed = [] := by
        apply List.eq_nil_iff_forall_not_mem.2
        intro i hi
        simp only [Region.ready, List.mem_filter, List.mem_range, List.size_toArray, Bool.and_eq_true, Bool.not_eq_true'] at hi
        have h1 := hall i hi.1
        have h2 := hi.2.1
        rw [Array.getD_eq_getD_getElem?, Array.getElem?_eq_getElem (by omega)] at h1 h2
        simp at h1 h2
        rw [h1] at h2
        cases h2
      exact ⟨hr, hdone listed a w hsz hs hr⟩
    | succ fuel ih =>
      rintro listed a w hsz hcl ⟨c, hs⟩ _ hcount
      refine ⟨hdone listed a w hsz ⟨c, hs⟩, fun i hi => ?_⟩
      simp only [Region.ready, List.mem_filter, List.mem_range, List.size_toArray, Bool.and_eq_true, Bool.not_eq_true'] at hi
      obtain ⟨hil, hnl, hdeps⟩ := hi
      have hnl' : listed.getD i false = false := by
        rw [Array.getD_eq_getD_getElem?, Array.getElem?_eq_getElem (by omega)] at hnl ⊢
        simpa using hnl
      have hoi : l[i]? = some l[i] := List.getElem?_eq_getElem hil
      generalize l[i] = oi at hoi
      obtain ⟨ent, he, hko, hdep, hob⟩ := hes i oi hoi
      have hce := hesm c i ent he
      rw [List.getElem?_toArray, hoi] at hdeps
      simp only [Option.map_some, Option.getD_some, Array.all_eq_true', Bool.or_eq_true, Bool.not_eq_true'] at hdeps
      have hdeps' : ∀ e ∈ oi.after, Region.binds .any e = true → listed.getD e.on false = true := by
        intro e he hb
        rcases hdeps e he with h' | h'
        · rw [hb] at h'; cases h'
        · exact h'
      -- what the operation looks at is known
      have hsee : ∀ t p, look (sel (oi.looksAt l.toArray) (((ents.take i).map (· c)).reverse ++ L)) t = some p → look (esOf (es c) listed ++ L) t = some p := by
        intro t p hl
        rw [look_sel] at hl
        split at hl
        · rename_i ht
          rw [look_append] at hl ⊢
          by_cases hk : ∃ j e, j < i ∧ (es c)[j]? = some e ∧ e.1 = t
          · obtain ⟨j, e, hji, hje, rfl⟩ := hk
            obtain ⟨oj, hoj, hdj⟩ := hget c j e hje
            replace hdj : oj.dst = some e.1 := by
              rcases hdj with h | ⟨_, h⟩
              · exact h
              · rw [h] at ht; exact absurd ht (hok' i oi hoi).1.2
            have hl1 : listed.getD j false = true := by
              rcases ((hok' i oi hoi).2 j oj hoj (by omega)).2 e.1 hdj ht with ⟨_, ed, hed, hb, ho⟩ | ⟨h', _⟩
              · rw [← ho]; exact hdeps' ed hed hb
              · omega
            have h1 : look ((ents.take i).map (· c)).reverse e.1 = some e.2 := look_mem (List.mem_reverse.2 (by rw [List.map_take]; exact List.mem_of_getElem? (i := j) (by rw [List.getElem?_take, if_pos hji]; exact hje))) (by
              intro e1 he1 e2 he2 hk
              obtain ⟨i1, hi1, hie1⟩ := List.getElem_of_mem (l := es c) (by have := List.mem_reverse.1 he1; rw [List.map_take] at this; exact List.mem_of_mem_take this)
              obtain ⟨i2, hi2, hie2⟩ := List.getElem_of_mem (l := es c) (by have := List.mem_reverse.1 he2; rw [List.map_take] at this; exact List.mem_of_mem_take this)
              exact hkey c i1 i2 e1 e2 (by rw [List.getElem?_eq_getElem hi1, hie1]) (by rw [List.getElem?_eq_getElem hi2, hie2]) hk)
            have h2 : look (esOf (es c) listed) e.1 = some e.2 := look_mem (mem_esOf.2 ⟨j, hl1, hje⟩) (hdist c listed)
            rw [h1] at hl
            rw [h2]
            simpa using hl
          · have h1 : look ((ents.take i).map (· c)).reverse t = none := look_none (fun e he h => by
              have he' := List.mem_reverse.1 he
              rw [List.map_take] at he'
              obtain ⟨j, hj, hje⟩ := List.getElem_of_mem he'
              rw [List.length_take] at hj
              refine hk ⟨j, e, by omega, ?_, h⟩
              rw [← hje, List.getElem_take]
              exact List.getElem?_eq_getElem _)
            rw [h1, Option.none_or] at hl
            have h2 : look (esOf (es c) listed) t = none := look_none (fun e he h => by
              obtain ⟨j, hlj, hje⟩ := mem_esOf.1 he
              obtain ⟨oj, hoj, hdj⟩ := hget c j e hje
              replace hdj : oj.dst = some e.1 := by
                rcases hdj with h' | ⟨_, h'⟩
                · exact h'
                · rw [← h, h'] at ht; exact absurd ht (hok' i oi hoi).1.2
              have hji : ¬ j < i := fun h' => hk ⟨j, e, h', hje, h⟩
              by_cases hij : i = j
              · subst hij; rw [hnl'] at hlj; cases hlj
              · rcases ((hok' i oi hoi).2 j oj hoj hij).2 e.1 hdj (h ▸ ht) with ⟨h', _⟩ | ⟨_, ed, hed, hb, ho⟩
                · exact hji h'
                · have := hcl j oj hoj hlj ed hed hb
                  rw [ho, hnl'] at this
                  cases this)
            rw [h2, Option.none_or]
            exact hl
        · cases hl
      -- behind it
      have hnext : ∀ a' w', (∃ c' : Ks, (∀ k, k ≠ i → c' k = c k) ∧ St x (ent c' :: (esOf (es c) listed ++ L)) (Mf (addE (fun j => listed.getD j false) i) c') a' w') → wpAny x.P .any l.toArray Q fuel (listed.setIfInBounds i true) a' w' := by
        rintro a' w' ⟨c', hcc, hst⟩
        have hset : ∀ j, (listed.setIfInBounds i true).getD j false = if i = j then true else listed.getD j false := by
          intro j
          rw [Array.getD_eq_getD_getElem?, Array.getD_eq_getD_getElem?, Array.getElem?_setIfInBounds]
          by_cases e : i = j
          · subst e; simp [hsz, hil]
          · simp [e]
        have hcnt : ((listed.setIfInBounds i true).toList.filter (!·)).length < (listed.toList.filter (!·)).length := by
          rw [Array.toList_setIfInBounds]
          have hlt : i < listed.toList.length := by simp [hsz]; exact hil
          have hv : listed.toList[i] = false := by
            rw [Array.getD_eq_getD_getElem?, Array.getElem?_eq_getElem (by omega)] at hnl'
            simpa using hnl'
          exact count_set _ i hlt hv
        have hMe : Mf (addE (fun j => listed.getD j false) i) c' = Mf (fun j => (listed.setIfInBounds i true).getD j false) c' := by
          congr 1
          funext j
          rw [hset]
          unfold addE
          rfl
        rw [hMe] at hst
        have hsame : ∀ j, listed.getD j false = true → (es c)[j]? = (es c')[j]? := by
          intro j hlj
          cases hx : ents[j]? with
          | none => show (ents.map (· c))[j]? = (ents.map (· c'))[j]?; rw [List.getElem?_map, List.getElem?_map, hx]; rfl
          | some entj =>
            obtain ⟨oj, hoj, _⟩ := hkd j entj hx
            obtain ⟨entj', hx', _, hd', _⟩ := hes j oj hoj
            rw [hx] at hx'; cases hx'
            rw [hesm c j entj hx, hesm c' j entj hx]
            refine congrArg some (hd' c c' ?_)
            intro m hm
            refine (hcc m ?_).symm
            rintro rfl
            rcases hm with h' | h'
            · rw [h', hlj] at hnl'; cases hnl'
            · have := ancN_closed (ops := l.toArray) (e := fun j => listed.getD j false) (fun j o ho hj ed hed hb => hcl j o (by simpa using ho) hj ed hed hb) _ m j hlj h'
              rw [hnl'] at this; cases this
        have hesE : esOf (es c) listed = esOf (es c') listed := by
          unfold esOf
          rw [hesl, hesl]
          refine fm_congr _ ?_
          intro j hj
          exact hsame j (by simpa using (List.mem_filter.1 hj).2)
        rw [hesE] at hst
        have he' := hesm c' i ent he
        refine ih _ a' w' (by simpa using hsz) ?_ ⟨c', hst.look ?_⟩ ?_ (by omega)
        · intro j o ho hlj e he hb
          rw [hset] at hlj ⊢
          split
          · rfl
          · split at hlj
            · rename_i hij; subst hij; rw [hoi] at ho; cases ho; exact hdeps' e he hb
            · exact hcl j o ho hlj e he hb
        · intro t p hl
          rw [look_append] at hl
          rw [show ent c' = ((ent c').1, (ent c').2) from rfl, look_cons]
          by_cases hdt : (ent c').1 = t
          · subst hdt
            rw [if_pos rfl]
            have h2 : look (esOf (es c') (listed.setIfInBounds i true)) (ent c').1 = some (ent c').2 := look_mem (mem_esOf.2 ⟨i, by rw [hset, if_pos rfl], he'⟩) (hdist c' _)
            rw [h2] at hl
            simpa using hl
          · rw [if_neg hdt, look_append]
            by_cases hk : ∃ e ∈ esOf (es c') listed, e.1 = t
            · obtain ⟨e, hee, rfl⟩ := hk
              obtain ⟨j, hlj, hje⟩ := mem_esOf.1 hee
              have h2 : look (esOf (es c') (listed.setIfInBounds i true)) e.1 = some e.2 := look_mem (mem_esOf.2 ⟨j, by rw [hset, hlj, ite_self], hje⟩) (hdist c' _)
              have h3 : look (esOf (es c') listed) e.1 = some e.2 := look_mem hee (hdist c' _)
              rw [h2] at hl
              rw [h3]
              exact hl
            · have h2 : look (esOf (es c') (listed.setIfInBounds i true)) t = none := look_none (fun e hee h => by
                obtain ⟨j, hlj, hje⟩ := mem_esOf.1 hee
                rw [hset] at hlj
                split at hlj
                · rename_i hij; subst hij; rw [he'] at hje; cases hje; exact hdt h
                · exact hk ⟨e, mem_esOf.2 ⟨j, hlj, hje⟩, h⟩)
              have h3 : look (esOf (es c') listed) t = none := look_none (fun e hee h => hk ⟨e, hee, h⟩)
              rw [h2, Option.none_or] at hl
              rw [h3, Option.none_or]
              exact hl
        · intro hf j hj
          rw [hset]
          split
          · rfl
          · rename_i hij
            subst hf
            cases hlj : listed.getD j false with
            | true => rfl
            | false =>
              exfalso
              have hz : ((listed.setIfInBounds i true).toList.filter (!·)).length = 0 := by omega
              have hz' := List.eq_nil_of_length_eq_zero hz
              have : false ∈ (listed.setIfInBounds i true).toList.filter (!·) := by
                rw [List.mem_filter]
                refine ⟨?_, rfl⟩
                have h5 := hset j
                rw [if_neg hij, hlj, Array.getD_eq_getD_getElem?, Array.getElem?_eq_getElem (by simp; omega)] at h5
                simp only [Option.getD_some] at h5
                rw [← h5]
                exact Array.mem_toList_iff.2 (Array.getElem_mem _)
              rw [hz'] at this
              cases this
      -- the operation itself
      have hst := hob (fun j => listed.getD j false) c ⟨fun j o ho hj ed hed hb => hcl j o (by simpa using ho) hj ed hed hb, hnl', fun o ho ed hed hb => by rw [List.getElem?_toArray, hoi] at ho; cases ho; exact hdeps' ed hed hb⟩ _ a w hsee hs Q
      unfold wpOp
      rw [List.getElem?_toArray, hoi]
      simp only
      split
      · rename_i hw
        rw [if_pos hw] at hst
        exact .inl (Oper.wp_mono hnext hst)
      · rename_i hw
        rw [if_neg hw] at hst
        exact hnext _ _ hst
  refine key _ _ _ _ (by simp) ?_ ?_ ?_ ?_
  · intro i o ho hl
    exfalso
    rw [Array.getD_eq_getD_getElem?] at hl
    rcases Nat.lt_or_ge i l.length with h' | h'
    · simp [h'] at hl
    · simp [h'] at hl
  · refine ⟨c0, ?_⟩
    have : esOf (es c0) (Array.replicate l.toArray.size false) = [] := by
      apply List.eq_nil_iff_forall_not_mem.2
      intro e he
      obtain ⟨i, hi, _⟩ := mem_esOf.1 he
      rw [Array.getD_eq_getD_getElem?] at hi
      rcases Nat.lt_or_ge i l.length with h' | h'
      · simp [h'] at hi
      · simp [h'] at hi
    have hfe : (fun j => (Array.replicate l.toArray.size false).getD j false) = fun _ => false := by
      funext j
      rw [Array.getD_eq_getD_getElem?]
      rcases Nat.lt_or_ge j l.length with h' | h'
      · simp [h']
      · simp [h']
    rw [this, List.nil_append, hfe]
    exact hs.same rfl rfl rfl rfl
  · intro h0 i hi
    simp at h0
    subst h0
    simp at hi
  · simp


/-! ### what such a region's operations are met by -/
section rules
variable {ops : Array Oper} {R : Act → World → Prop} {rest : List Oper} {done : Ks → List En} {ty : TypeId} {pos : String} {aft : Array Edge} {Mf : (Nat → Bool) → Ks → List ME} {i : Nat}

theorem ObM.pure {o : Oper} {d : Tmp} {G : Bool} {av : Ks → AV} (hd : o.dst = some d) (hdn : Nat.blt d x.n = true) (hG : ∀ c, Gd ops (sel (o.looksAt ops) (done c ++ L)) o G)
    (hsv : ∀ e c, OkE ops e i → G = true → Sv x (sel (o.looksAt ops) (done c ++ L)) (Mf e c) o (av c)) (hMf : ∀ e c, Mf (addE e i) c = Mf e c) : ObM x ops L Mf i o done (fun c => (d, G, av c)) := by
  intro e c hk L' a w hsub hs Q
  have hs0 := hs.look hsub
  have hw : Region.wanted o (yielded ops a.tmps) = G := by
    rcases hG c with ⟨h1, h2⟩ | ⟨j, want, t, gb, b, h1, h2, h3, h4⟩
    · rw [Region.wanted, h1, h2]
    · obtain ⟨dst, op, ty', pos', aft', gu⟩ := o
      simp only at h1
      subst h1
      rw [guard_of (want := want) h2 h3 hs0, h4]
  rw [hw]
  cases hG' : G with
  | true =>
    rw [if_pos rfl]
    refine hsv e c hk hG' a w hs0 _ _ ?_
    intro v w' hK hmm hf hr
    rw [hd]
    refine ⟨c, fun _ _ => rfl, ?_⟩
    rw [hMf]
    exact (hs.world hK hmm hf).put hdn true (av c) v (fun _ => hr) (by simp)
  | false =>
    rw [if_neg (by simp), hd]
    refine ⟨c, fun _ _ => rfl, ?_⟩
    rw [hMf]
    exact hs.put hdn false (av c) undef (by simp) (fun _ => rfl)

theorem DM.nil (h : ∀ c e, (∀ j, j < i → e j = true) → W x (done c ++ L) (Mf e c) R) : DM x ops L Mf R i [] done := h
theorem DM.pure {o : Oper} {d : Tmp} {G : Bool} {av : Ks → AV} (hd : o.dst = some d) (hdn : Nat.blt d x.n = true) (hG : ∀ c, Gd ops (sel (o.looksAt ops) (done c ++ L)) o G)
    (hsv : ∀ e c, OkE ops e i → G = true → Sv x (sel (o.looksAt ops) (done c ++ L)) (Mf e c) o (av c)) (hMf : ∀ e c, Mf (addE e i) c = Mf e c) (hi : ∀ c c' : Ks, (∀ k, (k = i ∨ anc ops k i = true) → c k = c' k) → av c = av c')
    (next : DM x ops L Mf R (i + 1) rest (fun c => (d, G, av c) :: done c)) : DM x ops L Mf R i (o :: rest) done := by
  refine ⟨fun c => (d, G, av c), ?_, fun c c' h => congrArg (fun a => (d, G, a)) (hi c c' h), ObM.pure hd hdn hG hsv hMf, next⟩
  intro c
  rw [hd]
  exact ⟨rfl, hdn⟩
theorem DM.q {d : Tmp} {op : Op} {av : Ks → AV} (he : ∀ e c, OkE ops e i → Ev x true (sel (Oper.looksAt ops ⟨some d, op, ty, pos, aft, none⟩) (done c ++ L)) (Mf e c) op ty (av c)) (hdn : Nat.blt d x.n = true)
    (hMf : ∀ e c, Mf (addE e i) c = Mf e c) (hi : ∀ c c' : Ks, (∀ k, (k = i ∨ anc ops k i = true) → c k = c' k) → av c = av c') (next : DM x ops L Mf R (i + 1) rest (fun c => (d, true, av c) :: done c)) :
    DM x ops L Mf R i (⟨some d, op, ty, pos, aft, none⟩ :: rest) done := DM.pure rfl hdn (fun _ => .inl ⟨rfl, rfl⟩) (fun e c hk _ => Sv.ev (he e c hk)) hMf hi next
theorem DM.qg {d : Tmp} {op : Op} {av : Ks → AV} {j : Nat} {t : Tmp} {gb b want : Bool} (hj : (ops[j]?).bind (·.dst) = some t) (hl : ∀ c, Vl.look (sel (Oper.looksAt ops ⟨some d, op, ty, pos, aft, some (j, want)⟩) (done c ++ L)) t = some (gb, .lit (.bool b)))
    (he : ∀ e c, OkE ops e i → Ev x (gb && (b == want)) (sel (Oper.looksAt ops ⟨some d, op, ty, pos, aft, some (j, want)⟩) (done c ++ L)) (Mf e c) op ty (av c)) (hdn : Nat.blt d x.n = true)
    (hMf : ∀ e c, Mf (addE e i) c = Mf e c) (hi : ∀ c c' : Ks, (∀ k, (k = i ∨ anc ops k i = true) → c k = c' k) → av c = av c') (next : DM x ops L Mf R (i + 1) rest (fun c => (d, gb && (b == want), av c) :: done c)) :
    DM x ops L Mf R i (⟨some d, op, ty, pos, aft, some (j, want)⟩ :: rest) done := DM.pure rfl hdn (fun c => .inr ⟨j, want, t, gb, b, rfl, hj, hl c, rfl⟩) (fun e c hk hb => Sv.ev ((he e c hk).strip hb)) hMf hi next
theorem DM.callp {f : FuncId} {d : Tmp} {os : List Operand} {ats : Array TypeId} {avs : Ks → List AV} {r : Ks → AV} (hc : ∀ c, FnP x.P f (avs c) (r c)) (ha : ∀ c, ArgsOv (sel (Oper.looksAt ops ⟨some d, .call ⟨.value (.func f), os.toArray, ats⟩, ty, pos, aft, none⟩) (done c ++ L)) os (avs c)) (hdn : Nat.blt d x.n = true)
    (hMf : ∀ e c, Mf (addE e i) c = Mf e c) (hi : ∀ c c' : Ks, (∀ k, (k = i ∨ anc ops k i = true) → c k = c' k) → r c = r c') (next : DM x ops L Mf R (i + 1) rest (fun c => (d, true, r c) :: done c)) :
    DM x ops L Mf R i (⟨some d, .call ⟨.value (.func f), os.toArray, ats⟩, ty, pos, aft, none⟩ :: rest) done := DM.pure rfl hdn (fun _ => .inl ⟨rfl, rfl⟩) (fun e c _ _ => Sv.callp (hc c) (ha c)) hMf hi next
theorem DM.callg {f : FuncId} {d : Tmp} {os : List Operand} {ats : Array TypeId} {avs : Ks → List AV} {r : Ks → AV} {j : Nat} {t : Tmp} {gb b want : Bool} (hj : (ops[j]?).bind (·.dst) = some t)
    (hl : ∀ c, Vl.look (sel (Oper.looksAt ops ⟨some d, .call ⟨.value (.func f), os.toArray, ats⟩, ty, pos, aft, some (j, want)⟩) (done c ++ L)) t = some (gb, .lit (.bool b)))
    (hc : ∀ c, (gb && (b == want)) = true → FnP x.P f (avs c) (r c)) (ha : ∀ c, (gb && (b == want)) = true → ArgsOv (sel (Oper.looksAt ops ⟨some d, .call ⟨.value (.func f), os.toArray, ats⟩, ty, pos, aft, some (j, want)⟩) (done c ++ L)) os (avs c)) (hdn : Nat.blt d x.n = true)
    (hMf : ∀ e c, Mf (addE e i) c = Mf e c) (hi : ∀ c c' : Ks, (∀ k, (k = i ∨ anc ops k i = true) → c k = c' k) → r c = r c') (next : DM x ops L Mf R (i + 1) rest (fun c => (d, gb && (b == want), r c) :: done c)) :
    DM x ops L Mf R i (⟨some d, .call ⟨.value (.func f), os.toArray, ats⟩, ty, pos, aft, some (j, want)⟩ :: rest) done :=
  DM.pure rfl hdn (fun c => .inr ⟨j, want, t, gb, b, rfl, hj, hl c, rfl⟩) (fun e c _ hb => Sv.callp (hc c hb) (ha c hb)) hMf hi next
theorem DM.bs {d : Tmp} {T E k bytes n : Nat} {z : Value} {ps : List (Nat × Operand)} {es : Ks → List AV} (hT : x.P.underlying T = some (.slice E)) (hE : Ty x.P E k bytes z)
    (hp : ∀ c, PartsOv (sel (Oper.looksAt ops ⟨some d, .buildSlice T n ps.toArray, ty, pos, aft, none⟩) (done c ++ L)) k 0 ps (es c)) (hn : ∀ c, n = (es c).length) (hb : n * k ≤ 16777216) (hk1 : Nat.ble 1 k = true) (hdn : Nat.blt d x.n = true)
    (hMf : ∀ e c, Mf (addE e i) c = Mf e c) (hi : ∀ c c' : Ks, (∀ k, (k = i ∨ anc ops k i = true) → c k = c' k) → es c = es c') (next : DM x ops L Mf R (i + 1) rest (fun c => (d, true, .sl k (es c)) :: done c)) : DM x ops L Mf R i (⟨some d, .buildSlice T n ps.toArray, ty, pos, aft, none⟩ :: rest) done :=
  DM.pure rfl hdn (fun _ => .inl ⟨rfl, rfl⟩) (fun e c _ _ => Sv.bs hT hE (hp c) (hn c) hb hk1) hMf (fun c c' h => by rw [hi c c' h]) next
theorem DM.bsg {d : Tmp} {T E k bytes n : Nat} {z : Value} {ps : List (Nat × Operand)} {es : Ks → List AV} {j : Nat} {t : Tmp} {gb b want : Bool} (hj : (ops[j]?).bind (·.dst) = some t)
    (hl : ∀ c, Vl.look (sel (Oper.looksAt ops ⟨some d, .buildSlice T n ps.toArray, ty, pos, aft, some (j, want)⟩) (done c ++ L)) t = some (gb, .lit (.bool b))) (hT : x.P.underlying T = some (.slice E)) (hE : Ty x.P E k bytes z)
    (hp : ∀ c, (gb && (b == want)) = true → PartsOv (sel (Oper.looksAt ops ⟨some d, .buildSlice T n ps.toArray, ty, pos, aft, some (j, want)⟩) (done c ++ L)) k 0 ps (es c)) (hn : ∀ c, n = (es c).length) (hb : n * k ≤ 16777216) (hk1 : Nat.ble 1 k = true) (hdn : Nat.blt d x.n = true)
    (hMf : ∀ e c, Mf (addE e i) c = Mf e c) (hi : ∀ c c' : Ks, (∀ k, (k = i ∨ anc ops k i = true) → c k = c' k) → es c = es c') (next : DM x ops L Mf R (i + 1) rest (fun c => (d, gb && (b == want), .sl k (es c)) :: done c)) : DM x ops L Mf R i (⟨some d, .buildSlice T n ps.toArray, ty, pos, aft, some (j, want)⟩ :: rest) done :=
  DM.pure rfl hdn (fun c => .inr ⟨j, want, t, gb, b, rfl, hj, hl c, rfl⟩) (fun e c _ hb' => Sv.bs hT hE (hp c hb') (hn c) hb hk1) hMf (fun c c' h => by rw [hi c c' h]) next

theorem DM.eff0 {op : Op} (hW : ∀ e c, OkE ops e i → ∀ L', (∀ t p, Vl.look (sel (Oper.looksAt ops ⟨none, op, ty, pos, aft, none⟩) (done c ++ L)) t = some p → Vl.look L' t = some p) → ∀ Q : Exit → Act → World → Prop,
      W x L' (Mf (addE e i) c) (wpList x.P ops Q []) → W x L' (Mf e c) (wpList x.P ops Q [⟨none, op, ty, pos, aft, none⟩]))
    (next : DM x ops L Mf R (i + 1) rest (fun c => (x.n, false, .lit undef) :: done c)) : DM x ops L Mf R i (⟨none, op, ty, pos, aft, none⟩ :: rest) done := by
  refine ⟨fun c => (x.n, false, .lit undef), fun c => rfl, fun _ _ _ => rfl, ?_, next⟩
  intro e c hk L' a w hsub hs
  refine stepE_of rfl ?_
  refine hW e c hk L' hsub _ ?_ a w hs
  exact fun a' w' hs' => ⟨rfl, c, fun _ _ => rfl, hs'.ghost⟩
theorem DM.eff1 {op : Op} {d : Tmp} {av : Ks → AV} (hdn : Nat.blt d x.n = true) (hi : ∀ c c' : Ks, (∀ k, (k = i ∨ anc ops k i = true) → c k = c' k) → av c = av c')
    (hW : ∀ e c, OkE ops e i → ∀ L', (∀ t p, Vl.look (sel (Oper.looksAt ops ⟨some d, op, ty, pos, aft, none⟩) (done c ++ L)) t = some p → Vl.look L' t = some p) → ∀ Q : Exit → Act → World → Prop,
      (∀ z M', List.Perm M' (Mf (addE e i) (upd c i z)) → W x ((d, true, av (upd c i z)) :: L') M' (wpList x.P ops Q [])) → W x L' (Mf e c) (wpList x.P ops Q [⟨some d, op, ty, pos, aft, none⟩]))
    (next : DM x ops L Mf R (i + 1) rest (fun c => (d, true, av c) :: done c)) : DM x ops L Mf R i (⟨some d, op, ty, pos, aft, none⟩ :: rest) done := by
  refine ⟨fun c => (d, true, av c), fun c => ⟨rfl, hdn⟩, fun c c' h => congrArg (fun a => (d, true, a)) (hi c c' h), ?_, next⟩
  intro e c hk L' a w hsub hs
  refine stepE_of rfl ?_
  refine hW e c hk L' hsub _ ?_ a w hs
  intro z M' hp a' w' hs'
  exact ⟨rfl, upd c i z, fun k hk => if_neg hk, (hs'.perm hp)⟩
end rules
end draw
end Go.Vl
