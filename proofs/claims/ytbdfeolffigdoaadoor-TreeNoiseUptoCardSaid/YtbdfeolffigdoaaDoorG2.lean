/-
  Merged: DrawM Iter Utf Enc UtfLaw More Str Style Bld Tree Walk CallG Rules Drawn Emit Opn Opm Opq Ops Opz Copy Gsl Change CallM Grd Base WLib WOFind WOClose WOLast WCloneA.
-/
import Derived.Test.YtbdfeolffigdoaaDoorG1
import Derived.Laws.StructEq
import Derived.Lib.Builder
import Derived.Lib.UnsafeStr
import Derived.Laws.Pointers
import Derived.Laws.Externs
import Derived.Laws.Cover3
import Derived.Lib.Overlaps
import Derived.Test.YtbdfeolffigdoaaDoorRows

section
set_option linter.unusedVariables false
set_option linter.unusedSimpArgs false
set_option linter.unusedSectionVars false
namespace Go.Vl
open Go Go.Sem
abbrev Ks := Nat → Nat × Value
def upd (c : Ks) (i : Nat) (z : Nat × Value) : Ks := fun k => if k = i then z else c k
def ks0 : Ks := fun _ => (0, undef)
theorem St.perm {x : Cx} {L : List En} {M M' : List ME} {a : Act} {w : World} (hs : St x L M a w) (hp : List.Perm M M') : St x L M' a w := by
  obtain ⟨hm, hk, hsub⟩ := hs.mem.sub (M' := M') (D := []) (by rw [List.append_nil]; exact hp)
  exact ⟨hs.defers, hs.size, fun t g av hl => ⟨fun hg => ((hs.slots t g av hl).1 hg).keep hk, (hs.slots t g av hl).2⟩, hm, hs.fr.sub hsub, hs.old⟩
theorem W.perm {x : Cx} {L : List En} {M M' : List ME} {R : Act → World → Prop} (hp : List.Perm M M') (h : W x L M' R) : W x L M R := fun a w hs => h a w (hs.perm hp)
section draw
variable {x : Cx} {L : List En} {M : List ME} {Q : Exit → Act → World → Prop}

def ObM (x : Cx) (ops : Array Oper) (L : List En) (Mf : (Nat → Bool) → Ks → List ME) (i : Nat) (o : Oper) (done : Ks → List En) (ent : Ks → En) : Prop :=
  ∀ e c, OkE ops e i → ∀ L' a w, (∀ t p, look (sel (o.looksAt ops) (done c ++ L)) t = some p → look L' t = some p) → St x L' (Mf e c) a w →
    stepE x ops o a w (fun a' w' => ∃ c' : Ks, (∀ k, k ≠ i → c' k = c k) ∧ St x (ent c' :: L') (Mf (addE e i) c') a' w')

/-- the region's operations in the text's order -/
def DM (x : Cx) (ops : Array Oper) (L : List En) (Mf : (Nat → Bool) → Ks → List ME) (R : Act → World → Prop) : Nat → List Oper → (Ks → List En) → Prop
  | i, [], done => ∀ c e, (∀ j, j < i → e j = true) → W x (done c ++ L) (Mf e c) R
  | i, o :: rest, done => ∃ ent : Ks → En, KeyOk x o ent ∧ (∀ c c' : Ks, (∀ k, (k = i ∨ anc ops k i = true) → c k = c' k) → ent c = ent c') ∧ ObM x ops L Mf i o done ent ∧ DM x ops L Mf R (i + 1) rest (fun c => ent c :: done c)

theorem DM.extract {ops : Array Oper} {R : Act → World → Prop} {Mf : (Nat → Bool) → Ks → List ME} : ∀ {rest : List Oper} {k : Nat} {done : Ks → List En}, DM x ops L Mf R k rest done →
    ∃ ents : List (Ks → En), ents.length = rest.length ∧ (∀ (i : Nat) (o : Oper), rest[i]? = some o → ∃ ent, ents[i]? = some ent ∧ KeyOk x o ent ∧ (∀ c c' : Ks, (∀ m, (m = k + i ∨ anc ops m (k + i) = true) → c m = c' m) → ent c = ent c') ∧
      ObM x ops L Mf (k + i) o (fun c => ((ents.take i).map (· c)).reverse ++ done c) ent) ∧ (∀ c e, (∀ j, j < k + rest.length → e j = true) → W x ((ents.map (· c)).reverse ++ (done c ++ L)) (Mf e c) R)
  | [], k, done, h => by
    have h' : ∀ c e, (∀ j, j < k → e j = true) → W x (done c ++ L) (Mf e c) R := h
    exact ⟨[], rfl, by simp, fun c e he => by simpa using h' c e (by simpa using he)⟩
  | o :: rest, k, done, h => by
    obtain ⟨ent, h1, h2, h3, h4⟩ := h
    obtain ⟨ents, e1, e2, e3⟩ := DM.extract h4
    refine ⟨ent :: ents, by simp [e1], ?_, ?_⟩
    · intro i o' ho'
      cases i with
      | zero => simp at ho'; subst ho'; exact ⟨ent, rfl, h1, h2, by simpa using h3⟩
      | succ i =>
        obtain ⟨ent', f1, f2, f3, f4⟩ := e2 i o' (by simpa using ho')
        have e : k + 1 + i = k + (i + 1) := by omega
        rw [e] at f3 f4
        exact ⟨ent', by simpa using f1, f2, f3, by simpa using f4⟩
    · intro c e he
      have := e3 c e (fun j hj => he j (by simp; omega))
      simpa using this

theorem W.drawnM {id : Nat} {l : List Oper} (Mf : (Nat → Bool) → Ks → List ME) (c0 : Ks) (hm : x.P.follows .mixedOrders = true) (hok : okDrawE x.n l.toArray = true) (hM0 : M = Mf (fun _ => false) c0) (h : DM x l.toArray L Mf (Q .normal) 0 l (fun _ => [])) : W x L M (Code.wp x.P (.region id l.toArray true) Q) := by
  subst hM0
  intro a w hs
  obtain ⟨ents, hlen, hes, hW⟩ := h.extract
  simp only [List.append_nil, Nat.zero_add, List.nil_append] at hes hW
  -- the edges, in words
  have hok' : ∀ (i : Nat) (oi : Oper), l[i]? = some oi → ((∀ e ∈ oi.after, Region.binds .any e = true → e.on < i) ∧ x.n ∉ oi.looksAt l.toArray) ∧ ∀ (j : Nat) (oj : Oper), l[j]? = some oj → i ≠ j → (oi.dst ≠ oj.dst ∨ oj.dst = none) ∧ ∀ d, oj.dst = some d → d ∈ oi.looksAt l.toArray →
      (j < i ∧ ∃ e ∈ oi.after, Region.binds .any e = true ∧ e.on = j) ∨ (i < j ∧ ∃ e ∈ oj.after, Region.binds .any e = true ∧ e.on = i) := by
    intro i oi hi
    have hil : i < l.length := by
      rcases Nat.lt_or_ge i l.length with h' | h'
      · exact h'
      · rw [List.getElem?_eq_none h'] at hi; cases hi
    simp only [okDrawE, List.size_toArray, List.all_eq_true, List.mem_range] at hok
    have h1 := hok i hil
    rw [List.getElem?_toArray, hi] at h1
    simp only [Bool.and_eq_true, Array.all_eq_true', List.all_eq_true, List.mem_range, decide_eq_true_eq, Bool.not_eq_true', List.contains_eq_mem, decide_eq_false_iff_not] at h1
    refine ⟨⟨fun e he hb => by
      have h9 := h1.1.1 e he
      rw [hb] at h9
      simpa using h9, h1.1.2⟩, fun j oj hj hne => ?_⟩
    have hjl : j < l.length := by
      rcases Nat.lt_or_ge j l.length with h' | h'
      · exact h'
      · rw [List.getElem?_eq_none h'] at hj; cases hj
    have h2 := h1.2 j hjl
    rw [List.getElem?_toArray, hj] at h2
    simp only [Bool.or_eq_true, beq_iff_eq, hne, false_or, Bool.and_eq_true, bne_iff_ne, Option.isNone_iff_eq_none] at h2
    refine ⟨h2.1, fun d hd hdl => ?_⟩
    have h3 := h2.2
    rw [hd] at h3
    simp only [Bool.or_eq_true, Bool.not_eq_true', List.contains_eq_mem, decide_eq_false_iff_not, hdl, not_true_eq_false, false_or] at h3
    by_cases hji : j < i
    · left
      simp only [hji, decide_true, cond_true, Array.any_eq_true', Bool.and_eq_true, beq_iff_eq] at h3
      obtain ⟨e, he, hb, ho⟩ := h3
      exact ⟨hji, e, he, hb, ho⟩
    · right
      simp only [hji, decide_false, cond_false, Array.any_eq_true', Bool.and_eq_true, beq_iff_eq] at h3
      obtain ⟨e, he, hb, ho⟩ := h3
      exact ⟨by omega, e, he, hb, ho⟩
  have hkd : ∀ (i : Nat) (ent : Ks → En), ents[i]? = some ent → ∃ oi : Oper, l[i]? = some oi ∧ KeyOk x oi ent := by
    intro i e he
    have hil : i < l.length := by
      rcases Nat.lt_or_ge i ents.length with h' | h'
      · omega
      · rw [List.getElem?_eq_none h'] at he; cases he
    obtain ⟨ent, h1, h2, _⟩ := hes i l[i] (List.getElem?_eq_getElem hil)
    rw [he] at h1
    cases h1
    exact ⟨l[i], List.getElem?_eq_getElem hil, h2⟩
  let es : Ks → List En := fun c => ents.map (· c)
  have hesl : ∀ c, (es c).length = ents.length := fun c => List.length_map ..
  have hesi : ∀ (c : Ks) (i : Nat) (e : En), (es c)[i]? = some e → ∃ ent, ents[i]? = some ent ∧ ent c = e := by
    intro c i e he
    rw [List.getElem?_map] at he
    cases hx : ents[i]? with
    | none => rw [hx] at he; cases he
    | some ent => rw [hx] at he; cases he; exact ⟨ent, rfl, rfl⟩
  have hesm : ∀ (c : Ks) (i : Nat) (ent : Ks → En), ents[i]? = some ent → (es c)[i]? = some (ent c) := by
    intro c i ent he
    rw [List.getElem?_map, he]; rfl
  have hget : ∀ (c : Ks) (i : Nat) (e : En), (es c)[i]? = some e → ∃ oi : Oper, l[i]? = some oi ∧ (oi.dst = some e.1 ∨ (oi.dst = none ∧ e.1 = x.n)) := by
    intro c i e he
    obtain ⟨ent, h1, rfl⟩ := hesi c i e he
    obtain ⟨oi, h2, h3⟩ := hkd i ent h1
    refine ⟨oi, h2, ?_⟩
    have h4 := h3 c
    cases hd : oi.dst with
    | none => rw [hd] at h4; exact .inr ⟨rfl, by rw [show ent c = (x.n, false, .lit undef) from h4]⟩
    | some d => rw [hd] at h4; exact .inl (by rw [h4.1])
  have hkey : ∀ (c : Ks) (i j : Nat) (e e' : En), (es c)[i]? = some e → (es c)[j]? = some e' → e.1 = e'.1 → e = e' := by
    intro c i j e e' hi hj he
    by_cases hne : i = j
    · subst hne; rw [hi] at hj; cases hj; rfl
    · skip
      obtain ⟨enti, hi1, rfl⟩ := hesi c i e hi
      obtain ⟨entj, hj1, rfl⟩ := hesi c j e' hj
      obtain ⟨oi, h1, h2⟩ := hkd i enti hi1
      obtain ⟨oj, h3, h4⟩ := hkd j entj hj1
      have hn := ((hok' i oi h1).2 j oj h3 hne).1
      have h5 := h2 c
      have h6 := h4 c
      cases hd : oi.dst with
      | none =>
        cases hd' : oj.dst with
        | none =>
          rw [hd] at h5
          rw [hd'] at h6
          exact (show enti c = _ from h5).trans (show entj c = _ from h6).symm
        | some d' =>
          exfalso
          rw [hd] at h5
          rw [hd'] at h6
          replace h5 : (enti c).1 = x.n := by rw [show enti c = (x.n, false, .lit undef) from h5]
          have : d' < x.n := by simpa [Nat.blt_eq] using h6.2
          have e1 : d' = x.n := by rw [← h6.1, ← he, h5]
          rw [e1] at this; exact Nat.lt_irrefl _ this
      | some d =>
        exfalso
        cases hd' : oj.dst with
        | none =>
          rw [hd] at h5
          rw [hd'] at h6
          replace h6 : (entj c).1 = x.n := by rw [show entj c = (x.n, false, .lit undef) from h6]
          have : d < x.n := by simpa [Nat.blt_eq] using h5.2
          have e1 : d = x.n := by rw [← h5.1, he, h6]
          rw [e1] at this; exact Nat.lt_irrefl _ this
        | some d' =>
          rw [hd] at h5
          rw [hd'] at h6
          rcases hn with hn | hn
          · exact hn (by rw [hd, hd', ← h5.1, ← h6.1, he])
          · rw [hd'] at hn; cases hn
  have hdist : ∀ (c : Ks) listed, ∀ e ∈ esOf (es c) listed, ∀ e' ∈ esOf (es c) listed, e.1 = e'.1 → e = e' := by
    intro c listed e he e' he' hk
    obtain ⟨i, _, hi⟩ := mem_esOf.1 he
    obtain ⟨j, _, hj⟩ := mem_esOf.1 he'
    exact hkey c i j e e' hi hj hk
  refine wp_region_any hm ?_
  have key : ∀ (fuel : Nat) (listed : Array Bool) (a : Act) (w : World), listed.size = l.length → (∀ (i : Nat) (o : Oper), l[i]? = some o → listed.getD i false = true → ∀ e ∈ o.after, Region.binds .any e = true → listed.getD e.on false = true) →
      (∃ c, St x (esOf (es c) listed ++ L) (Mf (fun j => listed.getD j false) c) a w) → (fuel = 0 → ∀ i, i < l.length → listed.getD i false = true) → (listed.toList.filter (!·)).length ≤ fuel → wpAny x.P .any l.toArray Q fuel listed a w := by
    intro fuel
    have hdone : ∀ (listed : Array Bool) (a : Act) (w : World), listed.size = l.length → (∃ c, St x (esOf (es c) listed ++ L) (Mf (fun j => listed.getD j false) c) a w) → Region.ready .any l.toArray listed = [] → Q .normal a w := by
      rintro listed a w hsz ⟨c, hs⟩ hr
      have hall : ∀ i, i < l.length → listed.getD i false = true := by
        intro i
        induction i using Nat.strongRecOn with
        | _ i ih =>
          intro hi
          cases hli : listed.getD i false with
          | true => rfl
          | false =>
            exfalso
            have : i ∈ Region.ready .any l.toArray listed := by
              simp only [Region.ready, List.mem_filter, List.mem_range, List.size_toArray, Bool.and_eq_true]
              refine ⟨hi, ?_, ?_⟩
              · have : listed.getD i true = false := by
                  rw [Array.getD_eq_getD_getElem?, Array.getElem?_eq_getElem (by omega)] at hli ⊢
                  simpa using hli
                simp [this]
              · rw [List.getElem?_toArray, List.getElem?_eq_getElem hi]
                simp only [Option.map_some, Option.getD_some, Array.all_eq_true', Bool.or_eq_true, Bool.not_eq_true']
                intro e he
                cases hb : Region.binds .any e with
                | false => exact .inl rfl
                | true =>
                  have hlt := (hok' i l[i] (List.getElem?_eq_getElem hi)).1.1 e he hb
                  exact .inr (ih e.on hlt (by omega))
            rw [hr] at this
            cases this
      refine hW c _ (fun j hj => hall j (by simpa using hj)) a w (hs.look ?_)
      intro t p hl
      rw [look_append] at hl ⊢
      by_cases hk : ∃ e ∈ es c, e.1 = t
      · obtain ⟨e, he, rfl⟩ := hk
        obtain ⟨i, hi, hie⟩ := List.getElem_of_mem he
        have hie' : (es c)[i]? = some e := by rw [List.getElem?_eq_getElem hi, hie]
        have h1 : look (es c).reverse e.1 = some e.2 := look_mem (List.mem_reverse.2 he) (by
          intro e1 he1 e2 he2 hk
          obtain ⟨i1, hi1, hie1⟩ := List.getElem_of_mem (List.mem_reverse.1 he1)
          obtain ⟨i2, hi2, hie2⟩ := List.getElem_of_mem (List.mem_reverse.1 he2)
          exact hkey c i1 i2 e1 e2 (by rw [List.getElem?_eq_getElem hi1, hie1]) (by rw [List.getElem?_eq_getElem hi2, hie2]) hk)
        have h2 : look (esOf (es c) listed) e.1 = some e.2 := look_mem (mem_esOf.2 ⟨i, hall i (by have := hesl c; omega), hie'⟩) (hdist c listed)
        rw [h1] at hl
        rw [h2]
        simpa using hl
      · have h1 : look (es c).reverse t = none := look_none (fun e he h => hk ⟨e, List.mem_reverse.1 he, h⟩)
        rw [h1, Option.none_or] at hl
        have h2 : look (esOf (es c) listed) t = none := look_none (fun e he h => by
          obtain ⟨i, _, hi⟩ := mem_esOf.1 he
          exact hk ⟨e, List.mem_of_getElem? hi, h⟩)
        rw [h2, Option.none_or]
        exact hl
    induction fuel with
    | zero =>
      intro listed a w hsz hcl hs h0 _
      have hall := h0 rfl
      have hr : Region.ready .any l.toArray listed = [] := by
        apply List.eq_nil_iff_forall_not_mem.2
        intro i hi
        simp only [Region.ready, List.mem_filter, List.mem_range, List.size_toArray, Bool.and_eq_true, Bool.not_eq_true'] at hi
        have h1 := hall i hi.1
        have h2 := hi.2.1
        rw [Array.getD_eq_getD_getElem?, Array.getElem?_eq_getElem (by omega)] at h1 h2
        simp at h1 h2
        rw [h1] at h2
        cases h2
      exact ⟨hr, hdone listed a w hsz hs hr⟩
    | succ fuel ih =>
      rintro listed a w hsz hcl ⟨c, hs⟩ _ hcount
      refine ⟨hdone listed a w hsz ⟨c, hs⟩, fun i hi => ?_⟩
      simp only [Region.ready, List.mem_filter, List.mem_range, List.size_toArray, Bool.and_eq_true, Bool.not_eq_true'] at hi
      obtain ⟨hil, hnl, hdeps⟩ := hi
      have hnl' : listed.getD i false = false := by
        rw [Array.getD_eq_getD_getElem?, Array.getElem?_eq_getElem (by omega)] at hnl ⊢
        simpa using hnl
      have hoi : l[i]? = some l[i] := List.getElem?_eq_getElem hil
      generalize l[i] = oi at hoi
      obtain ⟨ent, he, hko, hdep, hob⟩ := hes i oi hoi
      have hce := hesm c i ent he
      rw [List.getElem?_toArray, hoi] at hdeps
      simp only [Option.map_some, Option.getD_some, Array.all_eq_true', Bool.or_eq_true, Bool.not_eq_true'] at hdeps
      have hdeps' : ∀ e ∈ oi.after, Region.binds .any e = true → listed.getD e.on false = true := by
        intro e he hb
        rcases hdeps e he with h' | h'
        · rw [hb] at h'; cases h'
        · exact h'
      -- what the operation looks at is known
      have hsee : ∀ t p, look (sel (oi.looksAt l.toArray) (((ents.take i).map (· c)).reverse ++ L)) t = some p → look (esOf (es c) listed ++ L) t = some p := by
        intro t p hl
        rw [look_sel] at hl
        split at hl
        · rename_i ht
          rw [look_append] at hl ⊢
          by_cases hk : ∃ j e, j < i ∧ (es c)[j]? = some e ∧ e.1 = t
          · obtain ⟨j, e, hji, hje, rfl⟩ := hk
            obtain ⟨oj, hoj, hdj⟩ := hget c j e hje
            replace hdj : oj.dst = some e.1 := by
              rcases hdj with h | ⟨_, h⟩
              · exact h
              · rw [h] at ht; exact absurd ht (hok' i oi hoi).1.2
            have hl1 : listed.getD j false = true := by
              rcases ((hok' i oi hoi).2 j oj hoj (by omega)).2 e.1 hdj ht with ⟨_, ed, hed, hb, ho⟩ | ⟨h', _⟩
              · rw [← ho]; exact hdeps' ed hed hb
              · omega
            have h1 : look ((ents.take i).map (· c)).reverse e.1 = some e.2 := look_mem (List.mem_reverse.2 (by rw [List.map_take]; exact List.mem_of_getElem? (i := j) (by rw [List.getElem?_take, if_pos hji]; exact hje))) (by
              intro e1 he1 e2 he2 hk
              obtain ⟨i1, hi1, hie1⟩ := List.getElem_of_mem (l := es c) (by have := List.mem_reverse.1 he1; rw [List.map_take] at this; exact List.mem_of_mem_take this)
              obtain ⟨i2, hi2, hie2⟩ := List.getElem_of_mem (l := es c) (by have := List.mem_reverse.1 he2; rw [List.map_take] at this; exact List.mem_of_mem_take this)
              exact hkey c i1 i2 e1 e2 (by rw [List.getElem?_eq_getElem hi1, hie1]) (by rw [List.getElem?_eq_getElem hi2, hie2]) hk)
            have h2 : look (esOf (es c) listed) e.1 = some e.2 := look_mem (mem_esOf.2 ⟨j, hl1, hje⟩) (hdist c listed)
            rw [h1] at hl
            rw [h2]
            simpa using hl
          · have h1 : look ((ents.take i).map (· c)).reverse t = none := look_none (fun e he h => by
              have he' := List.mem_reverse.1 he
              rw [List.map_take] at he'
              obtain ⟨j, hj, hje⟩ := List.getElem_of_mem he'
              rw [List.length_take] at hj
              refine hk ⟨j, e, by omega, ?_, h⟩
              rw [← hje, List.getElem_take]
              exact List.getElem?_eq_getElem _)
            rw [h1, Option.none_or] at hl
            have h2 : look (esOf (es c) listed) t = none := look_none (fun e he h => by
              obtain ⟨j, hlj, hje⟩ := mem_esOf.1 he
              obtain ⟨oj, hoj, hdj⟩ := hget c j e hje
              replace hdj : oj.dst = some e.1 := by
                rcases hdj with h' | ⟨_, h'⟩
                · exact h'
                · rw [← h, h'] at ht; exact absurd ht (hok' i oi hoi).1.2
              have hji : ¬ j < i := fun h' => hk ⟨j, e, h', hje, h⟩
              by_cases hij : i = j
              · subst hij; rw [hnl'] at hlj; cases hlj
              · rcases ((hok' i oi hoi).2 j oj hoj hij).2 e.1 hdj (h ▸ ht) with ⟨h', _⟩ | ⟨_, ed, hed, hb, ho⟩
                · exact hji h'
                · have := hcl j oj hoj hlj ed hed hb
                  rw [ho, hnl'] at this
                  cases this)
            rw [h2, Option.none_or]
            exact hl
        · cases hl
      -- behind it
      have hnext : ∀ a' w', (∃ c' : Ks, (∀ k, k ≠ i → c' k = c k) ∧ St x (ent c' :: (esOf (es c) listed ++ L)) (Mf (addE (fun j => listed.getD j false) i) c') a' w') → wpAny x.P .any l.toArray Q fuel (listed.setIfInBounds i true) a' w' := by
        rintro a' w' ⟨c', hcc, hst⟩
        have hset : ∀ j, (listed.setIfInBounds i true).getD j false = if i = j then true else listed.getD j false := by
          intro j
          rw [Array.getD_eq_getD_getElem?, Array.getD_eq_getD_getElem?, Array.getElem?_setIfInBounds]
          by_cases e : i = j
          · subst e; simp [hsz, hil]
          · simp [e]
        have hcnt : ((listed.setIfInBounds i true).toList.filter (!·)).length < (listed.toList.filter (!·)).length := by
          rw [Array.toList_setIfInBounds]
          have hlt : i < listed.toList.length := by simp [hsz]; exact hil
          have hv : listed.toList[i] = false := by
            rw [Array.getD_eq_getD_getElem?, Array.getElem?_eq_getElem (by omega)] at hnl'
            simpa using hnl'
          exact count_set _ i hlt hv
        have hMe : Mf (addE (fun j => listed.getD j false) i) c' = Mf (fun j => (listed.setIfInBounds i true).getD j false) c' := by
          congr 1
          funext j
          rw [hset]
          unfold addE
          rfl
        rw [hMe] at hst
        have hsame : ∀ j, listed.getD j false = true → (es c)[j]? = (es c')[j]? := by
          intro j hlj
          cases hx : ents[j]? with
          | none => show (ents.map (· c))[j]? = (ents.map (· c'))[j]?; rw [List.getElem?_map, List.getElem?_map, hx]; rfl
          | some entj =>
            obtain ⟨oj, hoj, _⟩ := hkd j entj hx
            obtain ⟨entj', hx', _, hd', _⟩ := hes j oj hoj
            rw [hx] at hx'; cases hx'
            rw [hesm c j entj hx, hesm c' j entj hx]
            refine congrArg some (hd' c c' ?_)
            intro m hm
            refine (hcc m ?_).symm
            rintro rfl
            rcases hm with h' | h'
            · rw [h', hlj] at hnl'; cases hnl'
            · have := ancN_closed (ops := l.toArray) (e := fun j => listed.getD j false) (fun j o ho hj ed hed hb => hcl j o (by simpa using ho) hj ed hed hb) _ m j hlj h'
              rw [hnl'] at this; cases this
        have hesE : esOf (es c) listed = esOf (es c') listed := by
          unfold esOf
          rw [hesl, hesl]
          refine fm_congr _ ?_
          intro j hj
          exact hsame j (by simpa using (List.mem_filter.1 hj).2)
        rw [hesE] at hst
        have he' := hesm c' i ent he
        refine ih _ a' w' (by simpa using hsz) ?_ ⟨c', hst.look ?_⟩ ?_ (by omega)
        · intro j o ho hlj e he hb
          rw [hset] at hlj ⊢
          split
          · rfl
          · split at hlj
            · rename_i hij; subst hij; rw [hoi] at ho; cases ho; exact hdeps' e he hb
            · exact hcl j o ho hlj e he hb
        · intro t p hl
          rw [look_append] at hl
          rw [show ent c' = ((ent c').1, (ent c').2) from rfl, look_cons]
          by_cases hdt : (ent c').1 = t
          · subst hdt
            rw [if_pos rfl]
            have h2 : look (esOf (es c') (listed.setIfInBounds i true)) (ent c').1 = some (ent c').2 := look_mem (mem_esOf.2 ⟨i, by rw [hset, if_pos rfl], he'⟩) (hdist c' _)
            rw [h2] at hl
            simpa using hl
          · rw [if_neg hdt, look_append]
            by_cases hk : ∃ e ∈ esOf (es c') listed, e.1 = t
            · obtain ⟨e, hee, rfl⟩ := hk
              obtain ⟨j, hlj, hje⟩ := mem_esOf.1 hee
              have h2 : look (esOf (es c') (listed.setIfInBounds i true)) e.1 = some e.2 := look_mem (mem_esOf.2 ⟨j, by rw [hset, hlj, ite_self], hje⟩) (hdist c' _)
              have h3 : look (esOf (es c') listed) e.1 = some e.2 := look_mem hee (hdist c' _)
              rw [h2] at hl
              rw [h3]
              exact hl
            · have h2 : look (esOf (es c') (listed.setIfInBounds i true)) t = none := look_none (fun e hee h => by
                obtain ⟨j, hlj, hje⟩ := mem_esOf.1 hee
                rw [hset] at hlj
                split at hlj
                · rename_i hij; subst hij; rw [he'] at hje; cases hje; exact hdt h
                · exact hk ⟨e, mem_esOf.2 ⟨j, hlj, hje⟩, h⟩)
              have h3 : look (esOf (es c') listed) t = none := look_none (fun e hee h => hk ⟨e, hee, h⟩)
              rw [h2, Option.none_or] at hl
              rw [h3, Option.none_or]
              exact hl
        · intro hf j hj
          rw [hset]
          split
          · rfl
          · rename_i hij
            subst hf
            cases hlj : listed.getD j false with
            | true => rfl
            | false =>
              exfalso
              have hz : ((listed.setIfInBounds i true).toList.filter (!·)).length = 0 := by omega
              have hz' := List.eq_nil_of_length_eq_zero hz
              have : false ∈ (listed.setIfInBounds i true).toList.filter (!·) := by
                rw [List.mem_filter]
                refine ⟨?_, rfl⟩
                have h5 := hset j
                rw [if_neg hij, hlj, Array.getD_eq_getD_getElem?, Array.getElem?_eq_getElem (by simp; omega)] at h5
                simp only [Option.getD_some] at h5
                rw [← h5]
                exact Array.mem_toList_iff.2 (Array.getElem_mem _)
              rw [hz'] at this
              cases this
      -- the operation itself
      have hst := hob (fun j => listed.getD j false) c ⟨fun j o ho hj ed hed hb => hcl j o (by simpa using ho) hj ed hed hb, hnl', fun o ho ed hed hb => by rw [List.getElem?_toArray, hoi] at ho; cases ho; exact hdeps' ed hed hb⟩ _ a w hsee hs Q
      unfold wpOp
      rw [List.getElem?_toArray, hoi]
      simp only
      split
      · rename_i hw
        rw [if_pos hw] at hst
        exact .inl (Oper.wp_mono hnext hst)
      · rename_i hw
        rw [if_neg hw] at hst
        exact hnext _ _ hst
  refine key _ _ _ _ (by simp) ?_ ?_ ?_ ?_
  · intro i o ho hl
    exfalso
    rw [Array.getD_eq_getD_getElem?] at hl
    rcases Nat.lt_or_ge i l.length with h' | h'
    · simp [h'] at hl
    · simp [h'] at hl
  · refine ⟨c0, ?_⟩
    have : esOf (es c0) (Array.replicate l.toArray.size false) = [] := by
      apply List.eq_nil_iff_forall_not_mem.2
      intro e he
      obtain ⟨i, hi, _⟩ := mem_esOf.1 he
      rw [Array.getD_eq_getD_getElem?] at hi
      rcases Nat.lt_or_ge i l.length with h' | h'
      · simp [h'] at hi
      · simp [h'] at hi
    have hfe : (fun j => (Array.replicate l.toArray.size false).getD j false) = fun _ => false := by
      funext j
      rw [Array.getD_eq_getD_getElem?]
      rcases Nat.lt_or_ge j l.length with h' | h'
      · simp [h']
      · simp [h']
    rw [this, List.nil_append, hfe]
    exact hs.same rfl rfl rfl rfl
  · intro h0 i hi
    simp at h0
    subst h0
    simp at hi
  · simp


/-! ### what such a region's operations are met by -/
section rules
variable {ops : Array Oper} {R : Act → World → Prop} {rest : List Oper} {done : Ks → List En} {ty : TypeId} {pos : String} {aft : Array Edge} {Mf : (Nat → Bool) → Ks → List ME} {i : Nat}

theorem ObM.pure {o : Oper} {d : Tmp} {G : Bool} {av : Ks → AV} (hd : o.dst = some d) (hdn : Nat.blt d x.n = true) (hG : ∀ c, Gd ops (sel (o.looksAt ops) (done c ++ L)) o G)
    (hsv : ∀ e c, OkE ops e i → G = true → Sv x (sel (o.looksAt ops) (done c ++ L)) (Mf e c) o (av c)) (hMf : ∀ e c, Mf (addE e i) c = Mf e c) : ObM x ops L Mf i o done (fun c => (d, G, av c)) := by
  intro e c hk L' a w hsub hs Q
  have hs0 := hs.look hsub
  have hw : Region.wanted o (yielded ops a.tmps) = G := by
    rcases hG c with ⟨h1, h2⟩ | ⟨j, want, t, gb, b, h1, h2, h3, h4⟩
    · rw [Region.wanted, h1, h2]
    · obtain ⟨dst, op, ty', pos', aft', gu⟩ := o
      simp only at h1
      subst h1
      rw [guard_of (want := want) h2 h3 hs0, h4]
  rw [hw]
  cases hG' : G with
  | true =>
    rw [if_pos rfl]
    refine hsv e c hk hG' a w hs0 _ _ ?_
    intro v w' hK hmm hf hr
    rw [hd]
    refine ⟨c, fun _ _ => rfl, ?_⟩
    rw [hMf]
    exact (hs.world hK hmm hf).put hdn true (av c) v (fun _ => hr) (by simp)
  | false =>
    rw [if_neg (by simp), hd]
    refine ⟨c, fun _ _ => rfl, ?_⟩
    rw [hMf]
    exact hs.put hdn false (av c) undef (by simp) (fun _ => rfl)

theorem DM.nil (h : ∀ c e, (∀ j, j < i → e j = true) → W x (done c ++ L) (Mf e c) R) : DM x ops L Mf R i [] done := h
theorem DM.pure {o : Oper} {d : Tmp} {G : Bool} {av : Ks → AV} (hd : o.dst = some d) (hdn : Nat.blt d x.n = true) (hG : ∀ c, Gd ops (sel (o.looksAt ops) (done c ++ L)) o G)
    (hsv : ∀ e c, OkE ops e i → G = true → Sv x (sel (o.looksAt ops) (done c ++ L)) (Mf e c) o (av c)) (hMf : ∀ e c, Mf (addE e i) c = Mf e c) (hi : ∀ c c' : Ks, (∀ k, (k = i ∨ anc ops k i = true) → c k = c' k) → av c = av c')
    (next : DM x ops L Mf R (i + 1) rest (fun c => (d, G, av c) :: done c)) : DM x ops L Mf R i (o :: rest) done := by
  refine ⟨fun c => (d, G, av c), ?_, fun c c' h => congrArg (fun a => (d, G, a)) (hi c c' h), ObM.pure hd hdn hG hsv hMf, next⟩
  intro c
  rw [hd]
  exact ⟨rfl, hdn⟩
theorem DM.q {d : Tmp} {op : Op} {av : Ks → AV} (he : ∀ e c, OkE ops e i → Ev x true (sel (Oper.looksAt ops ⟨some d, op, ty, pos, aft, none⟩) (done c ++ L)) (Mf e c) op ty (av c)) (hdn : Nat.blt d x.n = true)
    (hMf : ∀ e c, Mf (addE e i) c = Mf e c) (hi : ∀ c c' : Ks, (∀ k, (k = i ∨ anc ops k i = true) → c k = c' k) → av c = av c') (next : DM x ops L Mf R (i + 1) rest (fun c => (d, true, av c) :: done c)) :
    DM x ops L Mf R i (⟨some d, op, ty, pos, aft, none⟩ :: rest) done := DM.pure rfl hdn (fun _ => .inl ⟨rfl, rfl⟩) (fun e c hk _ => Sv.ev (he e c hk)) hMf hi next
theorem DM.qg {d : Tmp} {op : Op} {av : Ks → AV} {j : Nat} {t : Tmp} {gb b want : Bool} (hj : (ops[j]?).bind (·.dst) = some t) (hl : ∀ c, Vl.look (sel (Oper.looksAt ops ⟨some d, op, ty, pos, aft, some (j, want)⟩) (done c ++ L)) t = some (gb, .lit (.bool b)))
    (he : ∀ e c, OkE ops e i → Ev x (gb && (b == want)) (sel (Oper.looksAt ops ⟨some d, op, ty, pos, aft, some (j, want)⟩) (done c ++ L)) (Mf e c) op ty (av c)) (hdn : Nat.blt d x.n = true)
    (hMf : ∀ e c, Mf (addE e i) c = Mf e c) (hi : ∀ c c' : Ks, (∀ k, (k = i ∨ anc ops k i = true) → c k = c' k) → av c = av c') (next : DM x ops L Mf R (i + 1) rest (fun c => (d, gb && (b == want), av c) :: done c)) :
    DM x ops L Mf R i (⟨some d, op, ty, pos, aft, some (j, want)⟩ :: rest) done := DM.pure rfl hdn (fun c => .inr ⟨j, want, t, gb, b, rfl, hj, hl c, rfl⟩) (fun e c hk hb => Sv.ev ((he e c hk).strip hb)) hMf hi next
theorem DM.callp {f : FuncId} {d : Tmp} {os : List Operand} {ats : Array TypeId} {avs : Ks → List AV} {r : Ks → AV} (hc : ∀ c, FnP x.P f (avs c) (r c)) (ha : ∀ c, ArgsOv (sel (Oper.looksAt ops ⟨some d, .call ⟨.value (.func f), os.toArray, ats⟩, ty, pos, aft, none⟩) (done c ++ L)) os (avs c)) (hdn : Nat.blt d x.n = true)
    (hMf : ∀ e c, Mf (addE e i) c = Mf e c) (hi : ∀ c c' : Ks, (∀ k, (k = i ∨ anc ops k i = true) → c k = c' k) → r c = r c') (next : DM x ops L Mf R (i + 1) rest (fun c => (d, true, r c) :: done c)) :
    DM x ops L Mf R i (⟨some d, .call ⟨.value (.func f), os.toArray, ats⟩, ty, pos, aft, none⟩ :: rest) done := DM.pure rfl hdn (fun _ => .inl ⟨rfl, rfl⟩) (fun e c _ _ => Sv.callp (hc c) (ha c)) hMf hi next
theorem DM.callg {f : FuncId} {d : Tmp} {os : List Operand} {ats : Array TypeId} {avs : Ks → List AV} {r : Ks → AV} {j : Nat} {t : Tmp} {gb b want : Bool} (hj : (ops[j]?).bind (·.dst) = some t)
    (hl : ∀ c, Vl.look (sel (Oper.looksAt ops ⟨some d, .call ⟨.value (.func f), os.toArray, ats⟩, ty, pos, aft, some (j, want)⟩) (done c ++ L)) t = some (gb, .lit (.bool b)))
    (hc : ∀ c, (gb && (b == want)) = true → FnP x.P f (avs c) (r c)) (ha : ∀ c, (gb && (b == want)) = true → ArgsOv (sel (Oper.looksAt ops ⟨some d, .call ⟨.value (.func f), os.toArray, ats⟩, ty, pos, aft, some (j, want)⟩) (done c ++ L)) os (avs c)) (hdn : Nat.blt d x.n = true)
    (hMf : ∀ e c, Mf (addE e i) c = Mf e c) (hi : ∀ c c' : Ks, (∀ k, (k = i ∨ anc ops k i = true) → c k = c' k) → r c = r c') (next : DM x ops L Mf R (i + 1) rest (fun c => (d, gb && (b == want), r c) :: done c)) :
    DM x ops L Mf R i (⟨some d, .call ⟨.value (.func f), os.toArray, ats⟩, ty, pos, aft, some (j, want)⟩ :: rest) done :=
  DM.pure rfl hdn (fun c => .inr ⟨j, want, t, gb, b, rfl, hj, hl c, rfl⟩) (fun e c _ hb => Sv.callp (hc c hb) (ha c hb)) hMf hi next
theorem DM.bs {d : Tmp} {T E k bytes n : Nat} {z : Value} {ps : List (Nat × Operand)} {es : Ks → List AV} (hT : x.P.underlying T = some (.slice E)) (hE : Ty x.P E k bytes z)
    (hp : ∀ c, PartsOv (sel (Oper.looksAt ops ⟨some d, .buildSlice T n ps.toArray, ty, pos, aft, none⟩) (done c ++ L)) k 0 ps (es c)) (hn : ∀ c, n = (es c).length) (hb : n * k ≤ 16777216) (hk1 : Nat.ble 1 k = true) (hdn : Nat.blt d x.n = true)
    (hMf : ∀ e c, Mf (addE e i) c = Mf e c) (hi : ∀ c c' : Ks, (∀ k, (k = i ∨ anc ops k i = true) → c k = c' k) → es c = es c') (next : DM x ops L Mf R (i + 1) rest (fun c => (d, true, .sl k (es c)) :: done c)) : DM x ops L Mf R i (⟨some d, .buildSlice T n ps.toArray, ty, pos, aft, none⟩ :: rest) done :=
  DM.pure rfl hdn (fun _ => .inl ⟨rfl, rfl⟩) (fun e c _ _ => Sv.bs hT hE (hp c) (hn c) hb hk1) hMf (fun c c' h => by rw [hi c c' h]) next
theorem DM.bsg {d : Tmp} {T E k bytes n : Nat} {z : Value} {ps : List (Nat × Operand)} {es : Ks → List AV} {j : Nat} {t : Tmp} {gb b want : Bool} (hj : (ops[j]?).bind (·.dst) = some t)
    (hl : ∀ c, Vl.look (sel (Oper.looksAt ops ⟨some d, .buildSlice T n ps.toArray, ty, pos, aft, some (j, want)⟩) (done c ++ L)) t = some (gb, .lit (.bool b))) (hT : x.P.underlying T = some (.slice E)) (hE : Ty x.P E k bytes z)
    (hp : ∀ c, (gb && (b == want)) = true → PartsOv (sel (Oper.looksAt ops ⟨some d, .buildSlice T n ps.toArray, ty, pos, aft, some (j, want)⟩) (done c ++ L)) k 0 ps (es c)) (hn : ∀ c, n = (es c).length) (hb : n * k ≤ 16777216) (hk1 : Nat.ble 1 k = true) (hdn : Nat.blt d x.n = true)
    (hMf : ∀ e c, Mf (addE e i) c = Mf e c) (hi : ∀ c c' : Ks, (∀ k, (k = i ∨ anc ops k i = true) → c k = c' k) → es c = es c') (next : DM x ops L Mf R (i + 1) rest (fun c => (d, gb && (b == want), .sl k (es c)) :: done c)) : DM x ops L Mf R i (⟨some d, .buildSlice T n ps.toArray, ty, pos, aft, some (j, want)⟩ :: rest) done :=
  DM.pure rfl hdn (fun c => .inr ⟨j, want, t, gb, b, rfl, hj, hl c, rfl⟩) (fun e c _ hb' => Sv.bs hT hE (hp c hb') (hn c) hb hk1) hMf (fun c c' h => by rw [hi c c' h]) next

theorem DM.eff0 {op : Op} (hW : ∀ e c, OkE ops e i → ∀ L', (∀ t p, Vl.look (sel (Oper.looksAt ops ⟨none, op, ty, pos, aft, none⟩) (done c ++ L)) t = some p → Vl.look L' t = some p) → ∀ Q : Exit → Act → World → Prop,
      W x L' (Mf (addE e i) c) (wpList x.P ops Q []) → W x L' (Mf e c) (wpList x.P ops Q [⟨none, op, ty, pos, aft, none⟩]))
    (next : DM x ops L Mf R (i + 1) rest (fun c => (x.n, false, .lit undef) :: done c)) : DM x ops L Mf R i (⟨none, op, ty, pos, aft, none⟩ :: rest) done := by
  refine ⟨fun c => (x.n, false, .lit undef), fun c => rfl, fun _ _ _ => rfl, ?_, next⟩
  intro e c hk L' a w hsub hs
  refine stepE_of rfl ?_
  refine hW e c hk L' hsub _ ?_ a w hs
  exact fun a' w' hs' => ⟨rfl, c, fun _ _ => rfl, hs'.ghost⟩
theorem DM.eff1 {op : Op} {d : Tmp} {av : Ks → AV} (hdn : Nat.blt d x.n = true) (hi : ∀ c c' : Ks, (∀ k, (k = i ∨ anc ops k i = true) → c k = c' k) → av c = av c')
    (hW : ∀ e c, OkE ops e i → ∀ L', (∀ t p, Vl.look (sel (Oper.looksAt ops ⟨some d, op, ty, pos, aft, none⟩) (done c ++ L)) t = some p → Vl.look L' t = some p) → ∀ Q : Exit → Act → World → Prop,
      (∀ z M', List.Perm M' (Mf (addE e i) (upd c i z)) → W x ((d, true, av (upd c i z)) :: L') M' (wpList x.P ops Q [])) → W x L' (Mf e c) (wpList x.P ops Q [⟨some d, op, ty, pos, aft, none⟩]))
    (next : DM x ops L Mf R (i + 1) rest (fun c => (d, true, av c) :: done c)) : DM x ops L Mf R i (⟨some d, op, ty, pos, aft, none⟩ :: rest) done := by
  refine ⟨fun c => (d, true, av c), fun c => ⟨rfl, hdn⟩, fun c c' h => congrArg (fun a => (d, true, a)) (hi c c' h), ?_, next⟩
  intro e c hk L' a w hsub hs
  refine stepE_of rfl ?_
  refine hW e c hk L' hsub _ ?_ a w hs
  intro z M' hp a' w' hs'
  exact ⟨rfl, upd c i z, fun k hk => if_neg hk, (hs'.perm hp)⟩
end rules
end draw
end Go.Vl
end

section
set_option linter.unusedVariables false
set_option linter.unusedSimpArgs false
set_option linter.unusedSectionVars false
namespace Go.Vl

/-- the first letter of a text, and its width -/
def dec (l : List UInt8) : Nat × Nat := Utf8.decode ⟨l.toArray⟩ 0

section iter
variable {x : Cx} {L : List (Tmp × Bool × AV)} {M : List ME} {ops : Array Oper} {Q : Exit → Act → World → Prop} {rest : List Oper} {ty : TypeId} {pos : String} {aft : Array Edge}

/-! ### bytes as_ a string -/
theorem RepE.bytes {w : World} {N : List Nat} : ∀ {l : List UInt8} {row : List Value}, RepE w N 1 (l.map AV.u8) row → row.take l.length = l.map fun b => Value.int .u8 (b.toNat : Int)
  | [], row, _ => by simp
  | b :: l, row, h => by
    simp only [List.map_cons, RepE, RepC] at h
    obtain ⟨h1, h2, h3⟩ := h
    have ih := RepE.bytes h3
    match row, h1 with
    | v :: row, _ =>
      simp [Value.cells] at h2
      subst h2
      simp only [List.drop_succ_cons, List.drop_zero] at ih
      simp [ih]

end iter
end Go.Vl
end

section
set_option linter.unusedVariables false
set_option linter.unusedSimpArgs false
namespace Go.Vl

def runesN : Nat → List UInt8 → List Nat
  | 0, _ => []
  | _ + 1, [] => []
  | n + 1, b :: l => (dec (b :: l)).1 :: runesN n ((b :: l).drop (dec (b :: l)).2)
/-- the letters of a text -/
def runes (l : List UInt8) : List Nat := runesN l.length l

/-! ### how many letters -/
/-- the letter's value, and whether bytes are such a letter -/
def v2 (a b : UInt8) : Nat := (a.toNat % 32) * 64 + b.toNat % 64
def ct (b : UInt8) : Bool := b.toNat / 64 == 2
def k2 (a b : UInt8) : Bool := a.toNat / 32 == 6 && ct b && decide (v2 a b ≥ 128)
end Go.Vl
end

section
set_option linter.unusedVariables false
set_option linter.unusedSimpArgs false
namespace Go.Vl

def o8 (n : Nat) : UInt8 := UInt8.ofNat n
/-- the bytes of a letter that is one -/
def encN (c : Nat) : List UInt8 :=
  if c < 128 then [o8 c]
  else if c < 2048 then [o8 (192 + c / 64), o8 (128 + c % 64)]
  else if c < 65536 then [o8 (224 + c / 4096), o8 (128 + c / 64 % 64), o8 (128 + c % 64)]
  else [o8 (240 + c / 262144), o8 (128 + c / 4096 % 64), o8 (128 + c / 64 % 64), o8 (128 + c % 64)]
/-- the bytes of whatever number -/
def enc (r : Int) : List UInt8 := encN (if Utf8.valid r then r.toNat else 65533)

/-! ### the bytes as_ the program reckons them -/
/-! ### Clean -/
end Go.Vl
end

section
set_option linter.unusedVariables false
set_option linter.unusedSimpArgs false
namespace Go.Vl

/-! ### what is encoded is decoded -/
/-- letters that Clean leaves -/
def Good (c : Nat) : Prop := Utf8.valid (c : Int) = true ∧ c ≠ 0 ∧ c ≠ 13
/-! ### Text -/
/-! ### the letters that the laws draw -/
end Go.Vl
end

section
set_option linter.unusedVariables false
set_option linter.unusedSimpArgs false
namespace Go.Vl
open Go Go.Sem
variable {x : Cx} {L : List (Tmp × Bool × AV)} {M : List ME} {ops : Array Oper} {Q : Exit → Act → World → Prop} {rest : List Oper}
/-- an operation that is passed over: its slot counts as_ a truth value that is not known -/
theorem W.gnob {d : Tmp} {op : Op} {ty : TypeId} {pos : String} {aft : Array Edge} {j : Nat} {want b : Bool} {t : Tmp} (hj : (ops[j]?).bind (·.dst) = some t) (hl : look L t = some (true, .lit (.bool b))) (hb : b ≠ want) (hd : Nat.blt d x.n = true)
    (next : W x ((d, false, .lit (.bool false)) :: L) M (wpList x.P ops Q rest)) : W x L M (wpList x.P ops Q (⟨some d, op, ty, pos, aft, some (j, want)⟩ :: rest)) := by
  intro a w hs
  have hw := guard_of (d := some d) (op := op) (ty := ty) (pos := pos) (aft := aft) (want := want) hj hl hs
  refine wpList_cons_skip (by rw [hw]; simpa using hb) ?_
  exact next _ _ (hs.put hd false _ undef (fun h => by cases h) (fun _ => rfl))

theorem getD_map (l : List Int) (i : Nat) (h : i < l.length) : (l.map AV.int)[i]? = some (AV.int (l.getD i 0)) := by
  rw [List.getD_eq_getElem?_getD, List.getElem?_map, List.getElem?_eq_getElem h]; rfl
end Go.Vl
end

section
set_option linter.unusedVariables false
set_option linter.unusedSimpArgs false
set_option linter.unusedSectionVars false
namespace Go.Vl
open Go Go.Sem
variable {x : Cx} {g : Bool} {L : List (Tmp × Bool × AV)} {M : List ME} {ty : TypeId}

def PlacesAt (P : Program) : List Field → List (Nat × Nat) → Prop
  | [], [] => True
  | f :: fs, (o, k) :: ps => f.offset = o ∧ (∀ w, (sizeOf f.type).run P w = .ok k w) ∧ PlacesAt P fs ps
  | _, _ => False
def StructAt (P : Program) (T : TypeId) (pl : List (Nat × Nat)) : Prop := ∃ fields : List Field, P.underlying T = some (.struct fields.toArray) ∧ PlacesAt P fields pl
theorem PlacesAt.run {P : Program} : ∀ {fs : List Field} {ps : List (Nat × Nat)}, PlacesAt P fs ps → ∀ w, (fs.mapM (fun (f : Field) => (do Pure.pure (f.offset, ← sizeOf f.type) : Sem (Nat × Nat)))).run P w = .ok ps w
  | [], [], _, w => by simp
  | f :: fs, (o, k) :: ps, h, w => by
    obtain ⟨rfl, h1, h2⟩ := h
    rw [List.mapM_cons]
    simp only [Sem.run_bind, h1, Result.andThen_ok, Sem.run_pure, h2.run w]
  | [], _ :: _, h, _ => h.elim
  | _ :: _, [], h, _ => h.elim

def BuildOv (g : Bool) (L : List (Tmp × Bool × AV)) (pl : List (Nat × Nat)) : List (Nat × Operand) → List AV → List AV → Prop
  | [], cs, res => cs = res
  | (f, o) :: ps, cs, res => ∃ off k av, pl[f]? = some (off, k) ∧ Ov g L o av ∧ av.okc = true ∧ av.cells.length = k ∧ Nat.ble (off + k) cs.length = true ∧ BuildOv g L pl ps (Vl.splice cs off av.cells) res

theorem BuildOv.run {a : Act} {w : World} (hs : St x L M a w) {pl : List (Nat × Nat)} : ∀ {ps : List (Nat × Operand)} {cs res : List AV} {cells : Array Value}, BuildOv true L pl ps cs res → RepL w (bl M ++ x.F) cs cells.toList →
    ∃ cells', Instr.fill (pl.toArray[·]?) cells (ps.map fun (i, o) => (i, a.eval o)) = some cells' ∧ RepL w (bl M ++ x.F) res cells'.toList
  | [], cs, res, cells, h, hr => by
    have h' : cs = res := h
    subst h'
    exact ⟨cells, rfl, hr⟩
  | (f, o) :: ps, cs, res, cells, h, hr => by
    obtain ⟨off, k, av, h1, h2, ho, hk, hl, h3⟩ := h
    have hv := h2.rep rfl hs
    have hvl := hv.toL ho
    have hlen : (a.eval o).cells.size = k := by have := hvl.length; simp at this; omega
    have hcl := hr.length
    have hl' := Nat.le_of_ble_eq_true hl
    simp at hcl
    have hfold := foldl_set (a.eval o).cells.toList off 0 cells (by simp [hlen]; omega)
    rw [Nat.add_zero] at hfold
    obtain ⟨cells', hf, hres⟩ := BuildOv.run hs (cells := wr cells off (a.eval o).cells.toList) h3 (hr.splice hvl)
    refine ⟨cells', ?_, hres⟩
    have hpl : (pl.toArray[f]? : Option (Nat × Nat)) = some (off, k) := by simpa using h1
    simp only [List.map_cons, Instr.fill, hpl]
    have hne : ¬ ((a.eval o).cells.size ≠ k ∨ off + (a.eval o).cells.size > cells.size) := by rw [hlen]; omega
    rw [if_neg (by simpa using hne)]
    rw [← hf]
    congr 1
    rw [← hfold]
    rw [← Array.foldl_toList, Array.toList_zipIdx]

theorem RepL.lits {w : World} {N : List Nat} : ∀ (vs : List Value), vs.all (fun v => shV v == 0) = true → RepL w N (vs.map .lit) vs
  | [], _ => by simp [RepL]
  | v :: vs, h => by
    simp only [List.all_cons, Bool.and_eq_true, beq_iff_eq] at h
    simp only [List.map_cons, RepL]
    refine ⟨v, vs, rfl, ⟨h.1, h.1, ?_⟩, RepL.lits vs h.2⟩
    simp only [RepC]
    cases v <;> first | rfl | (simp [shV] at h)

theorem Ev.build {T k bytes : Nat} {z : Value} {pl : List (Nat × Nat)} {ps : List (Nat × Operand)} {res : List AV} (hT : Ty x.P T k bytes z) (hst : StructAt x.P T pl) (hz : z.cells.toList.all (fun v => shV v == 0) = true)
    (hb : g = true → BuildOv true L pl ps (z.cells.toList.map .lit) res) : Ev x g L M (.build T ps.toArray) ty (.agg res) := fun a w hs hg => by
  obtain ⟨fields, hT', hp⟩ := hst
  obtain ⟨cells', hf, hres⟩ := BuildOv.run hs (cells := z.cells) (hb hg) (RepL.lits _ hz)
  have hf' : Instr.fill (pl.toArray[·]?) z.cells (ps.toArray.map fun p => (p.1, a.eval p.2)).toList = some cells' := by rw [← hf]; congr 1; simp
  refine ⟨.agg cells', ?_, rfl, by simp only [RepC]; exact hres⟩
  have hm : (fields.toArray.mapM (fun (f : Field) => (do Pure.pure (f.offset, ← sizeOf f.type) : Sem (Nat × Nat)))).run x.P w = .ok pl.toArray w := by
    rw [List.mapM_toArray]
    have h2 := hp.run w
    generalize (fields.mapM (fun (f : Field) => (do Pure.pure (f.offset, ← sizeOf f.type) : Sem (Nat × Nat)))) = m at h2 ⊢
    simp [h2]
  simp only [execOp, Instr.build, Sem.run_bind, hT.zero, run_underlying hT', Result.andThen_ok, hm]
  rw [hf']
  simp

theorem Ev.max {o1 o2 : Operand} {T T' : TypeId} {ki : IntKind} {p q : Int} (h1 : Ov g L o1 (.lit (.int ki p))) (h2 : Ov g L o2 (.lit (.int ki q))) : Ev x g L M (.call ⟨.builtin .max, #[o1, o2], #[T, T']⟩) ty (.lit (.int ki (if q > p then q else p))) := Ev.pure fun a w hs hg => by
  simp [execOp, resolve, invoke, builtin, h1.lit hg hs, h2.lit hg hs, Builtin.max_, Builtin.max2]

/-- a struct of two strings -/
def Str2 (P : Program) (T : TypeId) : Prop := ∃ f1 f2 : Field, P.underlying T = some (.struct (P.fieldsOf T)) ∧ (P.fieldsOf T).toList = [f1, f2] ∧ P.stoodInHeld T = false ∧ P.eqGuardType P.depth T = false ∧
  f1.name ≠ "_" ∧ f2.name ≠ "_" ∧ f1.offset = 0 ∧ f2.offset = 1 ∧ P.underlying f1.type = some .string ∧ P.underlying f2.type = some .string
theorem Str2.of {P : Program} {T : TypeId} {f1 f2 : Field} (hU : P.underlying T = some (.struct #[f1, f2])) (hp : P.stoodInHeld T = false) (hm : P.eqGuardType P.depth T = false) (n1 : f1.name ≠ "_") (n2 : f2.name ≠ "_") (k1 : f1.offset = 0) (k2 : f2.offset = 1)
    (u1 : P.underlying f1.type = some .string) (u2 : P.underlying f2.type = some .string) : Str2 P T := by
  have h : P.fieldsOf T = #[f1, f2] := by rw [Program.fieldsOf, hU]
  exact ⟨f1, f2, by rw [h, hU], by rw [h], hp, hm, n1, n2, k1, k2, u1, u2⟩
theorem Rep.agg2 {w : World} {N : List Nat} {a b : List UInt8} {v : Value} (h : Rep w N (.agg [.str a, .str b]) v) : v = .agg #[.string ⟨a.toArray⟩, .string ⟨b.toArray⟩] := by
  obtain ⟨h1, h2⟩ := h
  cases v <;> simp [AV.sh, shV] at h1
  simp only [RepC, RepL] at h2
  rename_i cells
  obtain ⟨v1, vs1, e1, ⟨_, _, r1⟩, v2, vs2, e2, ⟨_, _, r2⟩, e3⟩ := h2
  subst e3
  subst e2
  obtain rfl := List.cons.inj r1 |>.1
  obtain rfl := List.cons.inj r2 |>.1
  congr 1
  exact Array.toList_inj.1 (by simpa [Value.cells] using e1)
theorem run_part_str {P : Program} {T : TypeId} {w : World} {cs : Array Value} {o : Nat} {v : Value} (hT : P.underlying T = some .string) (hv : cs[o]? = some v) : (part T cs o).run P w = .ok v w := by
  have := IsAgg.run (P := P) (T := T) (b := false) ⟨_, hT, rfl⟩ w
  simp [part, this, hv]
theorem Ev.ne2 {o1 o2 : Operand} {T T' : TypeId} {a b c d : List UInt8} (hS : Str2 x.P T) (h1 : Ov g L o1 (.agg [.str a, .str b])) (h2 : Ov g L o2 (.agg [.str c, .str d])) :
    Ev x g L M (.binOp .neq T o1 o2 T') ty (.lit (.bool (!(a == c && b == d)))) := Ev.pure fun ac w hs hg => by
  obtain ⟨f1, f2, hT, hf, hp, hm, n1, n2, k1, k2, u1, u2⟩ := hS
  have e1 := (h1.rep hg hs).agg2
  have e2 := (h2.rep hg hs).agg2
  simp only [execOp, e1, e2, Sem.run_bind, run_eqGuard_agg w .neq T o1 o2 _ _ hm, Result.andThen_ok, run_neq_struct, run_equalIn_agg w 9999 T _ _ hT hp, hf, Op.eqFields]
  have p1 : ∀ s t : Value, (part f1.type #[s, t] f1.offset).run x.P w = .ok s w := fun s t => run_part_str u1 (by rw [k1]; rfl)
  have p2 : ∀ s t : Value, (part f2.type #[s, t] f2.offset).run x.P w = .ok t w := fun s t => run_part_str u2 (by rw [k2]; rfl)
  rw [if_pos n1, if_pos n2]
  simp only [Sem.run_bind, p1, p2, Result.andThen_ok, run_equalIn_string w 9998 _ _ _ u1]
  cases h : (a == c)
  · simp [ByteArray.toList_mk, h]
  · simp [ByteArray.toList_mk, h, p1, p2, run_equalIn_string w 9998 _ _ _ u2]
    by_cases h' : b = d <;> simp [h']
end Go.Vl
end

section
set_option linter.unusedVariables false
set_option linter.unusedSimpArgs false
namespace Go.Vl
abbrev Dc := List UInt8 × List UInt8
abbrev dav (d : Dc) : AV := .agg [.str d.1, .str d.2]
theorem getD_mapG {α : Type} (f : α → AV) (z : α) (l : List α) (i : Nat) (h : i < l.length) : (l.map f)[i]? = some (f (l.getD i z)) := by
  rw [List.getD_eq_getElem?_getD, List.getElem?_map, List.getElem?_eq_getElem h]; rfl
theorem getD_memG {α : Type} (z : α) (l : List α) (i : Nat) (h : i < l.length) : l.getD i z ∈ l := by
  rw [List.getD_eq_getElem?_getD, List.getElem?_eq_getElem h]; exact List.getElem_mem h
theorem take_getDG {α : Type} (z : α) (l : List α) (i : Nat) (h : i < l.length) : l.take (i + 1) = l.take i ++ [l.getD i z] := by
  rw [List.take_add_one, List.getD_eq_getElem?_getD, List.getElem?_eq_getElem h]; rfl
theorem pick_mod (l : List (List UInt8)) (z : Int) (n : Nat) (h : l.length = n) (hn : 0 < n) : ∃ s ∈ l, (l.map AV.str)[(z % (n : Int)).toNat]? = some (.str s) := by
  have h1 := Int.emod_nonneg z (show (n : Int) ≠ 0 by omega)
  have h2 := Int.emod_lt_of_pos z (show (0 : Int) < n by omega)
  exact ⟨_, getD_memG [] l _ (by omega), getD_mapG AV.str [] l _ (by omega)⟩
theorem any_take_false {α : Type} (p : α → Bool) (l : List α) (h : ∀ d ∈ l, p d = false) : l.any p = false := by
  rw [List.any_eq_false]; intro d hd; rw [h d hd]; simp
def only (ns : List (List UInt8)) : List Dc → List Dc
  | [] => []
  | d :: t => if (ns.any fun s => d.1 == s) && !(t.any fun e => e.1 == d.1) then d :: only ns t else only ns t
abbrev nmc : List UInt8 := [99, 111, 108, 111, 114]
abbrev nma : List UInt8 := [97, 45, 98]
abbrev nms : List (List UInt8) := [nmc, nma]
end Go.Vl
end

section
set_option linter.unusedVariables false
set_option linter.unusedSimpArgs false
set_option linter.unusedSectionVars false
namespace Go.Vl
open Go Go.Sem
section ev
variable {x : Cx} {g : Bool} {L : List (Tmp × Bool × AV)} {M : List ME} {ty : TypeId} {T T' : TypeId} {o1 o2 : Operand}

theorem Ev.nilc {a : Addr} (h1 : Ov g L o1 (.lit (.pointer (some a)))) : Ev x g L M (.nilCheck o1) ty (.lit (.pointer (some a))) := Ev.pure fun ac w hs hg => by
  simp [execOp, h1.lit hg hs]
end ev

/-- what an own row's slice is -/
theorem W.arr_inv {x : Cx} {L : List (Tmp × Bool × AV)} {M : List ME} {R : Act → World → Prop} (i : Nat) {v : Value} {U k : Nat} {es : List AV} (hM : M[i]? = some (.arr v U k es)) (h : ∀ a n c, v = .slice a n c → W x L M R) : W x L M R := fun a w hs => by
  obtain ⟨ad, cap, e, _⟩ := hs.mem.holds _ (List.mem_of_getElem? hM)
  exact h _ _ _ e a w hs
section str
variable {x : Cx} {L : List (Tmp × Bool × AV)} {M : List ME} {ty : TypeId} {T1 T2 : TypeId} {o1 o2 : Operand} {ops : Array Oper} {Q : Exit → Act → World → Prop} {rest : List Oper} {pos : String} {aft : Array Edge}
end str
end Go.Vl
end

section
set_option linter.unusedVariables false
set_option linter.unusedSimpArgs false
namespace Go.Vl
open Go Go.Sem
inductive Nd where
  | mk (name : List UInt8) (attrs : List Dc) (text : List UInt8) (parts : List Nd)
namespace Nd
def name : Nd → List UInt8 | mk n _ _ _ => n
def attrs : Nd → List Dc | mk _ a _ _ => a
def text : Nd → List UInt8 | mk _ _ t _ => t
def parts : Nd → List Nd | mk _ _ _ p => p
mutual
def av : Nd → AV
  | mk n a t p => .agg [.str n, .sl 2 (a.map dav), .str t, .sl 4 (avs p)]
def avs : List Nd → List AV
  | [] => []
  | d :: l => av d :: avs l
end
mutual
def sz : Nd → Nat
  | mk _ a _ p => 1 + a.length + szs p
def szs : List Nd → Nat
  | [] => 0
  | d :: l => sz d + szs l
end
theorem avs_map (l : List Nd) : avs l = l.map av := by
  induction l with
  | nil => rfl
  | cons d l ih => rw [avs, ih]; rfl
abbrev avx (d : Nd) : AV := .agg [.str d.name, .sl 2 (d.attrs.map dav), .str d.text, .sl 4 (d.parts.map av)]
theorem av_eq (d : Nd) : d.av = avx d := by
  cases d with | mk n a t p => rw [av, avs_map]; rfl
theorem sz_eq (d : Nd) : d.sz = 1 + d.attrs.length + szs d.parts := by cases d; rfl
theorem szs_len (l : List Nd) : l.length ≤ szs l := by
  induction l with
  | nil => simp [szs]
  | cons d l ih => rw [szs, List.length_cons, sz_eq]; omega
theorem szs_mem {l : List Nd} {d : Nd} (h : d ∈ l) : d.sz ≤ szs l := by
  induction l with
  | nil => cases h
  | cons e l ih =>
    rw [szs]
    rcases List.mem_cons.1 h with rfl | h
    · omega
    · have := ih h; omega
mutual
def cnt : Nd → Nat
  | mk _ _ _ p => 1 + cnts p
def cnts : List Nd → Nat
  | [] => 0
  | d :: l => cnt d + cnts l
end
mutual
theorem cnt_le : ∀ d : Nd, d.cnt ≤ d.sz
  | mk _ a _ p => by have := cnts_le p; simp only [cnt, sz]; omega
theorem cnts_le : ∀ l : List Nd, cnts l ≤ szs l
  | [] => Nat.le_refl _
  | d :: l => by have := cnt_le d; have := cnts_le l; simp only [cnts, szs]; omega
end
mutual
def pths : Nd → List (List Int)
  | mk _ _ _ p => pthsFrom 0 p
def pthsFrom : Nat → List Nd → List (List Int)
  | _, [] => []
  | k, d :: l => [(k : Int)] :: ((pths d).map ((k : Int) :: ·) ++ pthsFrom (k + 1) l)
end
theorem pths_eq (d : Nd) : d.pths = pthsFrom 0 d.parts := by cases d; rfl
mutual
theorem pths_len : ∀ d : Nd, d.pths.length + 1 = d.cnt
  | mk _ _ _ p => by have := pthsFrom_len p 0; simp only [pths, cnt]; omega
theorem pthsFrom_len : ∀ (l : List Nd) (k : Nat), (pthsFrom k l).length = cnts l
  | [], _ => rfl
  | d :: l, k => by have h1 := pths_len d; have h2 := pthsFrom_len l (k + 1); simp only [pthsFrom, cnts, List.length_cons, List.length_append, List.length_map]; omega
end
mutual
theorem pths_deep : ∀ (d : Nd) (p : List Int), p ∈ d.pths → p.length < d.sz
  | mk _ a _ q, p, h => by have := pthsFrom_deep q 0 p h; simp only [sz]; omega
theorem pthsFrom_deep : ∀ (l : List Nd) (k : Nat) (p : List Int), p ∈ pthsFrom k l → p.length ≤ szs l
  | [], _, _, h => by simp [pthsFrom] at h
  | d :: l, k, p, h => by
    simp only [pthsFrom, List.mem_cons, List.mem_append, List.mem_map] at h
    have h1 := sz_eq d
    rcases h with rfl | ⟨q, hq, rfl⟩ | h
    · simp only [szs, List.length_singleton]; omega
    · have := pths_deep d q hq; simp only [szs, List.length_cons]; omega
    · have := pthsFrom_deep l (k + 1) p h; simp only [szs]; omega
end
def dflt : Nd := mk [] [] [] []
theorem at_av (l : List Nd) (i : Nat) (h : i < l.length) : (l.map av)[i]? = some (avx (l.getD i dflt)) := by
  rw [← av_eq]; exact getD_mapG av dflt l i h
theorem at_sz (l : List Nd) (i : Nat) (h : i < l.length) : (l.getD i dflt).sz ≤ szs l := szs_mem (getD_memG dflt l i h)
end Nd
theorem okc_davs (l : List Dc) : ∀ e ∈ l.map dav, e.okc = true := by
  intro e he
  obtain ⟨d, _, rfl⟩ := List.mem_map.1 he
  rfl
theorem Ev.lda1g {x : Cx} {g : Bool} {L : List (Tmp × Bool × AV)} {M : List ME} {ty T : TypeId} {o1 : Operand} (i q o : Nat) {v : Value} {U k j : Nat} {es : List AV} {e c : AV} (h1 : Ov g L o1 (.aptr v j)) (hM : M[i]? = some (ME.arr v U k es)) (hq : g = true → es[q]? = some e) (hj : g = true → j = q * k + o) (ho : e.okc = true) (hk : e.cells.length = k) (hc : e.cells[o]? = some c)
    (hT : IsAgg x.P T false) : Ev x g L M (.load T o1) ty c := fun a w hs hg => Ev.lda1 i q o h1 hM (hq hg) (hj hg) ho hk hc hT a w hs hg
/-- a slice held against nil: not known, but what is nil has no element -/
theorem W.slnil {x : Cx} {L : List (Tmp × Bool × AV)} {M : List ME} {ops : Array Oper} {Q : Exit → Act → World → Prop} {rest : List Oper} {ty : TypeId} {pos : String} {aft : Array Edge} {d : Tmp} {T T' E k : TypeId} {o1 : Operand} {es : List AV}
    (h1 : Ov true L o1 (.sl k es)) (hT : x.P.underlying T = some (.slice E)) (hd : Nat.blt d x.n = true) (next : ∀ q : Bool, (q = true → es = []) → W x ((d, true, .lit (.bool q)) :: L) M (wpList x.P ops Q rest)) :
    W x L M (wpList x.P ops Q (⟨some d, .binOp .eql T o1 (.const (.slice none 0 0)) T', ty, pos, aft, none⟩ :: rest)) := by
  refine W.opv (ι := { q : Bool // q = true → es = [] }) (fun _ => M) (fun q => .lit (.bool q.1)) hd ?_ (fun q => next q.1 q.2)
  intro a w hs
  obtain ⟨ad, cap, ev, h3, h4, h5⟩ := (h1.rep rfl hs).sl_inv
  have hv : a.eval (.const (.slice none 0 0)) = .slice none 0 0 := rfl
  refine ⟨.bool ad.isNone, w, ⟨ad.isNone, fun hq => ?_⟩, ?_, hs, Rep.lit _⟩
  · rcases h5 with h5 | ⟨b, off, cur, U, fr, rfl, _⟩
    · exact h5
    · cases hq
  · simp only [execOp, ev, hv, eqGuard_at_slice, Sem.run_bind, Sem.run_pure, Result.andThen_ok]
    simp [binOp, Op.equal, Op.maxDepth, run_equalIn_slice_nil w 9999 T E ad es.length cap hT]
end Go.Vl
end

section
set_option linter.unusedVariables false
set_option linter.unusedSimpArgs false
namespace Go.Vl
/-- nil stands for the row of no element -/
def NilL : List AV → List AV → Prop
  | [], [] => True
  | a :: as_, b :: bs => (a = b ∨ (a = .lit (.slice none 0 0) ∧ ∃ k, b = .sl k [])) ∧ NilL as_ bs
  | _, _ => False
theorem NilL.rep {w : World} {N : List Nat} : ∀ {as_ bs : List AV} {row : List Value}, NilL as_ bs → RepL w N as_ row → RepL w N bs row
  | [], [], _, _, hr => hr
  | a :: as_, b :: bs, row, h, hr => by
    simp only [RepL] at hr ⊢
    obtain ⟨v, vs, e, ⟨h1, h2, h3⟩, h4⟩ := hr
    refine ⟨v, vs, e, ?_, NilL.rep h.2 h4⟩
    rcases h.1 with rfl | ⟨rfl, k, rfl⟩
    · exact ⟨h1, h2, h3⟩
    · have hv0 : [v] = (Value.slice none 0 0).cells.toList := by simpa only [RepC] using h3
      have hv : [v] = [Value.slice none 0 0] := hv0
      obtain rfl := (List.cons.inj hv).1
      exact ⟨rfl, rfl, by simp only [RepC]; exact ⟨none, 0, rfl, Nat.le_refl _, by simp [maxLen], .inl trivial⟩⟩
  | [], _ :: _, _, h, _ => h.elim
  | _ :: _, [], _, h, _ => h.elim
theorem W.nils {x : Cx} {L : List (Tmp × Bool × AV)} {M : List ME} {R : Act → World → Prop} {t : Tmp} {g : Bool} {cs cs' : List AV} (h : look L t = some (g, .agg cs)) (hc : NilL cs cs') (next : W x ((t, g, .agg cs') :: L) M R) : W x L M R := by
  intro a w hs
  refine next a w ⟨hs.defers, hs.size, ?_, hs.mem, hs.fr, hs.old⟩
  intro u g' av' hl
  rw [look_cons] at hl
  by_cases e : t = u
  · subst e; rw [if_pos rfl] at hl; cases hl
    have h1 := hs.slots t g _ h
    refine ⟨fun hg => ?_, h1.2⟩
    obtain ⟨h2, h3⟩ := h1.1 hg
    refine ⟨h2, ?_⟩
    simp only [RepC] at h3 ⊢
    exact hc.rep h3
  · rw [if_neg e] at hl; exact hs.slots u g' av' hl
namespace Nd
/-- path p leads to d -/
def atP : List Nd → List Int → Nd → Prop
  | _, [], _ => False
  | l, k :: p, d => ∃ i : Nat, k = (i : Int) ∧ i < l.length ∧ ((p = [] ∧ l.getD i dflt = d) ∨ (p ≠ [] ∧ atP (l.getD i dflt).parts p d))
theorem mem_paths : ∀ (l : List Nd) (k : Nat) (p : List Int), p ∈ pthsFrom k l → ∃ (i : Nat) (r : List Int), p = ((k + i : Nat) : Int) :: r ∧ i < l.length ∧ (r = [] ∨ r ∈ pthsFrom 0 (l.getD i dflt).parts)
  | [], k, p, h => by simp [pthsFrom] at h
  | d :: l, k, p, h => by
    simp only [pthsFrom, List.mem_cons, List.mem_append, List.mem_map] at h
    rcases h with rfl | ⟨q, hq, rfl⟩ | h
    · exact ⟨0, [], by simp, by simp, .inl rfl⟩
    · exact ⟨0, q, by simp, by simp, .inr (by rw [pths_eq] at hq; exact hq)⟩
    · obtain ⟨i, r, h1, h2, h3⟩ := mem_paths l (k + 1) p h
      exact ⟨i + 1, r, by rw [h1]; congr 2; omega, by simp; omega, by simpa using h3⟩
mutual
def wf : Nd → Prop
  | mk n _ _ p => (n = [] → p = []) ∧ wfs p
def wfs : List Nd → Prop
  | [] => True
  | d :: l => wf d ∧ wfs l
end
/-- one path stands ahead of another -/
def bfr : List Int → List Int → Bool
  | _, [] => false
  | [], _ :: _ => true
  | x :: a, y :: b => if x = y then bfr a b else decide (x < y)
theorem bfr_lt (x y : Int) (a b : List Int) (h : x < y) : bfr (x :: a) (y :: b) = true := by
  have : x ≠ y := by omega
  simp [bfr, this, h]
mutual
theorem pths_ord : ∀ d : Nd, (pths d).Pairwise (fun a b => bfr a b = true)
  | mk _ _ _ p => pthsFrom_ord p 0
theorem pthsFrom_ord : ∀ (l : List Nd) (k : Nat), (pthsFrom k l).Pairwise (fun a b => bfr a b = true)
  | [], _ => List.Pairwise.nil
  | d :: l, k => by
    rw [pthsFrom, List.pairwise_cons, List.pairwise_append, List.pairwise_map]
    refine ⟨?_, ?_, pthsFrom_ord l (k + 1), ?_⟩
    · intro p hp
      rcases List.mem_append.1 hp with hp | hp
      · obtain ⟨q, hq, rfl⟩ := List.mem_map.1 hp
        rw [pths_eq] at hq
        obtain ⟨i, r, rfl, _⟩ := mem_paths _ 0 q hq
        simp [bfr]
      · obtain ⟨i, r, rfl, _⟩ := mem_paths _ (k + 1) p hp
        exact bfr_lt _ _ _ _ (by omega)
    · refine (pths_ord d).imp ?_
      intro a b h
      simpa [bfr] using h
    · intro p hp q hq
      obtain ⟨p', _, rfl⟩ := List.mem_map.1 hp
      obtain ⟨i, r, rfl, _⟩ := mem_paths _ (k + 1) q hq
      exact bfr_lt _ _ _ _ (by omega)
end
end Nd
end Go.Vl
end

section
set_option linter.unusedVariables false
set_option linter.unusedSimpArgs false
set_option linter.unusedSectionVars false
namespace Go.Vl
open Go Go.Sem
section callg
variable {x : Cx} {L : List (Tmp × Bool × AV)} {M : List ME} {ops : Array Oper} {Q : Exit → Act → World → Prop} {rest : List Oper}
theorem W.callg {f : FuncId} {d : Tmp} {fo : Operand} {caps : List Value} {os : List Operand} {ats : Array TypeId} {ty : TypeId} {pos : String} {aft : Array Edge} {avs avs' : List AV} {r : AV} {Min Mr : List ME} {j : Nat} {want : Bool} {t : Tmp} {gb b G : Bool}
    (hj : (ops[j]?).bind (·.dst) = some t) (hl : look L t = some (gb, .lit (.bool b))) (hG : G = (gb && (b == want)))
    (hc : G = true → FnC x.P f avs' Min (fun r' M' => r' = r ∧ M' = Min)) (hfo : G = true → Ov true L fo (.lit (.func (.func f) #[] caps.toArray))) (ha : G = true → ArgsOv L os avs) (he : avs' = avs ++ caps.map .lit) (hM : List.Perm M (Min ++ Mr)) (hd : Nat.blt d x.n = true)
    (next : W x ((d, G, r) :: L) M (wpList x.P ops Q rest)) :
    W x L M (wpList x.P ops Q (⟨some d, .call ⟨.value fo, os.toArray, ats⟩, ty, pos, aft, some (j, want)⟩ :: rest)) := by
  intro a w hs
  have hw := guard_of (d := some d) (op := .call ⟨.value fo, os.toArray, ats⟩) (ty := ty) (pos := pos) (aft := aft) (want := want) hj hl hs
  rw [← hG] at hw
  cases hGv : G with
  | true =>
    have h := W.callv (ops := ops) (Q := Q) (rest := rest) (ats := ats) (ty := ty) (pos := pos) (aft := aft) (hc hGv) (hfo hGv) (ha hGv) he hM hd (fun r' M' hp => by
      obtain ⟨rfl, rfl⟩ := hp
      rw [hGv] at next
      exact W.perm hM.symm next) a w hs
    unfold wpList at h ⊢
    rw [if_pos (by rw [hw, hGv])]
    rw [if_pos (by simp [Region.wanted])] at h
    exact h
  | false =>
    refine wpList_cons_skip (by rw [hw, hGv]) ?_
    rw [hGv] at next
    exact next _ _ (hs.put hd false r undef (by simp) (fun _ => rfl))
end callg
/-- AN ARRAY OF THE CALL's OWN IS WRITTEN NO MORE; what else is known of the slots stays. -/
theorem W.freezeA {x : Cx} {L : List (Tmp × Bool × AV)} {M : List ME} {R : Act → World → Prop} {v : Value} {T k : Nat} {es : List AV} {L' : List (Tmp × Bool × AV)} {M1 M2 D : List ME} (hM : List.Perm M (ME.arr v T k es :: (M1 ++ D))) (hL : FSub v k es L L') (hM2 : FrzMs v k es M1 M2) (h : W x (L' ++ L) M2 R) : W x L M R := by
  intro a w hs
  have h1 : St x L' M2 a w := W.freeze (x := x) (R := fun a w => St x L' M2 a w) hM hL hM2 (fun a w hs => hs) a w hs
  have hp2 : List.Perm M (M1 ++ (ME.arr v T k es :: D)) := hM.trans (List.perm_middle.symm)
  have h2 : St x L M1 a w := by
    obtain ⟨hm, hk, hsub⟩ := hs.mem.sub hp2
    exact ⟨hs.defers, hs.size, fun t g av hl => ⟨fun hg => ((hs.slots t g av hl).1 hg).keep hk, (hs.slots t g av hl).2⟩, hm, hs.fr.sub hsub, hs.old⟩
  refine h a w ⟨h1.defers, h1.size, ?_, h1.mem, h1.fr, h1.old⟩
  intro t g av hl
  rw [look_append] at hl
  cases hx : look L' t with
  | some p => rw [hx, Option.some_or] at hl; obtain rfl := Option.some.inj hl; exact h1.slots t g av hx
  | none =>
    rw [hx, Option.none_or] at hl
    have := h2.slots t g av hl
    rw [hM2.bl]
    exact this
/-- the first place where it holds, or -1 -/
def idxI {α : Type} (p : α → Bool) : List α → Int
  | [] => -1
  | a :: l => if p a then 0 else if idxI p l < 0 then -1 else idxI p l + 1
/-- is a text a name? -/
def nameCh (r : Int) : Bool := ((decide (97 ≤ r) && decide (r ≤ 122)) || (decide (48 ≤ r) && decide (r ≤ 57))) || r == 45
def nameOk (s : List UInt8) : Bool := !(((s == [] || decide ((12 : Int) < (s.length : Int))) || decide (((s.getD 0 0).toNat : Int) < 97)) || decide ((122 : Int) < ((s.getD 0 0).toNat : Int))) && !((runes s).any fun r => !(nameCh (r : Int)))
end Go.Vl
end

section
set_option linter.unusedVariables false
set_option linter.unusedSimpArgs false
namespace Go.Vl
structure Rl where
  name : List UInt8
  act : Int
  to : List UInt8
namespace Nd
theorem text_mk (n : List UInt8) (a : List Dc) (t : List UInt8) (q : List Nd) : (mk n a t q).text = t := rfl
/-- is the last one a text? (p: where there is none) -/
def lastT (p : Bool) (l : List Nd) : Bool := match l.getLast? with
  | none => p
  | some d => d.name == []
mutual
/-- texts are not empty, hold nothing, and do not stand side by side (p: does one stand ahead?); elements have no text -/
def apt : Nd → Bool
  | mk _ _ _ q => apts false q
def apts : Bool → List Nd → Bool
  | _, [] => true
  | p, d :: l => (if d.name = [] then (!(d.text == []) && (d.parts.length == 0 && d.attrs.length == 0)) && !p else (d.text == []) && apt d) && apts (d.name == []) l
end
mutual
/-- all texts, one behind the other -/
def wd : Nd → List UInt8
  | mk _ _ _ q => wds q
def wds : List Nd → List UInt8
  | [] => []
  | d :: l => (d.text ++ wd d) ++ wds l
end
mutual
/-- the bytes of all texts, and of all names and values -/
def tsz : Nd → Nat
  | mk _ _ t q => t.length + tszs q
def tszs : List Nd → Nat
  | [] => 0
  | d :: l => tsz d + tszs l
end
mutual
theorem wd_len : ∀ d : Nd, d.text.length + (wd d).length = tsz d
  | mk _ _ t q => by have := wds_len q; simp only [wd, tsz, text_mk]; omega
theorem wds_len : ∀ l : List Nd, (wds l).length = tszs l
  | [] => rfl
  | d :: l => by have := wd_len d; have := wds_len l; simp only [wds, tszs, List.length_append]; omega
end
mutual
/-- have all elements one of these names? -/
def onl (ns : List (List UInt8)) : Nd → Bool
  | mk _ _ _ q => onls ns q
def onls (ns : List (List UInt8)) : List Nd → Bool
  | [] => true
  | d :: l => ((d.name == [] || ns.any fun s => d.name == s) && onl ns d) && onls ns l
end
/-- a node behind others; texts side by side are one -/
def jn1 (out : List Nd) (n : Nd) : List Nd :=
  if n.name = [] ∧ lastT false out = true then out.dropLast ++ [mk [] (out.getD (out.length - 1) dflt).attrs ((out.getD (out.length - 1) dflt).text ++ n.text) (out.getD (out.length - 1) dflt).parts] else out ++ [n]
def jn : List Nd → List Nd → List Nd
  | out, [] => out
  | out, n :: more => jn (jn1 out n) more
end Nd
namespace Rl
open Nd
abbrev dfl : Rl := ⟨[], 2, []⟩
/-- what is done with an element of a name -/
def of (rs : List Rl) (nm : List UInt8) : Rl := if 0 ≤ idxI (fun q => q.name == nm) rs then rs.getD (idxI (fun q => q.name == nm) rs).toNat dfl else dfl
def step (rs : List Rl) (out : List Nd) (d : Nd) (sub : List Nd) : List Nd :=
  if d.name = [] then (if d.text = [] then out else jn1 out (Nd.mk [] [] d.text []))
  else if (of rs d.name).act = 1 then out ++ [Nd.mk (of rs d.name).to d.attrs [] sub]
  else if (of rs d.name).act = 2 then jn out sub else out
mutual
def subs (rs : List Rl) : Nd → List Nd
  | .mk _ _ _ q => run rs [] q
def run (rs : List Rl) : List Nd → List Nd → List Nd
  | out, [] => out
  | out, d :: l => run rs (step rs out d (subs rs d)) l
end
mutual
/-- elements have no text, texts hold nothing -/
def plain : Nd → Prop
  | .mk n a t q => (n = [] → q = [] ∧ a = []) ∧ (n ≠ [] → t = []) ∧ plains q
def plains : List Nd → Prop
  | [] => True
  | d :: l => plain d ∧ plains l
end
/-- elements that are kept as_ they are -/
def kept (rs : List Rl) (nm : List UInt8) : Prop := (of rs nm).act = 1 ∧ (of rs nm).to = nm
mutual
def kp (rs : List Rl) : Nd → Prop
  | .mk n _ _ q => (n ≠ [] → kept rs n) ∧ kps rs q
def kps (rs : List Rl) : List Nd → Prop
  | [] => True
  | d :: l => kp rs d ∧ kps rs l
end
end Rl
end Go.Vl
end

section
set_option linter.unusedVariables false
set_option linter.unusedSimpArgs false
namespace Go.Vl
namespace Nd
abbrev tx6 : List (List UInt8) := [[120], [97, 60, 98], [38, 97, 109, 112, 59], [121, 32, 122], [32], [60, 112, 62]]
abbrev vd2 : List (List UInt8) := [[98, 114], [105, 109, 103]]
abbrev el6 : List (List UInt8) := [[100, 105, 118], [98], [101, 109], [112], [97], [117, 108]]
abbrev vl5 : List (List UInt8) := [[], [120], [97, 34, 98, 38], [60], [104, 116, 116, 112, 58, 47, 47, 121]]
abbrev href : List UInt8 := [104, 114, 101, 102]
mutual
/-- what is drawn; k: not deeper than so; p: does a text stand ahead? -/
def dr : Nat → Nd → Prop
  | k, mk n a t q => (n = [] ∧ a = [] ∧ t ∈ tx6 ∧ q = []) ∨ (n ∈ vd2 ∧ a = [] ∧ t = [] ∧ q = []) ∨ (n ∈ el6 ∧ (a = [] ∨ ∃ v ∈ vl5, a = [(href, v)]) ∧ t = [] ∧ 2 ≤ k ∧ drs (k - 1) false q ∧ q.length ≤ 4)
def drs : Nat → Bool → List Nd → Prop
  | _, _, [] => True
  | k, p, d :: l => (d.name = [] → p = false) ∧ dr k d ∧ drs k (d.name == []) l
end
end Nd
namespace Rl
/-- rules that may be -/
structure ok (r : Rl) : Prop where
  n : nameOk r.name = true
  nl : r.name.length ≤ 1000
  a1 : 1 ≤ r.act
  a3 : r.act ≤ 3
  t : r.act = 1 → nameOk r.to = true
  tl : r.to.length ≤ 1000
  t0 : r.act ≠ 1 → r.to = []
structure oks (l : List Rl) : Prop where
  len : l.length ≤ 12
  all : ∀ r ∈ l, r.ok
  one : ∀ i, i < l.length → ((l.take i).any fun q => q.name == (l.getD i dfl).name) = false
abbrev nm6 : List (List UInt8) := [[100, 105, 118], [98], [101, 109], [112], [97], [117, 108]]
/-- rules of the first names -/
structure drawn (l : List Rl) : Prop where
  names : l.map (·.name) = nm6.take l.length
  all : ∀ r ∈ l, r.ok
/-- names that are kept -/
def kn (l : List Rl) : List (List UInt8) := (l.filter fun r => r.act == 1).map (·.to)
end Rl
end Go.Vl
end

section
set_option linter.unusedVariables false
set_option linter.unusedSimpArgs false
namespace Go.Vl
/-- a byte, escaped -/
def esc1 (q : Bool) (c : UInt8) : List UInt8 := if c = 38 then [38, 97, 109, 112, 59] else if c = 60 then [38, 108, 116, 59] else if c = 62 then [38, 103, 116, 59] else if c = 34 ∧ q = true then [38, 113, 117, 111, 116, 59] else [c]
def esc (q : Bool) (s : List UInt8) : List UInt8 := s.flatMap (esc1 q)
/-- a token -/
structure Tk where
  kind : Int
  name : List UInt8
  attrs : List Dc
  self : Bool
  text : List UInt8
abbrev tav (t : Tk) : AV := .agg [.int t.kind, .str t.name, .sl 2 (t.attrs.map dav), .bool t.self, .str t.text]
def attrS (a : Dc) : List UInt8 := (([32] ++ a.1) ++ [61, 34] ++ esc true a.2) ++ [34]
def tagS (name : List UInt8) (attrs : List Dc) (self : Bool) : List UInt8 := (([60] ++ name) ++ attrs.flatMap attrS ++ (if self then [47] else [])) ++ [62]
/-- attributes that may be -/
structure okAt (l : List Dc) : Prop where
  len : l.length ≤ 4
  all : ∀ a ∈ l, nameOk a.1 = true ∧ a.1.length ≤ 1000
  one : ∀ i, i < l.length → ((l.take i).any fun b => (l.getD i ([], [])).1 == b.1) = false
namespace Tk
abbrev dfl : Tk := ⟨0, [], [], false, []⟩
def txt (t : Tk) : List UInt8 := if t.kind = 1 then tagS t.name t.attrs t.self else if t.kind = 2 then ([60, 47] ++ t.name) ++ [62] else esc false t.text
abbrev nm5 : List (List UInt8) := [[112], [98], [105], [108, 105], [104, 45, 49]]
abbrev tx7 : List (List UInt8) := [[120], [97, 60, 98], [38, 97, 109, 112, 59], [34, 113, 34], [60, 112, 62], [32, 62, 32], [38, 35, 54, 48, 59]]
abbrev vl6 : List (List UInt8) := [[], [120], [97, 34, 98], [60, 38, 62], [97, 32, 98], [38, 108, 116, 59]]
abbrev at2 : List (List UInt8) := [[99, 108, 97, 115, 115], [104, 114, 101, 102]]
/-- a token that is drawn -/
def drawn (t : Tk) : Prop := (t.kind = 1 ∧ t.name ∈ nm5 ∧ (t.attrs.map (·.1) = at2.take t.attrs.length ∧ ∀ a ∈ t.attrs, a.2 ∈ vl6) ∧ t.text = []) ∨ (t.kind = 2 ∧ t.name ∈ nm5 ∧ t.attrs = [] ∧ t.self = false ∧ t.text = []) ∨ (t.kind = 3 ∧ t.name = [] ∧ t.attrs = [] ∧ t.self = false ∧ t.text ∈ tx7)
def drawns : Bool → List Tk → Prop
  | _, [] => True
  | p, t :: l => (t.kind = 3 → p = false) ∧ drawn t ∧ drawns (t.kind == 3) l
def lastK (p : Bool) (l : List Tk) : Bool := match l.getLast? with
  | none => p
  | some t => t.kind == 3
theorem lastK_snoc (p : Bool) (l : List Tk) (t : Tk) : lastK p (l ++ [t]) = (t.kind == 3) := by simp [lastK]
theorem lastK_cons (p : Bool) (t : Tk) (l : List Tk) : lastK p (t :: l) = lastK (t.kind == 3) l := by
  rcases List.eq_nil_or_concat l with rfl | ⟨m, e, rfl⟩
  · simp [lastK]
  · rw [List.concat_eq_append, ← List.cons_append, lastK_snoc, lastK_snoc]
theorem lastK_take (l : List Tk) (i : Nat) (h : i ≤ l.length) : lastK false (l.take i) = (decide ((0 : Int) < (i : Int)) && ((l.getD (i - 1) dfl).kind == 3)) := by
  rcases Nat.eq_zero_or_pos i with h0 | h0
  · subst h0; simp [lastK]
  · have e : i = (i - 1) + 1 := by omega
    have h1 : decide ((0 : Int) < (i : Int)) = true := decide_eq_true (by omega)
    rw [h1, Bool.true_and]
    conv => lhs; rw [e]
    rw [take_getDG dfl l (i - 1) (by omega), lastK_snoc]
theorem drawns_append (l m : List Tk) : ∀ p, drawns p (l ++ m) ↔ drawns p l ∧ drawns (lastK p l) m := by
  induction l with
  | nil => intro p; simp [drawns, lastK]
  | cons d l ih => intro p; rw [List.cons_append, drawns, drawns, ih, lastK_cons, and_assoc, and_assoc]
theorem drawns_mem : ∀ {l : List Tk} {p : Bool}, drawns p l → ∀ t ∈ l, drawn t
  | [], _, _, t, ht => by cases ht
  | e :: l, p, h, t, ht => by
    rcases List.mem_cons.1 ht with rfl | ht
    · exact h.2.1
    · exact drawns_mem h.2.2 t ht
theorem drawns_snoc {p : Bool} {l : List Tk} {t : Tk} (h : drawns p l) (h1 : t.kind = 3 → lastK p l = false) (h2 : drawn t) : drawns p (l ++ [t]) := (drawns_append l [t] p).2 ⟨h, h1, h2, trivial⟩
theorem lastK_of (out : List Tk) (h : (decide ((0 : Int) < ((out.map tav).length : Int)) && ((out.getD (out.length - 1) dfl).kind == 3)) = false) : lastK false out = false := by
  rw [List.length_map] at h
  have := lastK_take out out.length (Nat.le_refl _)
  rw [List.take_of_length_le (Nat.le_refl _)] at this
  rw [this]; exact h
end Tk
end Go.Vl
end

section
set_option linter.unusedVariables false
set_option linter.unusedSimpArgs false
namespace Go.Vl.Opn
/-- an object: an element or a text, with the places of its parts -/
structure Ob where
  elem : Bool
  name : List UInt8
  attrs : List Dc
  text : List UInt8
  parts : List Nat
abbrev dO : Ob := ⟨false, [], [], [], []⟩
/-- the builder: all objects (the root first), the places of those that are open, how many nodes -/
structure Bd where
  obs : List Ob
  stk : List Nat
  cnt : Nat
abbrev nm_p : List UInt8 := [112]
abbrev nm_li : List UInt8 := [108, 105]
abbrev nm_ul : List UInt8 := [117, 108]
abbrev nm_ol : List UInt8 := [111, 108]
abbrev blocks : List (List UInt8) := [[112], [100, 105, 118], [117, 108], [111, 108], [108, 105], [104, 49], [104, 50], [116, 97, 98, 108, 101], [98, 108, 111, 99, 107, 113, 117, 111, 116, 101]]
abbrev voids : List (List UInt8) := [[98, 114], [104, 114], [105, 109, 103], [105, 110, 112, 117, 116]]
abbrev mutes : List (List UInt8) := [[115, 99, 114, 105, 112, 116], [115, 116, 121, 108, 101]]
namespace Bd
def nameAt (S : Bd) (i : Nat) : List UInt8 := (S.obs.getD (S.stk.getD i 0) dO).name
/-- the last open element of a name at or below a place; 0: none -/
def findI (S : Bd) (nm : List UInt8) : Nat → Nat
  | 0 => 0
  | i + 1 => if S.nameAt (i + 1) = nm then i + 1 else S.findI nm i
def find (S : Bd) (nm : List UInt8) : Nat := S.findI nm (S.stk.length - 1)
def closeAt (S : Bd) (i : Nat) : Bd := if 0 < i then { S with stk := S.stk.take i } else S
def last (S : Bd) : Nat := S.stk.getD (S.stk.length - 1) 0
/-- a new part of the last open object -/
def addPart (S : Bd) (o : Ob) : Bd :=
  let a := S.obs.getD S.last dO
  { S with obs := S.obs.set S.last { a with parts := a.parts ++ [S.obs.length] } ++ [o], cnt := S.cnt + 1 }
def start1 (S : Bd) (nm : List UInt8) : Bd := if blocks.any (fun b => nm == b) then S.closeAt (S.find nm_p) else S
def start2 (S : Bd) (nm : List UInt8) : Bd := if nm = nm_li ∧ S.find nm_ul < S.find nm_li ∧ S.find nm_ol < S.find nm_li then S.closeAt (S.find nm_li) else S
def start (S : Bd) (t : Tk) : Bd :=
  let S := (S.start1 t.name).start2 t.name
  if 10 < S.stk.length then S
  else
    let S' := S.addPart ⟨true, t.name, t.attrs, [], []⟩
    if !t.self && !(voids.any fun b => t.name == b) then { S' with stk := S'.stk ++ [S.obs.length] } else S'
def chars (S : Bd) (s : List UInt8) : Bd :=
  let a := S.obs.getD S.last dO
  if a.elem && mutes.any (fun m => a.name == m) || s == [] then S
  else
    let k := a.parts.getD (a.parts.length - 1) 0
    let o := S.obs.getD k dO
    if a.parts ≠ [] ∧ o.elem = false then { S with obs := S.obs.set k { o with text := o.text ++ s } }
    else S.addPart ⟨false, [], [], s, []⟩
/-- kinds: 1 start, 2 end, 3 chars, 4 a remark -/
def step (S : Bd) (t : Tk) : Bd :=
  if t.kind = 1 then S.start t else if t.kind = 2 then S.closeAt (S.find t.name) else if t.kind = 3 then S.chars t.text else S
def root : Bd := ⟨[dO], [0], 0⟩
/-- no object bears the name -/
def noName (S : Bd) (nm : List UInt8) : Prop := ∀ o ∈ S.obs, o.name ≠ nm
theorem getD_mem_or {α : Type} (l : List α) (i : Nat) (d : α) : l.getD i d ∈ l ∨ l.getD i d = d := by
  rcases Nat.lt_or_ge i l.length with h | h
  · left; rw [List.getD_eq_getElem?_getD, List.getElem?_eq_getElem h]; exact List.getElem_mem h
  · right; rw [List.getD_eq_getElem?_getD, List.getElem?_eq_none h]; rfl
theorem noName.at {S : Bd} {nm : List UInt8} (h : S.noName nm) (hn : nm ≠ []) (i : Nat) : (S.obs.getD i dO).name ≠ nm := by
  rcases getD_mem_or S.obs i dO with h' | h'
  · exact h _ h'
  · rw [h']; exact fun e => hn e.symm
theorem noName.find {S : Bd} {nm : List UInt8} (h : S.noName nm) (hn : nm ≠ []) : S.find nm = 0 := by
  have key : ∀ i, S.findI nm i = 0 := by
    intro i
    induction i with
    | zero => rfl
    | succ i ih => rw [findI, if_neg (show S.nameAt (i + 1) ≠ nm from h.at hn _), ih]
  exact key _
theorem noName.close {S : Bd} {nm : List UInt8} (h : S.noName nm) (i : Nat) : (S.closeAt i).noName nm := by
  unfold closeAt; split <;> exact h
theorem noName.set {S : Bd} {nm : List UInt8} (h : S.noName nm) (hn : nm ≠ []) (i : Nat) (o : Ob) (ho : o.name = (S.obs.getD i dO).name) : ∀ q ∈ S.obs.set i o, q.name ≠ nm := by
  intro q hq
  rcases List.mem_or_eq_of_mem_set hq with hq | rfl
  · exact h q hq
  · rw [ho]; exact h.at hn i
theorem noName.add {S : Bd} {nm : List UInt8} (h : S.noName nm) (hn : nm ≠ []) (o : Ob) (ho : o.name ≠ nm) : (S.addPart o).noName nm := by
  intro q hq
  rcases List.mem_append.1 hq with hq | hq
  · exact h.set hn S.last { S.obs.getD S.last dO with parts := (S.obs.getD S.last dO).parts ++ [S.obs.length] } rfl q hq
  · rw [List.mem_singleton.1 hq]; exact ho
theorem noName.start {S : Bd} {nm : List UInt8} (h : S.noName nm) (hn : nm ≠ []) (t : Tk) (ht : t.name ≠ nm) : (S.start t).noName nm := by
  have h1 : (S.start1 t.name).noName nm := by unfold start1; split; exact h.close _; exact h
  have h2 : ((S.start1 t.name).start2 t.name).noName nm := by unfold start2; split; exact h1.close _; exact h1
  unfold Bd.start
  dsimp only
  split
  · exact h2
  · split
    · exact h2.add hn _ ht
    · exact h2.add hn _ ht
theorem noName.chars {S : Bd} {nm : List UInt8} (h : S.noName nm) (hn : nm ≠ []) (s : List UInt8) : (S.chars s).noName nm := by
  unfold Bd.chars
  dsimp only
  split
  · exact h
  · split
    · exact h.set hn _ _ rfl
    · exact h.add hn _ (fun e => hn e.symm)
theorem noName.step {S : Bd} {nm : List UInt8} (h : S.noName nm) (hn : nm ≠ []) (t : Tk) (ht : t.name ≠ nm) : (S.step t).noName nm := by
  unfold Bd.step
  split
  · exact h.start hn t ht
  · split
    · exact h.close _
    · split
      · exact h.chars hn _
      · exact h
theorem noName.fold {nm : List UInt8} (hn : nm ≠ []) : ∀ (l : List Tk) (S : Bd), S.noName nm → (∀ t ∈ l, t.name ≠ nm) → (l.foldl Bd.step S).noName nm
  | [], S, h, _ => h
  | t :: l, S, h, ht => noName.fold hn l _ (h.step hn t (ht t List.mem_cons_self)) (fun q hq => ht q (List.mem_cons_of_mem _ hq))
/-- WHAT ENDS THAT NEVER BEGAN DOES NOTHING, nor does a remark -/
theorem noise (l m : List Tk) (t : Tk) (hl : ∀ q ∈ l, q.name ≠ [122, 122]) (ht : t.kind = 4 ∨ t.kind = 2 ∧ t.name = [122, 122]) : (l ++ [t] ++ m).foldl step root = (l ++ m).foldl step root := by
  rw [List.foldl_append, List.foldl_append, List.foldl_append]
  congr 1
  show ((l.foldl step root).step t) = _
  have h := noName.fold (nm := [122, 122]) (by decide) l root (by intro o ho; rw [List.mem_singleton.1 ho]; decide) hl
  generalize l.foldl step root = S at h ⊢
  rcases ht with ht | ⟨ht, hn⟩
  · unfold step; rw [if_neg (by omega), if_neg (by omega), if_neg (by omega)]
  · unfold step; rw [if_neg (by omega), if_pos ht, hn, h.find (by decide)]; rfl
/-- the nodes of what is within an object (fuel: how deep) -/
def nds (obs : List Ob) : Nat → Nat → List Nd
  | 0, _ => []
  | f + 1, j => (obs.getD j dO).parts.map fun i =>
    let o := obs.getD i dO
    if o.elem then Nd.mk o.name o.attrs [] (nds obs f i) else Nd.mk [] [] o.text []
end Bd
end Go.Vl.Opn
end

section
set_option linter.unusedVariables false
set_option linter.unusedSimpArgs false
namespace Go.Vl.Opn
/-- an object and where it lies: its box, its node's box, its row of parts -/
structure Oc where
  o : Ob
  b : Nat
  n : Nat
  v : Value
abbrev ptr (b : Nat) : AV := .lit (.pointer (some ⟨b, 0, none⟩))
abbrev obox (TO : Nat) (c : Oc) : ME := .box c.b TO [if c.o.elem then ptr c.n else .lit (.pointer none), .lit c.v, .str c.o.text, .bool c.o.elem]
abbrev orow (E : Nat) (bs : Nat → Nat) (c : Oc) : ME := .arr c.v E 1 (c.o.parts.map fun i => ptr (bs i))
abbrev onode (TN : Nat) (c : Oc) : ME := if c.o.elem then .box c.n TN [.str c.o.name, .sl 2 (c.o.attrs.map dav), .str [], .lit (.slice none 0 0)] else .arr (.slice none 0 0) TN 4 []
def ents (TO TN E : Nat) (bs : Nat → Nat) (c : Oc) : List ME := [obox TO c, orow E bs c, onode TN c]
def mem (TO TN E : Nat) (bs : Nat → Nat) (cs : List Oc) : List ME := cs.flatMap (ents TO TN E bs)
section
variable {TO TN E : Nat} {bs : Nat → Nat}
theorem mem_cons (c : Oc) (cs : List Oc) : mem TO TN E bs (c :: cs) = obox TO c :: orow E bs c :: onode TN c :: mem TO TN E bs cs := rfl
theorem mem_append (cs ds : List Oc) : mem TO TN E bs (cs ++ ds) = mem TO TN E bs cs ++ mem TO TN E bs ds := List.flatMap_append
theorem mem_get0 : ∀ (cs : List Oc) (j : Nat) (c : Oc), cs[j]? = some c → (mem TO TN E bs cs)[3 * j]? = some (obox TO c)
  | [], j, c, h => by simp at h
  | d :: cs, 0, c, h => by simp at h; subst h; rfl
  | d :: cs, j + 1, c, h => by
    rw [mem_cons, show 3 * (j + 1) = 3 * j + 3 from by omega]
    exact mem_get0 cs j c (by simpa using h)
theorem mem_get1 : ∀ (cs : List Oc) (j : Nat) (c : Oc), cs[j]? = some c → (mem TO TN E bs cs)[3 * j + 1]? = some (orow E bs c)
  | [], j, c, h => by simp at h
  | d :: cs, 0, c, h => by simp at h; subst h; rfl
  | d :: cs, j + 1, c, h => by
    rw [mem_cons, show 3 * (j + 1) + 1 = (3 * j + 1) + 3 from by omega]
    exact mem_get1 cs j c (by simpa using h)
theorem mem_get2 : ∀ (cs : List Oc) (j : Nat) (c : Oc), cs[j]? = some c → (mem TO TN E bs cs)[3 * j + 2]? = some (onode TN c)
  | [], j, c, h => by simp at h
  | d :: cs, 0, c, h => by simp at h; subst h; rfl
  | d :: cs, j + 1, c, h => by
    rw [mem_cons, show 3 * (j + 1) + 2 = (3 * j + 2) + 3 from by omega]
    exact mem_get2 cs j c (by simpa using h)
theorem mem_set0 : ∀ (cs : List Oc) (j : Nat) (c c' : Oc), cs[j]? = some c → orow E bs c' = orow E bs c → onode TN c' = onode TN c → (mem TO TN E bs cs).set (3 * j) (obox TO c') = mem TO TN E bs (cs.set j c')
  | [], j, c, c', h, _, _ => by simp at h
  | d :: cs, 0, c, c', h, h1, h2 => by
    simp at h; subst h
    show obox TO c' :: orow E bs d :: onode TN d :: mem TO TN E bs cs = obox TO c' :: orow E bs c' :: onode TN c' :: mem TO TN E bs cs
    rw [h1, h2]
  | d :: cs, j + 1, c, c', h, h1, h2 => by
    rw [mem_cons, show 3 * (j + 1) = 3 * j + 3 from by omega]
    show obox TO d :: orow E bs d :: onode TN d :: (mem TO TN E bs cs).set (3 * j) (obox TO c') = obox TO d :: orow E bs d :: onode TN d :: mem TO TN E bs (cs.set j c')
    rw [mem_set0 cs j c c' (by simpa using h) h1 h2]
/-- an object's entries are brought to the front -/
theorem mem_front : ∀ (cs : List Oc) (j : Nat) (c : Oc), cs[j]? = some c → List.Perm (mem TO TN E bs cs) (ents TO TN E bs c ++ mem TO TN E bs (cs.eraseIdx j))
  | [], j, c, h => by simp at h
  | d :: cs, 0, c, h => by simp at h; subst h; exact .refl _
  | d :: cs, j + 1, c, h => by
    have ih := mem_front cs j c (by simpa using h)
    show List.Perm (ents TO TN E bs d ++ mem TO TN E bs cs) (ents TO TN E bs c ++ (ents TO TN E bs d ++ mem TO TN E bs (cs.eraseIdx j)))
    exact (List.Perm.append_left _ ih).trans (by rw [← List.append_assoc, ← List.append_assoc]; exact List.Perm.append_right _ List.perm_append_comm)
/-- and put back, turned -/
theorem mem_back (cs : List Oc) (j : Nat) (c : Oc) (h : j < cs.length) : List.Perm (ents TO TN E bs c ++ mem TO TN E bs (cs.eraseIdx j)) (mem TO TN E bs (cs.set j c)) := by
  have := mem_front (TO := TO) (TN := TN) (E := E) (bs := bs) (cs.set j c) j c (by simp [h])
  rw [List.eraseIdx_set_eq] at this
  exact this.symm
theorem mem_snoc (cs : List Oc) (c : Oc) : List.Perm (ents TO TN E bs c ++ mem TO TN E bs cs) (mem TO TN E bs (cs ++ [c])) := by
  rw [mem_append]
  show List.Perm _ (mem TO TN E bs cs ++ (ents TO TN E bs c ++ []))
  rw [List.append_nil]
  exact List.perm_append_comm
/-- the pointers of the parts depend on the places that are listed alone -/
theorem ents_congr {bs' : Nat → Nat} (c : Oc) (h : ∀ i ∈ c.o.parts, bs i = bs' i) : ents TO TN E bs c = ents TO TN E bs' c := by
  unfold ents orow
  rw [List.map_congr_left (fun i hi => by rw [h i hi])]
theorem mem_congr {bs' : Nat → Nat} (cs : List Oc) (h : ∀ c ∈ cs, ∀ i ∈ c.o.parts, bs i = bs' i) : mem TO TN E bs cs = mem TO TN E bs' cs := by
  unfold mem
  induction cs with
  | nil => rfl
  | cons c cs ih => rw [List.flatMap_cons, List.flatMap_cons, ents_congr c (h c List.mem_cons_self), ih (fun d hd => h d (List.mem_cons_of_mem _ hd))]
/-- the builder as_ it is thought -/
abbrev bd (cs : List Oc) (sk : List Nat) (cnt : Nat) : Bd := ⟨cs.map Oc.o, sk, cnt⟩
/-- what is open: elements of the list, where they are said to lie -/
def Open (bs : Nat → Nat) (cs : List Oc) (sk : List Nat) : Prop := ∀ i, 0 < i → i < sk.length → ∃ c, cs[sk.getD i 0]? = some c ∧ c.o.elem = true ∧ bs (sk.getD i 0) = c.b
theorem nameAt_eq {cs : List Oc} {sk : List Nat} {cnt i : Nat} {c : Oc} (h : cs[sk.getD i 0]? = some c) : (bd cs sk cnt).nameAt i = c.o.name := by
  show ((cs.map Oc.o).getD (sk.getD i 0) dO).name = _
  rw [List.getD_eq_getElem?_getD, List.getElem?_map, h]; rfl
end
end Go.Vl.Opn
namespace Go.Vl
theorem St.cutrow {x : Cx} {L : List (Tmp × Bool × AV)} {M1 M2 : List ME} {a : Option Addr} {n c m T k : Nat} {es : List AV} {ac : Act} {w : World} (hm : m ≤ es.length) (hs : St x L (M1 ++ .arr (.slice a n c) T k es :: M2) ac w) :
    St x L (M1 ++ .arr (.slice a m c) T k (es.take m) :: M2) ac w := by
  have hbl : bl (M1 ++ .arr (.slice a m c) T k (es.take m) :: M2) = bl (M1 ++ .arr (.slice a n c) T k es :: M2) := by
    cases a <;> simp [bl, ME.blks]
  refine ⟨hs.defers, hs.size, fun t g av hl => by rw [hbl]; exact hs.slots t g av hl, ⟨by rw [hbl]; exact hs.mem.nodup, by rw [hbl]; exact hs.mem.apart, ?_⟩, by rw [hbl]; exact hs.fr, hs.old⟩
  intro e he
  rw [hbl]
  have hold : ∀ e, e ∈ M1 ++ .arr (.slice a n c) T k es :: M2 → e.holds w (bl (M1 ++ .arr (.slice a n c) T k es :: M2) ++ x.F) := fun e he => hs.mem.holds e he
  rcases List.mem_append.1 he with he | he
  · exact hold e (List.mem_append_left _ he)
  · rcases List.mem_cons.1 he with rfl | he
    · obtain ⟨a', cap, hv, h1, h2, h3⟩ := hold _ (List.mem_append_right _ List.mem_cons_self)
      injection hv with e1 e2 e3
      subst e1 e3
      have hl : (es.take m).length = m := by rw [List.length_take]; omega
      refine ⟨a, c, by rw [hl], by rw [hl]; omega, h2, ?_⟩
      rcases h3 with h3 | ⟨g, off, cur, lo, hi, ha, hg, hsz, hfr, he⟩
      · exact .inl h3
      · exact .inr ⟨g, off, cur, lo, hi, ha, hg, hsz, hfr, he.take m⟩
    · exact hold e (List.mem_append_right _ (List.mem_cons_of_mem _ he))
/-- an own row of which the rear is let go -/
theorem W.cutrow {x : Cx} {L : List (Tmp × Bool × AV)} {M1 M2 : List ME} {a : Option Addr} {n c m T k : Nat} {es : List AV} {R : Act → World → Prop} (hm : m ≤ es.length)
    (next : W x L (M1 ++ .arr (.slice a m c) T k (es.take m) :: M2) R) : W x L (M1 ++ .arr (.slice a n c) T k es :: M2) R := fun ac w hs => next ac w (hs.cutrow hm)
end Go.Vl
end

section
set_option linter.unusedVariables false
set_option linter.unusedSimpArgs false
namespace Go.Vl.Opn
def sa : Value → Option Addr
  | .slice a _ _ => a
  | _ => none
def sn : Value → Nat
  | .slice _ n _ => n
  | _ => 0
def sc : Value → Nat
  | .slice _ _ c => c
  | _ => 0
abbrev sl (v : Value) : Value := .slice (sa v) (sn v) (sc v)
theorem three {p q : Prop} [Decidable p] [Decidable q] : ¬ p ∨ p ∧ ¬ q ∨ p ∧ q := by
  by_cases h1 : p
  · by_cases h2 : q
    · exact .inr (.inr ⟨h1, h2⟩)
    · exact .inr (.inl ⟨h1, h2⟩)
  · exact .inl h1
theorem Bd.closeAt_stk (S : Bd) (i : Nat) : (S.closeAt i).stk = if 0 < i then S.stk.take i else S.stk := by unfold Bd.closeAt; split <;> rfl
theorem closeAt_bd (cs : List Oc) (sk : List Nat) (cnt i : Nat) : (bd cs sk cnt).closeAt i = bd cs ((bd cs sk cnt).closeAt i).stk cnt := by unfold Bd.closeAt; split <;> rfl
theorem start1_bd (cs : List Oc) (sk : List Nat) (cnt : Nat) (nm : List UInt8) : (bd cs sk cnt).start1 nm = bd cs ((bd cs sk cnt).start1 nm).stk cnt := by
  unfold Bd.start1; split
  · exact closeAt_bd _ _ _ _
  · rfl
theorem start2_bd (cs : List Oc) (sk : List Nat) (cnt : Nat) (nm : List UInt8) : (bd cs sk cnt).start2 nm = bd cs ((bd cs sk cnt).start2 nm).stk cnt := by
  unfold Bd.start2; split
  · exact closeAt_bd _ _ _ _
  · rfl
theorem findI_cnt (cs : List Oc) (sk : List Nat) (c d : Nat) (nm : List UInt8) : ∀ i, (bd cs sk c).findI nm i = (bd cs sk d).findI nm i
  | 0 => rfl
  | i + 1 => by rw [Bd.findI, Bd.findI, findI_cnt cs sk c d nm i]; rfl
theorem find_cnt (cs : List Oc) (sk : List Nat) (c d : Nat) (nm : List UInt8) : (bd cs sk c).find nm = (bd cs sk d).find nm := findI_cnt _ _ _ _ _ _
theorem closeAt_cnt (cs : List Oc) (sk : List Nat) (c d i : Nat) : ((bd cs sk c).closeAt i).stk = ((bd cs sk d).closeAt i).stk := by rw [Bd.closeAt_stk, Bd.closeAt_stk]
theorem start1_cnt (cs : List Oc) (sk : List Nat) (c d : Nat) (nm : List UInt8) : ((bd cs sk c).start1 nm).stk = ((bd cs sk d).start1 nm).stk := by
  unfold Bd.start1; split
  · rw [find_cnt cs sk c d, closeAt_cnt cs sk c d]
  · rfl
theorem start2_cnt (cs : List Oc) (sk : List Nat) (c d : Nat) (nm : List UInt8) : ((bd cs sk c).start2 nm).stk = ((bd cs sk d).start2 nm).stk := by
  unfold Bd.start2
  rw [find_cnt cs sk c d nm_ul, find_cnt cs sk c d nm_li, find_cnt cs sk c d nm_ol]
  split
  · rw [closeAt_cnt cs sk c d]
  · rfl
theorem findI_le (S : Bd) (nm : List UInt8) : ∀ i, S.findI nm i ≤ i
  | 0 => Nat.le_refl _
  | i + 1 => by rw [Bd.findI]; split; exact Nat.le_refl _; exact Nat.le_succ_of_le (findI_le S nm i)
theorem find_lt (S : Bd) (nm : List UInt8) (h : 0 < S.stk.length) : S.find nm < S.stk.length := by
  have := findI_le S nm (S.stk.length - 1)
  unfold Bd.find; omega
/-- what is open is fit to be walked -/
structure Good (bs : Nat → Nat) (cs : List Oc) (sk : List Nat) : Prop where
  pos : 0 < sk.length
  len : sk.length ≤ 1000
  opn : Open bs cs sk
  hd : sk.getD 0 0 = 0
theorem getD_take (l : List Nat) (i k : Nat) (h : k < (l.take i).length) : (l.take i).getD k 0 = l.getD k 0 := by
  rw [List.length_take] at h
  rw [List.getD_eq_getElem?_getD, List.getD_eq_getElem?_getD, List.getElem?_take, if_pos (by omega)]
theorem Good.take {bs : Nat → Nat} {cs : List Oc} {sk : List Nat} (h : Good bs cs sk) (i : Nat) (hi : 0 < i) : Good bs cs (sk.take i) := by
  have hl : (sk.take i).length = min i sk.length := List.length_take
  have hp := h.pos
  refine ⟨by omega, by have := h.len; omega, ?_, by rw [getD_take _ _ _ (by omega)]; exact h.hd⟩
  intro k hk hk2
  rw [getD_take _ _ _ hk2]
  exact h.opn k hk (by omega)
theorem Good.close {bs : Nat → Nat} {cs : List Oc} {sk : List Nat} (h : Good bs cs sk) (cnt i : Nat) : Good bs cs ((bd cs sk cnt).closeAt i).stk := by
  rw [Bd.closeAt_stk]; split
  · exact h.take i ‹_›
  · exact h
theorem Good.start1 {bs : Nat → Nat} {cs : List Oc} {sk : List Nat} (h : Good bs cs sk) (cnt : Nat) (nm : List UInt8) : Good bs cs ((bd cs sk cnt).start1 nm).stk := by
  unfold Bd.start1; split
  · exact h.close _ _
  · exact h
theorem Good.start2 {bs : Nat → Nat} {cs : List Oc} {sk : List Nat} (h : Good bs cs sk) (cnt : Nat) (nm : List UInt8) : Good bs cs ((bd cs sk cnt).start2 nm).stk := by
  unfold Bd.start2; split
  · exact h.close _ _
  · exact h
end Go.Vl.Opn
end

section
set_option linter.unusedVariables false
set_option linter.unusedSimpArgs false
namespace Go.Vl.Opn
abbrev nm_script : List UInt8 := [115, 99, 114, 105, 112, 116]
abbrev nm_style : List UInt8 := [115, 116, 121, 108, 101]
structure Inv (bs : Nat → Nat) (cs : List Oc) (sk : List Nat) (r k n : Nat) : Prop where
  good : Good bs cs sk
  root : ∃ c0 : Oc, cs[0]? = some c0 ∧ c0.o.elem = false ∧ c0.b = r
  bsb : ∀ (i : Nat) (c : Oc), cs[i]? = some c → bs i = c.b
  par : ∀ (j : Nat) (c : Oc), cs[j]? = some c → c.o.parts.length ≤ k ∧ ∀ i ∈ c.o.parts, j < i ∧ i < cs.length
  asc : ∀ (j : Nat) (c : Oc), cs[j]? = some c → c.o.parts.Pairwise (· < ·)
  len : cs.length ≤ k + 1
  ski : ∀ i, i < sk.length → sk.getD i 0 < cs.length
  skl : sk.length ≤ k + 1
  txt : ∀ (j : Nat) (c : Oc), cs[j]? = some c → c.o.text.length ≤ 100 * k
  nms : ∀ (j : Nat) (c : Oc), cs[j]? = some c → c.o.name ≠ nm_script ∧ c.o.name ≠ nm_style
  att : ∀ (j : Nat) (c : Oc), cs[j]? = some c → c.o.attrs.length ≤ 3
  num : n + 1 = cs.length
theorem Inv.mono {bs : Nat → Nat} {cs : List Oc} {sk : List Nat} {r k n : Nat} (h : Inv bs cs sk r k n) : Inv bs cs sk r (k + 1) n :=
  ⟨h.good, h.root, h.bsb, fun j c hc => ⟨Nat.le_succ_of_le (h.par j c hc).1, (h.par j c hc).2⟩, h.asc, Nat.le_succ_of_le h.len, h.ski, Nat.le_succ_of_le h.skl, fun j c hc => Nat.le_trans (h.txt j c hc) (by omega), h.nms, h.att, h.num⟩
/-- of what is open, the rear is let go -/
def Cut (sk sk' : List Nat) : Prop := ∃ i, 0 < i ∧ sk' = sk.take i
theorem Cut.refl {sk : List Nat} (h : 0 < sk.length) : Cut sk sk := ⟨sk.length, h, (List.take_length ..).symm⟩
theorem Cut.trans {a b c : List Nat} (h1 : Cut a b) (h2 : Cut b c) : Cut a c := by
  obtain ⟨i, hi, rfl⟩ := h1
  obtain ⟨j, hj, rfl⟩ := h2
  exact ⟨min j i, by omega, by rw [List.take_take]⟩
theorem Cut.pos {a b : List Nat} (h : Cut a b) (h0 : 0 < a.length) : 0 < b.length := by
  obtain ⟨i, hi, rfl⟩ := h
  rw [List.length_take]; omega
theorem Cut.close {cs : List Oc} {sk : List Nat} (h : 0 < sk.length) (n i : Nat) : Cut sk ((bd cs sk n).closeAt i).stk := by
  rw [Bd.closeAt_stk]; split
  · exact ⟨i, ‹_›, rfl⟩
  · exact .refl h
theorem Cut.start1 {cs : List Oc} {sk : List Nat} (h : 0 < sk.length) (n : Nat) (nm : List UInt8) : Cut sk ((bd cs sk n).start1 nm).stk := by
  unfold Bd.start1; split
  · exact .close h _ _
  · exact .refl h
theorem Cut.start2 {cs : List Oc} {sk : List Nat} (h : 0 < sk.length) (n : Nat) (nm : List UInt8) : Cut sk ((bd cs sk n).start2 nm).stk := by
  unfold Bd.start2; split
  · exact .close h _ _
  · exact .refl h
theorem Inv.cut {bs : Nat → Nat} {cs : List Oc} {sk sk' : List Nat} {r k n : Nat} (h : Inv bs cs sk r k n) (hc : Cut sk sk') : Inv bs cs sk' r k n := by
  obtain ⟨i, hi, rfl⟩ := hc
  have hl : (sk.take i).length = min i sk.length := List.length_take
  exact ⟨h.good.take i hi, h.root, h.bsb, h.par, h.asc, h.len, fun j hj => by rw [getD_take _ _ _ hj]; exact h.ski j (by omega), by have := h.skl; omega, h.txt, h.nms, h.att, h.num⟩
/-- the last open object -/
theorem Inv.last {bs : Nat → Nat} {cs : List Oc} {sk : List Nat} {r k n : Nat} (h : Inv bs cs sk r k n) : ∃ c, cs[sk.getD (sk.length - 1) 0]? = some c ∧ bs (sk.getD (sk.length - 1) 0) = c.b := by
  have hp := h.good.pos
  have := h.ski (sk.length - 1) (by omega)
  exact ⟨_, List.getElem?_eq_getElem this, h.bsb _ _ (List.getElem?_eq_getElem this)⟩
section
variable {TO TN E : Nat} {bs : Nat → Nat} {cs : List Oc} {sk : List Nat} {r k n : Nat}
abbrev wpart (c : Oc) (m : Nat) (v : Value) : Oc := { c with o := { c.o with parts := c.o.parts ++ [m] }, v := v }
abbrev bsn (bs : Nat → Nat) (m b : Nat) : Nat → Nat := fun i => if i = m then b else bs i
theorem at_new {a j : Nat} {c' d e : Oc} (ha : a < cs.length) (h : (cs.set a c' ++ [d])[j]? = some e) : (j < cs.length ∧ (j = a ∧ e = c' ∨ j ≠ a ∧ cs[j]? = some e)) ∨ j = cs.length ∧ e = d := by
  rcases Nat.lt_or_ge j cs.length with hj | hj
  · left
    refine ⟨hj, ?_⟩
    rw [List.getElem?_append_left (by rw [List.length_set]; exact hj)] at h
    rcases Decidable.em (j = a) with rfl | hja
    · rw [List.getElem?_set_self hj] at h
      exact .inl ⟨rfl, (Option.some.inj h).symm⟩
    · rw [List.getElem?_set_ne (Ne.symm hja)] at h
      exact .inr ⟨hja, h⟩
  · right
    rw [List.getElem?_append_right (by rw [List.length_set]; exact hj), List.length_set] at h
    rcases Nat.eq_or_lt_of_le hj with hj | hj
    · rw [← hj, Nat.sub_self] at h
      exact ⟨hj.symm, (Option.some.inj h).symm⟩
    · rw [List.getElem?_eq_none (by simp only [List.length_singleton]; omega)] at h; cases h
theorem new_at {a j : Nat} {c c' d e : Oc} (hc : cs[a]? = some c) (he : cs[j]? = some e) (hel : c'.o.elem = c.o.elem) (hb : c'.b = c.b) : ∃ e', (cs.set a c' ++ [d])[j]? = some e' ∧ e'.o.elem = e.o.elem ∧ e'.b = e.b := by
  have hj := (List.getElem?_eq_some_iff.1 he).1
  rw [List.getElem?_append_left (by rw [List.length_set]; exact hj)]
  rcases Decidable.em (j = a) with rfl | hja
  · rw [List.getElem?_set_self hj]
    rw [hc] at he; obtain rfl := Option.some.inj he
    exact ⟨c', rfl, hel, hb⟩
  · rw [List.getElem?_set_ne (Ne.symm hja)]
    exact ⟨e, he, rfl, rfl⟩
/-- A NEW OBJECT -/
theorem Inv.new (h : Inv bs cs sk r k n) (hk : k ≤ 900) {a : Nat} {c : Oc} (hc : cs[a]? = some c) (d : Oc) (hd : d.o.parts = []) (ht : d.o.text.length ≤ 100 * (k + 1)) (hn : d.o.name ≠ nm_script ∧ d.o.name ≠ nm_style) (hat : d.o.attrs.length ≤ 3) (v8 : Value) (push : Bool) (hp : push = true → d.o.elem = true) :
    Inv (bsn bs cs.length d.b) (cs.set a (wpart c cs.length v8) ++ [d]) (if push then sk ++ [cs.length] else sk) r (k + 1) (n + 1) := by
  have ha := (List.getElem?_eq_some_iff.1 hc).1
  have hl : (cs.set a (wpart c cs.length v8) ++ [d]).length = cs.length + 1 := by rw [List.length_append, List.length_set]; rfl
  have hskl : (if push then sk ++ [cs.length] else sk).length ≤ sk.length + 1 := by cases push <;> simp
  have hsk0 : sk.length ≤ (if push then sk ++ [cs.length] else sk).length := by cases push <;> simp
  have hold : ∀ i, i < sk.length → (if push then sk ++ [cs.length] else sk).getD i 0 = sk.getD i 0 := by
    intro i hi
    cases push with
    | false => rfl
    | true =>
      rw [if_pos rfl, List.getD_eq_getElem?_getD, List.getElem?_append_left hi, ← List.getD_eq_getElem?_getD]
  have hnew : ∀ i, ¬ i < sk.length → i < (if push then sk ++ [cs.length] else sk).length → push = true ∧ (if push then sk ++ [cs.length] else sk).getD i 0 = cs.length := by
    intro i hi hi2
    cases push with
    | false => exact absurd hi2 hi
    | true =>
      refine ⟨rfl, ?_⟩
      rw [if_pos rfl] at hi2 ⊢
      rw [List.length_append, List.length_singleton] at hi2
      rw [List.getD_eq_getElem?_getD, List.getElem?_append_right (by omega), show i - sk.length = 0 from by omega]; rfl
  have hbo : ∀ i, i < cs.length → bsn bs cs.length d.b i = bs i := fun i hi => if_neg (by omega)
  refine ⟨⟨by have := h.good.pos; omega, by have := h.skl; omega, ?_, by rw [hold 0 h.good.pos]; exact h.good.hd⟩, ?_, ?_, ?_, ?_, by rw [hl]; have := h.len; omega, ?_, by have := h.skl; omega, ?_, ?_, ?_, by rw [hl]; have := h.num; omega⟩
  · intro i hi hi2
    rcases Decidable.em (i < sk.length) with hs | hs
    · rw [hold i hs]
      obtain ⟨e, he, hee, heb⟩ := h.good.opn i hi hs
      obtain ⟨e', h1, h2, h3⟩ := new_at (d := d) (c' := wpart c cs.length v8) hc he rfl rfl
      exact ⟨e', h1, h2.trans hee, by rw [hbo _ (List.getElem?_eq_some_iff.1 he).1, heb, h3]⟩
    · obtain ⟨h1, h2⟩ := hnew i hs hi2
      rw [h2]
      refine ⟨d, ?_, hp h1, if_pos rfl⟩
      rw [List.getElem?_append_right (by rw [List.length_set]; exact Nat.le_refl _), List.length_set, Nat.sub_self]; rfl
  · obtain ⟨c0, h1, h2, h3⟩ := h.root
    obtain ⟨e', g1, g2, g3⟩ := new_at (d := d) (c' := wpart c cs.length v8) hc h1 rfl rfl
    exact ⟨e', g1, g2.trans h2, g3.trans h3⟩
  · intro i e he
    rcases at_new ha he with ⟨hi, ⟨rfl, rfl⟩ | ⟨h1, h2⟩⟩ | ⟨rfl, rfl⟩
    · rw [hbo _ hi]; exact h.bsb _ c hc
    · rw [hbo _ hi]; exact h.bsb _ _ h2
    · exact if_pos rfl
  · intro j e he
    rw [hl]
    rcases at_new ha he with ⟨hi, ⟨rfl, rfl⟩ | ⟨h1, h2⟩⟩ | ⟨rfl, rfl⟩
    · obtain ⟨p1, p2⟩ := h.par _ _ hc
      refine ⟨by show (c.o.parts ++ [cs.length]).length ≤ _; rw [List.length_append, List.length_singleton]; omega, fun i hi' => ?_⟩
      rcases List.mem_append.1 hi' with hi' | hi'
      · have := p2 i hi'; omega
      · rw [List.mem_singleton.1 hi']; omega
    · obtain ⟨p1, p2⟩ := h.par _ _ h2
      exact ⟨by omega, fun i hi' => by have := p2 i hi'; omega⟩
    · rw [hd]; exact ⟨Nat.zero_le _, fun i hi' => absurd hi' (by simp)⟩
  · intro j e he
    rcases at_new ha he with ⟨hi, ⟨rfl, rfl⟩ | ⟨h1, h2⟩⟩ | ⟨rfl, rfl⟩
    · show (c.o.parts ++ [cs.length]).Pairwise (· < ·)
      rw [List.pairwise_append]
      exact ⟨h.asc _ _ hc, List.pairwise_singleton _ _, fun x hx y hy => by rw [List.mem_singleton.1 hy]; exact ((h.par _ _ hc).2 x hx).2⟩
    · exact h.asc _ _ h2
    · rw [hd]; exact List.Pairwise.nil
  · intro i hi
    rw [hl]
    rcases Decidable.em (i < sk.length) with hs | hs
    · rw [hold i hs]; have := h.ski i hs; omega
    · rw [(hnew i hs hi).2]; omega
  · intro j e he
    rcases at_new ha he with ⟨hi, ⟨rfl, rfl⟩ | ⟨h1, h2⟩⟩ | ⟨rfl, rfl⟩
    · exact Nat.le_trans (h.txt _ c hc) (by omega)
    · exact Nat.le_trans (h.txt _ _ h2) (by omega)
    · exact ht
  · intro j e he
    rcases at_new ha he with ⟨hi, ⟨rfl, rfl⟩ | ⟨h1, h2⟩⟩ | ⟨rfl, rfl⟩
    · exact h.nms _ c hc
    · exact h.nms _ _ h2
    · exact hn
  · intro j e he
    rcases at_new ha he with ⟨hi, ⟨rfl, rfl⟩ | ⟨h1, h2⟩⟩ | ⟨rfl, rfl⟩
    · exact h.att _ c hc
    · exact h.att _ _ h2
    · exact hat
theorem mem_new {a : Nat} {c d : Oc} (hc : cs[a]? = some c) (hpar : ∀ (j : Nat) (c : Oc), cs[j]? = some c → ∀ i ∈ c.o.parts, i < cs.length) (hd : d.o.parts = []) (v8 : Value) :
    List.Perm (ents TO TN E bs d ++ ([obox TO { c with v := v8 }, .arr v8 E 1 ((c.o.parts.map fun i => ptr (bs i)) ++ [ptr d.b]), onode TN c] ++ mem TO TN E bs (cs.eraseIdx a))) (mem TO TN E (bsn bs cs.length d.b) (cs.set a (wpart c cs.length v8) ++ [d])) := by
  have ha := (List.getElem?_eq_some_iff.1 hc).1
  have hbo : ∀ i, i < cs.length → bs i = bsn bs cs.length d.b i := fun i hi => (if_neg (by omega)).symm
  have e1 : ents TO TN E bs d = ents TO TN E (bsn bs cs.length d.b) d := ents_congr d (by rw [hd]; intro i hi; cases hi)
  have e2 : [obox TO { c with v := v8 }, .arr v8 E 1 ((c.o.parts.map fun i => ptr (bs i)) ++ [ptr d.b]), onode TN c] = ents TO TN E (bsn bs cs.length d.b) (wpart c cs.length v8) := by
    show [_, ME.arr v8 E 1 _, _] = [_, ME.arr v8 E 1 ((c.o.parts ++ [cs.length]).map fun i => ptr (bsn bs cs.length d.b i)), _]
    rw [List.map_append, List.map_cons, List.map_nil, show bsn bs cs.length d.b cs.length = d.b from if_pos rfl, List.map_congr_left (fun i hi => by rw [hbo i (hpar _ _ hc i hi)])]
  have e3 : mem TO TN E bs (cs.eraseIdx a) = mem TO TN E (bsn bs cs.length d.b) (cs.eraseIdx a) := mem_congr _ (fun e he i hi => by
    obtain ⟨j, hj⟩ := List.getElem?_of_mem (List.mem_of_mem_eraseIdx he)
    exact hbo i (hpar _ _ hj i hi))
  rw [e1, e2, e3]
  exact (List.Perm.append_left _ (mem_back cs a (wpart c cs.length v8) ha)).trans (mem_snoc _ d)
theorem obs_at {i n : Nat} {c : Oc} (h : cs[i]? = some c) : (bd cs sk n).obs.getD i dO = c.o := by
  show (cs.map Oc.o).getD i dO = _
  rw [List.getD_eq_getElem?_getD, List.getElem?_map, h]; rfl
theorem bd_new {a : Nat} {c d : Oc} (ha : sk.getD (sk.length - 1) 0 = a) (hc : cs[a]? = some c) (v8 : Value) : (bd cs sk n).addPart d.o = bd (cs.set a (wpart c cs.length v8) ++ [d]) sk (n + 1) := by
  have hla : (bd cs sk n).last = a := ha
  unfold Bd.addPart
  rw [hla, obs_at (sk := sk) (n := n) hc]
  show Bd.mk ((cs.map Oc.o).set a { c.o with parts := c.o.parts ++ [(cs.map Oc.o).length] } ++ [d.o]) sk (n + 1) = Bd.mk ((cs.set a (wpart c cs.length v8) ++ [d]).map Oc.o) sk (n + 1)
  rw [List.map_append, List.map_set, List.length_map]; rfl
/-- A TEXT THAT GROWS -/
theorem Inv.grow (h : Inv bs cs sk r k n) {q : Nat} {c : Oc} (hc : cs[q]? = some c) (s : List UInt8) (hs : s.length ≤ 100) : Inv bs (cs.set q { c with o := { c.o with text := c.o.text ++ s } }) sk r (k + 1) n := by
  have hq := (List.getElem?_eq_some_iff.1 hc).1
  have hl : (cs.set q { c with o := { c.o with text := c.o.text ++ s } }).length = cs.length := List.length_set
  have hback : ∀ (j : Nat) (e : Oc), (cs.set q { c with o := { c.o with text := c.o.text ++ s } })[j]? = some e → ∃ e0 : Oc, cs[j]? = some e0 ∧ e.o.parts = e0.o.parts ∧ e.b = e0.b ∧ e.o.name = e0.o.name ∧ e.o.text.length ≤ e0.o.text.length + 100 ∧ e.o.attrs = e0.o.attrs := by
    intro j e he
    rcases Decidable.em (j = q) with rfl | hj
    · rw [List.getElem?_set_self hq] at he
      obtain rfl := Option.some.inj he
      exact ⟨c, hc, rfl, rfl, rfl, by show (c.o.text ++ s).length ≤ _; rw [List.length_append]; omega, rfl⟩
    · rw [List.getElem?_set_ne (Ne.symm hj)] at he
      exact ⟨e, he, rfl, rfl, rfl, by omega, rfl⟩
  have hfor : ∀ (j : Nat) (e : Oc), cs[j]? = some e → ∃ e' : Oc, (cs.set q { c with o := { c.o with text := c.o.text ++ s } })[j]? = some e' ∧ e'.o.elem = e.o.elem ∧ e'.b = e.b := by
    intro j e he
    rcases Decidable.em (j = q) with rfl | hj
    · rw [List.getElem?_set_self hq]
      rw [hc] at he; obtain rfl := Option.some.inj he
      exact ⟨_, rfl, rfl, rfl⟩
    · rw [List.getElem?_set_ne (Ne.symm hj)]
      exact ⟨e, he, rfl, rfl⟩
  refine ⟨⟨h.good.pos, h.good.len, ?_, h.good.hd⟩, ?_, ?_, ?_, ?_, by rw [hl]; have := h.len; omega, by rw [hl]; exact h.ski, Nat.le_succ_of_le h.skl, ?_, ?_, ?_, by rw [hl]; exact h.num⟩
  · intro i hi hi2
    obtain ⟨e, he, hee, heb⟩ := h.good.opn i hi hi2
    obtain ⟨e', h1, h2, h3⟩ := hfor _ _ he
    exact ⟨e', h1, h2.trans hee, by rw [heb, h3]⟩
  · obtain ⟨c0, h1, h2, h3⟩ := h.root
    obtain ⟨e', g1, g2, g3⟩ := hfor _ _ h1
    exact ⟨e', g1, g2.trans h2, g3.trans h3⟩
  · intro i e he
    obtain ⟨e0, h1, h2, h3, h4, h5, h6⟩ := hback i e he
    rw [h3]; exact h.bsb _ _ h1
  · intro i e he
    obtain ⟨e0, h1, h2, h3, h4, h5, h6⟩ := hback i e he
    rw [h2, hl]; exact ⟨Nat.le_succ_of_le (h.par _ _ h1).1, (h.par _ _ h1).2⟩
  · intro i e he
    obtain ⟨e0, h1, h2, h3, h4, h5, h6⟩ := hback i e he
    rw [h2]; exact h.asc _ _ h1
  · intro i e he
    obtain ⟨e0, h1, h2, h3, h4, h5, h6⟩ := hback i e he
    have := h.txt _ _ h1; omega
  · intro i e he
    obtain ⟨e0, h1, h2, h3, h4, h5, h6⟩ := hback i e he
    rw [h4]; exact h.nms _ _ h1
  · intro i e he
    obtain ⟨e0, h1, h2, h3, h4, h5, h6⟩ := hback i e he
    rw [h6]; exact h.att _ _ h1
theorem last_part (h : Inv bs cs sk r k n) {a : Nat} {c : Oc} (hc : cs[a]? = some c) (hp : 0 < c.o.parts.length) : ∃ cp, cs[c.o.parts.getD (c.o.parts.length - 1) 0]? = some cp ∧ bs (c.o.parts.getD (c.o.parts.length - 1) 0) = cp.b := by
  have hm : c.o.parts.getD (c.o.parts.length - 1) 0 ∈ c.o.parts := by
    rw [List.getD_eq_getElem?_getD, List.getElem?_eq_getElem (by omega)]; exact List.getElem_mem _
  have := ((h.par _ _ hc).2 _ hm).2
  exact ⟨_, List.getElem?_eq_getElem this, h.bsb _ _ (List.getElem?_eq_getElem this)⟩
theorem chars_eq {a : Nat} {c : Oc} (ha : sk.getD (sk.length - 1) 0 = a) (hc : cs[a]? = some c) (hn : c.o.name ≠ nm_script ∧ c.o.name ≠ nm_style) (s : List UInt8) (hs : s ≠ []) :
    (bd cs sk n).chars s = if c.o.parts ≠ [] ∧ ((bd cs sk n).obs.getD (c.o.parts.getD (c.o.parts.length - 1) 0) dO).elem = false then { bd cs sk n with obs := (bd cs sk n).obs.set (c.o.parts.getD (c.o.parts.length - 1) 0) { (bd cs sk n).obs.getD (c.o.parts.getD (c.o.parts.length - 1) 0) dO with text := ((bd cs sk n).obs.getD (c.o.parts.getD (c.o.parts.length - 1) 0) dO).text ++ s } } else (bd cs sk n).addPart ⟨false, [], [], s, []⟩ := by
  have hla : (bd cs sk n).last = a := ha
  unfold Bd.chars
  dsimp only
  rw [hla, obs_at (sk := sk) (n := n) hc, if_neg (by
    have h1 : (c.o.name == nm_script) = false := beq_eq_false_iff_ne.2 hn.1
    have h2 : (c.o.name == nm_style) = false := beq_eq_false_iff_ne.2 hn.2
    have h3 : (s == []) = false := beq_eq_false_iff_ne.2 hs
    simp only [mutes, List.any_cons, List.any_nil, Bool.or_false]
    rw [h3, show (c.o.name == [115, 99, 114, 105, 112, 116]) = false from h1, show (c.o.name == [115, 116, 121, 108, 101]) = false from h2]
    simp)]
theorem chars_grow {a q : Nat} {c cp : Oc} (ha : sk.getD (sk.length - 1) 0 = a) (hc : cs[a]? = some c) (hn : c.o.name ≠ nm_script ∧ c.o.name ≠ nm_style) (hp : 0 < c.o.parts.length) (hq : c.o.parts.getD (c.o.parts.length - 1) 0 = q) (hcp : cs[q]? = some cp) (he : cp.o.elem = false) (s : List UInt8) (hs : s ≠ []) :
    (bd cs sk n).chars s = bd (cs.set q { cp with o := { cp.o with text := cp.o.text ++ s } }) sk n := by
  rw [chars_eq ha hc hn s hs, hq, obs_at (sk := sk) (n := n) hcp, if_pos ⟨List.length_pos_iff.1 hp, he⟩]
  show Bd.mk ((cs.map Oc.o).set q _) sk n = Bd.mk ((cs.set q _).map Oc.o) sk n
  rw [List.map_set]
theorem chars_new0 {a : Nat} {c : Oc} (ha : sk.getD (sk.length - 1) 0 = a) (hc : cs[a]? = some c) (hn : c.o.name ≠ nm_script ∧ c.o.name ≠ nm_style) (hp : c.o.parts.length = 0) (s : List UInt8) (hs : s ≠ []) :
    (bd cs sk n).chars s = (bd cs sk n).addPart ⟨false, [], [], s, []⟩ := by
  rw [chars_eq ha hc hn s hs, if_neg (fun h => h.1 (List.eq_nil_of_length_eq_zero hp))]
theorem chars_new1 {a q : Nat} {c cp : Oc} (ha : sk.getD (sk.length - 1) 0 = a) (hc : cs[a]? = some c) (hn : c.o.name ≠ nm_script ∧ c.o.name ≠ nm_style) (hq : c.o.parts.getD (c.o.parts.length - 1) 0 = q) (hcp : cs[q]? = some cp) (he : cp.o.elem = true) (s : List UInt8) (hs : s ≠ []) :
    (bd cs sk n).chars s = (bd cs sk n).addPart ⟨false, [], [], s, []⟩ := by
  rw [chars_eq ha hc hn s hs, hq, obs_at (sk := sk) (n := n) hcp, if_neg (fun h => by rw [he] at h; exact absurd h.2 (by decide))]
/-- what starts -/
theorem start_eq (t : Tk) {SK1 SK2 : List Nat} (h1 : SK1 = ((bd cs sk 0).start1 t.name).stk) (h2 : SK2 = ((bd cs SK1 0).start2 t.name).stk) :
    (bd cs sk n).start t = if 10 < SK2.length then bd cs SK2 n else
      (if !t.self && !(voids.any fun b => t.name == b) then { (bd cs SK2 n).addPart ⟨true, t.name, t.attrs, [], []⟩ with stk := SK2 ++ [cs.length] } else (bd cs SK2 n).addPart ⟨true, t.name, t.attrs, [], []⟩) := by
  have e1 : (bd cs sk n).start1 t.name = bd cs SK1 n := by rw [start1_bd, start1_cnt cs sk n 0, ← h1]
  have e2 : (bd cs SK1 n).start2 t.name = bd cs SK2 n := by rw [start2_bd, start2_cnt cs SK1 n 0, ← h2]
  unfold Bd.start
  dsimp only
  rw [e1, e2]
  show (if 10 < SK2.length then _ else _) = _
  split
  · rfl
  · split
    · show Bd.mk _ (SK2 ++ [(cs.map Oc.o).length]) _ = _
      rw [List.length_map]
    · rfl
end
end Go.Vl.Opn
end

section
set_option linter.unusedVariables false
set_option linter.unusedSimpArgs false
namespace Go.Vl.Opn
theorem szs_sum (N : Nat) (g : Nat → Nd) : ∀ (l : List Nat) (j : Nat), j < N → l.Pairwise (· < ·) → (∀ i ∈ l, j < i ∧ i < N) → (∀ i ∈ l, (g i).sz ≤ 4 * 2 ^ (N - 1 - i)) → Nd.szs (l.map g) + 4 ≤ 4 * 2 ^ (N - 1 - j)
  | [], j, _, _, _, _ => by
    have : 1 ≤ 2 ^ (N - 1 - j) := Nat.one_le_two_pow
    show 0 + 4 ≤ _
    omega
  | i :: l, j, hj, hp, hr, hs => by
    have hi := hr i List.mem_cons_self
    have hp' := List.pairwise_cons.1 hp
    have ih := szs_sum N g l i hi.2 hp'.2 (fun q hq => ⟨hp'.1 q hq, (hr q (List.mem_cons_of_mem _ hq)).2⟩) (fun q hq => hs q (List.mem_cons_of_mem _ hq))
    have h1 := hs i List.mem_cons_self
    have h2 : 2 ^ (N - 1 - i + 1) ≤ 2 ^ (N - 1 - j) := Nat.pow_le_pow_right (by decide) (by omega)
    rw [Nat.pow_succ] at h2
    show (g i).sz + Nd.szs (l.map g) + 4 ≤ _
    omega
theorem szs_le (cs : List Oc) (hpar : ∀ (j : Nat) (c : Oc), cs[j]? = some c → ∀ i ∈ c.o.parts, j < i ∧ i < cs.length) (hasc : ∀ (j : Nat) (c : Oc), cs[j]? = some c → c.o.parts.Pairwise (· < ·)) (hatt : ∀ (j : Nat) (c : Oc), cs[j]? = some c → c.o.attrs.length ≤ 3) :
    ∀ (f j : Nat) (c : Oc), cs[j]? = some c → Nd.szs (Bd.nds (cs.map Oc.o) f j) + 4 ≤ 4 * 2 ^ (cs.length - 1 - j)
  | 0, j, c, h => by
    have : 1 ≤ 2 ^ (cs.length - 1 - j) := Nat.one_le_two_pow
    show 0 + 4 ≤ _
    omega
  | f + 1, j, c, h => by
    have hj := (List.getElem?_eq_some_iff.1 h).1
    have ho : ∀ (i : Nat) (d : Oc), cs[i]? = some d → (cs.map Oc.o).getD i dO = d.o := fun i d hd => by rw [List.getD_eq_getElem?_getD, List.getElem?_map, hd]; rfl
    rw [Bd.nds, ho j c h]
    refine szs_sum cs.length _ c.o.parts j hj (hasc j c h) (hpar j c h) (fun i hi => ?_)
    have hil := (hpar j c h i hi).2
    have hd : cs[i]? = some cs[i] := List.getElem?_eq_getElem hil
    have ih := szs_le cs hpar hasc hatt f i _ hd
    have ha := hatt i _ hd
    have h1 : 1 ≤ 2 ^ (cs.length - 1 - i) := Nat.one_le_two_pow
    rw [ho i _ hd]
    dsimp only
    split
    · rw [Nd.sz_eq]
      have e : Nd.szs (Nd.mk cs[i].o.name cs[i].o.attrs [] (Bd.nds (cs.map Oc.o) f i)).parts = Nd.szs (Bd.nds (cs.map Oc.o) f i) := rfl
      rw [e]
      show 1 + (cs[i]).o.attrs.length + _ ≤ _
      omega
    · rw [Nd.sz_eq]
      show 1 + 0 + 0 ≤ _
      omega
theorem Inv.sizes {bs : Nat → Nat} {cs : List Oc} {sk : List Nat} {r k n : Nat} (h : Inv bs cs sk r k n) (hk : k ≤ 21) (f : Nat) : Nd.szs (Bd.nds (cs.map Oc.o) f 0) ≤ 16777216 := by
  obtain ⟨c0, h0, _⟩ := h.root
  have h1 := szs_le cs (fun j c hc => (h.par j c hc).2) h.asc h.att f 0 c0 h0
  have h2 : 2 ^ (cs.length - 1 - 0) ≤ 2 ^ 21 := Nat.pow_le_pow_right (by decide) (by have := h.len; omega)
  have h3 : (2 : Nat) ^ 21 = 2097152 := by decide
  omega
/-- an end -/
theorem Inv.close {bs : Nat → Nat} {cs : List Oc} {sk : List Nat} {r k n : Nat} (h : Inv bs cs sk r k n) (nm : List UInt8) : Inv bs cs (if 0 < (bd cs sk 0).find nm then sk.take ((bd cs sk 0).find nm) else sk) r (k + 1) n := by
  have hc := Cut.close (cs := cs) h.good.pos n ((bd cs sk 0).find nm)
  rw [Bd.closeAt_stk] at hc
  exact (h.cut hc).mono
theorem close_eq (cs : List Oc) (sk : List Nat) (n : Nat) (nm : List UInt8) : bd cs (if 0 < (bd cs sk 0).find nm then sk.take ((bd cs sk 0).find nm) else sk) n = (bd cs sk n).closeAt ((bd cs sk n).find nm) := by
  rw [closeAt_bd, Bd.closeAt_stk, find_cnt cs sk n 0]
/-- a token that may be built -/
def okt (t : Tk) : Prop := (t.kind = 1 ∨ t.kind = 2 ∨ t.kind = 3 ∨ t.kind = 4) ∧ (t.kind = 1 → (t.name ≠ nm_script ∧ t.name ≠ nm_style) ∧ t.attrs.length ≤ 3) ∧ (t.kind = 3 → t.text ≠ [] ∧ t.text.length ≤ 100)
theorem drawns_mem : ∀ {p : Bool} {l : List Tk}, Tk.drawns p l → ∀ t ∈ l, Tk.drawn t
  | _, [], _, t, ht => by cases ht
  | _, a :: l, h, t, ht => by
    rcases List.mem_cons.1 ht with rfl | ht
    · exact h.2.1
    · exact drawns_mem h.2.2 t ht
theorem okt_drawn {t : Tk} (h : Tk.drawn t) : okt t := by
  rcases h with ⟨h1, h2, ⟨h3, h4⟩, h5⟩ | ⟨h1, h2, h3, h4, h5⟩ | ⟨h1, h2, h3, h4, h5⟩
  · refine ⟨.inl h1, fun _ => ⟨?_, ?_⟩, fun h => absurd h (by omega)⟩
    · simp only [Tk.nm5, List.mem_cons, List.not_mem_nil, or_false] at h2
      rcases h2 with h | h | h | h | h <;> rw [h] <;> exact ⟨by decide, by decide⟩
    · have e := congrArg List.length h3
      rw [List.length_map, List.length_take] at e
      have : Tk.at2.length ≤ 3 := by decide
      omega
  · exact ⟨.inr (.inl h1), fun h => absurd h (by omega), fun h => absurd h (by omega)⟩
  · refine ⟨.inr (.inr (.inl h1)), fun h => absurd h (by omega), fun _ => ?_⟩
    simp only [Tk.tx7, List.mem_cons, List.not_mem_nil, or_false] at h5
    rcases h5 with h | h | h | h | h | h | h <;> rw [h] <;> exact ⟨by decide, by decide⟩
theorem okt_drawns {p : Bool} {l : List Tk} (h : Tk.drawns p l) : ∀ t ∈ l, okt t := fun t ht => okt_drawn (drawns_mem h t ht)
theorem zz_drawns {p : Bool} {l : List Tk} (h : Tk.drawns p l) : ∀ t ∈ l, t.name ≠ [122, 122] := fun t ht => by
  rcases drawns_mem h t ht with ⟨h1, h2, _⟩ | ⟨h1, h2, _⟩ | ⟨h1, h2, _⟩
  · simp only [Tk.nm5, List.mem_cons, List.not_mem_nil, or_false] at h2
    rcases h2 with h | h | h | h | h <;> rw [h] <;> decide
  · simp only [Tk.nm5, List.mem_cons, List.not_mem_nil, or_false] at h2
    rcases h2 with h | h | h | h | h <;> rw [h] <;> decide
  · rw [h2]; decide
theorem step1 (S : Bd) {t : Tk} (h : t.kind = 1) : S.step t = S.start t := by rw [Bd.step, if_pos h]
theorem step2 (S : Bd) {t : Tk} (h : t.kind = 2) : S.step t = S.closeAt (S.find t.name) := by rw [Bd.step, if_neg (by omega), if_pos h]
theorem step3 (S : Bd) {t : Tk} (h : t.kind = 3) : S.step t = S.chars t.text := by rw [Bd.step, if_neg (by omega), if_neg (by omega), if_pos h]
theorem step4 (S : Bd) {t : Tk} (h : t.kind = 4) : S.step t = S := by rw [Bd.step, if_neg (by omega), if_neg (by omega), if_neg (by omega)]
/-- the beginning -/
theorem Inv.root0 (b : Nat) : Inv (fun _ => b) [⟨dO, b, 0, .slice none 0 0⟩] [0] b 0 0 := by
  have key : ∀ (j : Nat) (c : Oc), ([⟨dO, b, 0, .slice none 0 0⟩] : List Oc)[j]? = some c → c = ⟨dO, b, 0, .slice none 0 0⟩ := fun j c h => List.mem_singleton.1 (List.mem_of_getElem? h)
  refine ⟨⟨by decide, by decide, ?_, rfl⟩, ⟨_, rfl, rfl, rfl⟩, fun i c h => by rw [key i c h], fun j c h => by rw [key j c h]; exact ⟨Nat.le_refl _, fun i hi => absurd hi (by simp)⟩, fun j c h => by rw [key j c h]; exact List.Pairwise.nil, Nat.le_refl 1, ?_, Nat.le_refl 1, fun j c h => by rw [key j c h]; exact Nat.zero_le _, fun j c h => by rw [key j c h]; exact ⟨(by decide : ([] : List UInt8) ≠ nm_script), (by decide : ([] : List UInt8) ≠ nm_style)⟩, fun j c h => by rw [key j c h]; exact Nat.zero_le _, rfl⟩
  · intro i hi hi2
    have : i < 1 := hi2
    omega
  · intro i hi
    have : i < 1 := hi
    obtain rfl : i = 0 := by omega
    exact Nat.zero_lt_one
end Go.Vl.Opn
end

section
set_option linter.unusedVariables false
set_option linter.unusedSimpArgs false
set_option linter.unusedSectionVars false
namespace Go.Vl
open Go Go.Sem
section view
variable {x : Cx} {L : List (Tmp × Bool × AV)} {M : List ME} {ops : Array Oper} {Q : Exit → Act → World → Prop} {rest : List Oper} {ty : TypeId} {pos : String} {aft : Array Edge}
/-- a source of sn elements, of which the first are xs -/
def SrcN (P : Program) (w : World) (N : List Nat) (k : Nat) (v : Value) (sn : Nat) (xs : List AV) : Prop :=
  (Builtin.lenOf v).run P w = .ok sn w ∧ xs.length ≤ sn ∧ ∃ news : Array Value, news.size = xs.length * k ∧ RepE w N k xs news.toList ∧ (∀ u ∈ news.toList, shV u = 0) ∧
    ∀ w' : World, w'.heap = w.heap → (Builtin.firstCells k xs.length v).run P w' = .ok news w'
theorem Src.toN {P : Program} {w : World} {N : List Nat} {k sn cap cap' : Nat} {ad : Option Addr} {xs : List AV} (h : Src P w N k (.slice ad xs.length cap) xs) (hs : xs.length ≤ sn) : SrcN P w N k (.slice ad sn cap') sn xs := by
  obtain ⟨_, news, h2, h3, h4, h5⟩ := h
  refine ⟨by simp [Builtin.lenOf], hs, news, h2, h3, h4, fun w' hw => ?_⟩
  have := h5 w' hw
  cases ad <;> simpa only [Builtin.firstCells] using this
theorem SrcN.to {P : Program} {w : World} {N : List Nat} {k : Nat} {v : Value} {xs : List AV} (h : SrcN P w N k v xs.length xs) : Src P w N k v xs := ⟨h.1, h.2.2⟩
/-- an operand that copy may take its elements from -/
def VwOv (x : Cx) (L : List (Tmp × Bool × AV)) (M : List ME) (o : Operand) (k sn : Nat) (xs : List AV) : Prop := ∀ a w, St x L M a w → SrcN x.P w (bl M ++ x.F) k (a.eval o) sn xs
/-- elements of an own row -/
theorem VwOv.own (i : Nat) {o : Operand} {g off n cap p sn c U k : Nat} {ad : Option Addr} {es xs : List AV} (h : Ov true L o (.lit (.slice ad sn c))) (ha : xs = [] ∨ ad = some ⟨g, off + p * k, none⟩) (hM : M[i]? = some (ME.arr (.slice (some ⟨g, off, none⟩) n cap) U k es)) (hx : xs = (es.drop p).take xs.length) (hp : p ≤ es.length) (hq : xs.length ≤ sn) (ho : ∀ e ∈ xs, e.okc = true) : VwOv x L M o k sn xs := by
  intro a w hs
  rw [h.lit rfl hs]
  refine Src.toN (cap := c) ?_ hq
  refine src_cells rfl ho ?_
  obtain ⟨ad, cp, e, h1, h2, h3⟩ := hs.mem.holds _ (List.mem_of_getElem? hM)
  cases e
  rcases h3 with ⟨h3, _⟩ | ⟨g', off', cur, lo, hi, h4, h5, _, _, h6⟩
  · cases h3
  · cases h4
    rcases ha with ha | ha
    · exact .inl ha
    refine .inr ⟨g, _, cur, U, (lo, hi), ha, h5, ?_⟩
    rw [hx, ← List.drop_drop]
    exact (h6.drop p hp).take _
/-- the elements of a box, seen as_ a row of one -/
theorem VwOv.box (i : Nat) {o : Operand} {b c U k : Nat} {cs : List AV} {e : AV} (h : Ov true L o (.lit (.slice (some ⟨b, 0, none⟩) 1 c))) (hM : M[i]? = some (ME.box b U cs)) (hk : cs.length = k) (he : e.cells = cs) (ho : e.okc = true) : VwOv x L M o k 1 [e] := by
  intro a w hs
  rw [h.lit rfl hs]
  refine Src.toN (cap := c) ?_ (by simp)
  refine src_cells rfl (by simpa using ho) (.inr ?_)
  obtain ⟨cur, h1, h2⟩ := hs.mem.holds _ (List.mem_of_getElem? hM)
  refine ⟨b, 0, cur, U, _, rfl, h1, ?_⟩
  have hl := h2.length
  rw [List.drop_zero]
  refine ⟨by omega, RepC.ofL ho ?_, trivial⟩
  rw [List.take_of_length_le (by omega), he]
  exact h2
theorem VwOv.src {o : Operand} {k : Nat} {xs : List AV} (h : SrcOv x L M o k xs) : VwOv x L M o k xs.length xs := fun a w hs => by
  have h1 := h.src hs
  exact ⟨h1.1, Nat.le_refl _, h1.2⟩

theorem run_copy {P : Program} {w : World} {T T' E k bytes : Nat} {z : Value} {g p dn dc lo hi sn : Nat} {cur : Array Value} {U : TypeId} {xv : Value} {N : List Nat} {xs : List AV} (hT : P.underlying T = some (.slice E)) (hE : Ty P E k bytes z)
    (hc : w.heap[g]? = some (.cells cur U (lo, hi))) (hsz : p + xs.length * k ≤ cur.size) (hfr : hi ≤ lo ∨ p + xs.length * k ≤ lo) (hx : SrcN P w N k xv sn xs) (hq : xs.length = Nat.min sn dn) :
    ∃ news : Array Value, news.size = xs.length * k ∧ RepE w N k xs news.toList ∧ (Builtin.copy_ #[T, T'] ty #[.slice (some ⟨g, p, none⟩) dn dc, xv]).run P w =
      .ok (.int .i64 (xs.length : Int)) { w with heap := w.heap.setIfInBounds g (.cells (wr cur p news.toList) U (lo, hi)) } := by
  obtain ⟨hlen, _, news, hn1, hn2, hn3, hn4⟩ := hx
  have hf := hn4 w rfl
  have hst := run_storeCells (P := P) (g := g) (off := p) (T := U) (lo := lo) (hi := hi) news.toList 0 cur w hc (by simp; omega) (by simp; omega) hn3
  refine ⟨news, hn1, hn2, ?_⟩
  rw [Nat.add_zero] at hst
  rw [hq] at hf
  simp only [Builtin.copy_, List.getElem?_toArray, List.getElem?_cons_zero, List.getElem?_cons_succ, Sem.run_bind, run_underlying hT, Result.andThen_ok, hE.size, hlen, hf, hst, Sem.run_pure, goInt, hq]

/-- what a row holds after a write of elements -/
theorem RepE.over {w : World} {N : List Nat} {k j off : Nat} {es xs : List AV} {cur nl : List Value} (h : RepE w N k es (cur.drop off)) (hx : RepE w N k xs nl) (hn : nl.length = xs.length * k) (hj : j ≤ es.length) (hoff : off ≤ cur.length) :
    RepE w N k (es.take j ++ xs ++ es.drop (j + xs.length)) ((cur.take (off + j * k) ++ nl ++ cur.drop (off + j * k + nl.length)).drop off) := by
  have hlen := h.len
  have hjk : j * k ≤ es.length * k := Nat.mul_le_mul_right _ hj
  rw [List.length_drop] at hlen
  have e1 : (cur.take (off + j * k) ++ nl ++ cur.drop (off + j * k + nl.length)).drop off = (cur.drop off).take (j * k) ++ (nl ++ (cur.drop off).drop (j * k + nl.length)) := by
    rw [List.append_assoc, List.drop_append_of_le_length (by rw [List.length_take]; omega), List.drop_take, Nat.add_sub_cancel_left, List.drop_drop, Nat.add_assoc]
  rw [e1]
  have hS : (cur.drop off).length = cur.length - off := List.length_drop ..
  generalize cur.drop off = S at h hS
  have htl : (S.take (j * k)).length = j * k := by rw [List.length_take]; omega
  have hjl : (es.take j).length = j := by rw [List.length_take]; omega
  rw [List.append_assoc]
  refine RepE.append (RepE.congr (h.take j) ?_) ?_
  · rw [hjl, List.take_append_of_le_length (by omega), List.take_take, Nat.min_self]
  · rw [hjl, List.drop_append_of_le_length (by omega), List.drop_of_length_le (l := S.take (j * k)) (by omega), List.nil_append]
    refine RepE.append (RepE.congr hx (by rw [List.take_append_of_le_length (by omega)])) ?_
    rw [List.drop_append_of_le_length (by omega), List.drop_of_length_le (l := nl) (by omega), List.nil_append, hn, ← Nat.add_mul]
    by_cases hle : j + xs.length ≤ es.length
    · exact h.drop _ hle
    · rw [List.drop_of_length_le (by omega)]; simp [RepE]

theorem W.copy (i : Nat) {d : Tmp} {T T' E k bytes : Nat} {z : Value} {o1 o2 : Operand} {g off n cap j dn dc sn U : Nat} {es xs : List AV} (h1 : Ov true L o1 (.lit (.slice (some ⟨g, off + j * k, none⟩) dn dc))) (hM : M[i]? = some (ME.arr (.slice (some ⟨g, off, none⟩) n cap) U k es)) (h2 : VwOv x L M o2 k sn xs)
    (hT : x.P.underlying T = some (.slice E)) (hE : Ty x.P E k bytes z) (hq : xs.length = Nat.min sn dn) (hj : j ≤ es.length) (hc : j + xs.length ≤ cap) {n' : Nat} {es' : List AV} (he' : es' = es.take j ++ xs ++ es.drop (j + xs.length)) (hn' : n' = es'.length) (hd : Nat.blt d x.n = true)
    (next : W x ((d, true, .lit (.int .i64 (xs.length : Int))) :: L) (M.set i (ME.arr (.slice (some ⟨g, off, none⟩) n' cap) U k es')) (wpList x.P ops Q rest)) :
    W x L M (wpList x.P ops Q (⟨some d, .call ⟨.builtin .copy, #[o1, o2], #[T, T']⟩, ty, pos, aft, none⟩ :: rest)) := by
  subst he'
  refine W.opv (ι := Unit) (fun _ => M.set i (ME.arr (.slice (some ⟨g, off, none⟩) n' cap) U k (es.take j ++ xs ++ es.drop (j + xs.length)))) (fun _ => .lit (.int .i64 (xs.length : Int))) hd ?_ (fun _ => next)
  intro a w hs
  have hsrc := h2 a w hs
  have e1 := h1.lit rfl hs
  obtain ⟨ad, cp, e, hlc, hcm, hcase⟩ := hs.mem.holds _ (List.mem_of_getElem? hM)
  cases e
  rcases hcase with ⟨h3, _⟩ | ⟨g', off', cur, lo, hi, h4, hcur, hsz, hfr, hrE⟩
  · cases h3
  cases h4
  have hmul : (j + xs.length) * k ≤ cap * k := Nat.mul_le_mul_right _ hc
  rw [Nat.add_mul] at hmul
  obtain ⟨news, hn1, hn2, hrun⟩ := run_copy (ty := ty) (T' := T') (dc := dc) hT hE hcur (p := off + j * k) (by omega) (by omega) hsrc hq
  have hlt : (es.take j ++ xs ++ es.drop (j + xs.length)).length ≤ cap := by simp only [List.length_append, List.length_take, List.length_drop]; omega
  refine ⟨.int .i64 (xs.length : Int), { w with heap := w.heap.setIfInBounds g (.cells (wr cur (off + j * k) news.toList) U (lo, hi)) }, (), ?_, ?_, Rep.lit _⟩
  · simp only [execOp, resolve, invoke, builtin, Sem.run_bind, Sem.run_pure, Result.andThen_ok, List.map_toArray, List.map_cons, List.map_nil, e1, hrun]
  · refine hs.write hM rfl rfl ?_
    intro w' hother hnew hk'
    have hnl : news.toList.length = xs.length * k := by simpa using hn1
    refine ⟨some ⟨g, off, none⟩, cap, by rw [hn'], hlt, hcm, .inr ⟨g, off, _, lo, hi, rfl, hnew, ?_, hfr, ?_⟩⟩
    · rw [wr_size _ _ _ (by omega)]; exact hsz
    · simp only [wr, List.toList_toArray]
      exact RepE.over (RepE.keep hk' _ _ _ hrE) (RepE.keep hk' _ _ _ hn2) hnl hj (by simp; omega)

/-- a part of an own row: the bounds may reach up to the capacity -/
theorem run_boundsC {g : Bool} {len cap : Nat} {lo hi : Option Operand} {l h : Int} {a : Act} {w : World} (hst : St x L M a w) (hg : g = true) (hlo : BndOv g L 0 lo l) (hhi : BndOv g L len hi h) (h0 : 0 ≤ l) (h1 : l ≤ h) (h2 : h ≤ cap) :
    (Instr.sliceBounds true len cap (lo.map a.eval) (hi.map a.eval) none).run x.P w = .ok (l.toNat, h.toNat, cap) w := by
  have hb : ∀ (n : Int) (y : Nat) c, 0 ≤ n → n ≤ y → (Instr.sliceBound (.int .i64 n) y c).run x.P w = .ok n.toNat w := fun n y c hn hy => by
    simp [Instr.sliceBound, asIntOf, hn, hy]
  unfold Instr.sliceBounds
  cases lo with
  | none =>
    simp only [BndOv] at hlo
    subst hlo
    cases hi with
    | none =>
      simp only [BndOv] at hhi
      subst hhi
      simp
    | some o =>
      have e := hhi.lit hg hst
      simp only [Option.map_none, Option.map_some, e, Sem.run_bind, Sem.run_pure, Result.andThen_ok]
      rw [hb _ _ _ (by omega) (by omega)]
      simp
  | some o' =>
    have e' := hlo.lit hg hst
    cases hi with
    | none =>
      simp only [BndOv] at hhi
      subst hhi
      simp only [Option.map_none, Option.map_some, e', Sem.run_bind, Sem.run_pure, Result.andThen_ok]
      rw [hb _ _ _ (by omega) (by omega)]
      simp
    | some o =>
      have e := hhi.lit hg hst
      simp only [Option.map_some, e, e', Sem.run_bind, Sem.run_pure, Result.andThen_ok]
      rw [hb _ _ _ (by omega) (by omega)]
      simp only [Result.andThen_ok]
      rw [hb _ _ _ (by omega) (by omega)]
      simp
/-- a slice expression at a slice that is known -/
theorem Ev.slit {g : Bool} {T E k bytes : Nat} {z : Value} {o1 : Operand} {lo hi : Option Operand} {i j : Int} {ad : Option Addr} {n cap : Nat} {v : Value} (h1 : Ov g L o1 (.lit (.slice ad n cap))) (hT : x.P.underlying T = some (.slice E)) (hE : Ty x.P E k bytes z) (hlo : BndOv g L 0 lo i) (hhi : BndOv g L (n : Int) hi j)
    (hb : g = true → 0 ≤ i ∧ i ≤ j ∧ j ≤ cap) (hv : v = .slice (if cap = i.toNat then ad else ad.map (·.add (i.toNat * k))) (j.toNat - i.toNat) (cap - i.toNat)) : Ev x g L M (.slice T o1 lo hi none) ty (.lit v) := Ev.pure fun a w hs hg => by
  obtain ⟨b1, b2, b3⟩ := hb hg
  have hr := run_boundsC (len := n) (cap := cap) hs hg hlo hhi b1 b2 b3
  subst hv
  simp only [execOp, h1.lit hg hs, Option.map_none, Instr.sliceAt, Instr.slice, Sem.run_bind, run_underlying hT, Result.andThen_ok, hr, hE.size, Sem.run_pure]
/-- s[:q] -/
theorem Ev.slit0 {g : Bool} {T E k bytes : Nat} {z : Value} {o1 : Operand} {hi : Option Operand} {j : Int} {b off n cap q : Nat} (h1 : Ov g L o1 (.lit (.slice (some ⟨b, off, none⟩) n cap))) (hT : x.P.underlying T = some (.slice E)) (hE : Ty x.P E k bytes z) (hhi : BndOv g L (n : Int) hi j)
    (hj : j = (q : Int)) (hb : q ≤ cap) : Ev x g L M (.slice T o1 none hi none) ty (.lit (.slice (some ⟨b, off, none⟩) q cap)) := by
  subst hj
  refine Ev.slit (i := 0) h1 hT hE rfl hhi (fun _ => by omega) ?_
  simp [Addr.add_lit]
/-- where an own row lies, if it has elements -/
theorem W.arr_lit {R : Act → World → Prop} (i : Nat) {v : Value} {U k : Nat} {es : List AV} (hM : M[i]? = some (.arr v U k es)) (hes : 0 < es.length) (h : ∀ g off c, v = .slice (some ⟨g, off, none⟩) es.length c → es.length ≤ c → c ≤ maxLen → W x L M R) : W x L M R := fun a w hs => by
  obtain ⟨ad, cap, e, h1, h2, h3⟩ := hs.mem.holds _ (List.mem_of_getElem? hM)
  rcases h3 with ⟨_, h3⟩ | ⟨g, off, cur, lo, hi, rfl, _⟩
  · omega
  · exact h _ _ _ e h1 h2 a w hs
/-- an operation whose value nobody keeps -/
theorem W.opn {ι : Type} {op : Op} (Mf : ι → List ME)
    (step : ∀ a w, St x L M a w → ∃ w' v z, (execOp a.eval ⟨none, op, ty, "", #[], none⟩).run x.P w = .ok (.value v) w' ∧ St x L (Mf z) a w')
    (next : ∀ z, W x L (Mf z) (wpList x.P ops Q rest)) : W x L M (wpList x.P ops Q (⟨none, op, ty, pos, aft, none⟩ :: rest)) := by
  intro a w hs
  obtain ⟨w', v, z, hr, hs'⟩ := step a w hs
  refine wpList_cons_want (by simp [Region.wanted]) ?_
  unfold Oper.wp
  rw [execOp_bare, hr]
  exact next z _ _ hs'
/-- what lies behind the elements is cleared -/
theorem W.clear (i : Nat) {T E k bytes : Nat} {z : Value} {o1 : Operand} {g off n cap j m c U : Nat} {es : List AV} (h1 : Ov true L o1 (.lit (.slice (some ⟨g, off + j * k, none⟩) m c))) (hM : M[i]? = some (ME.arr (.slice (some ⟨g, off, none⟩) n cap) U k es))
    (hT : x.P.underlying T = some (.slice E)) (hE : Ty x.P E k bytes z) (hzk : z.cells.size = k) (hz : z.cells.toList.all (fun v => shV v == 0) = true) (hj : es.length ≤ j) (hc : j + m ≤ cap)
    (next : W x L M (wpList x.P ops Q rest)) :
    W x L M (wpList x.P ops Q (⟨none, .call ⟨.builtin .clear, #[o1], #[T]⟩, ty, pos, aft, none⟩ :: rest)) := by
  have hset := set_self hM
  rw [← hset] at next
  refine W.opn (ι := Unit) (fun _ => M.set i (ME.arr (.slice (some ⟨g, off, none⟩) n cap) U k es)) ?_ (fun _ => next)
  intro a w hs
  have e1 := h1.lit rfl hs
  obtain ⟨ad, cp, e, hlc, hcm, hcase⟩ := hs.mem.holds _ (List.mem_of_getElem? hM)
  cases e
  rcases hcase with ⟨h3, _⟩ | ⟨g', off', cur, lo, hi, h4, hcur, hsz, hfr, hrE⟩
  · cases h3
  cases h4
  by_cases hm : m = 0
  · subst hm
    refine ⟨w, .tuple #[], (), ?_, by rw [hset]; exact hs⟩
    simp [execOp, resolve, invoke, builtin, e1, Builtin.clear_, run_underlying hT]
  · have hzs : (Builtin.zeroCells z.cells m).size = m * k := by simp [Builtin.zeroCells, hzk]
    have hmul : (j + m) * k ≤ cap * k := Nat.mul_le_mul_right _ hc
    rw [Nat.add_mul] at hmul
    have hzl : (Builtin.zeroCells z.cells m).toList.length = m * k := by rw [Array.length_toList]; exact hzs
    have hz0 : ∀ u ∈ (Builtin.zeroCells z.cells m).toList, shV u = 0 := by
      intro u hu
      simp only [Builtin.zeroCells, Array.toList_map, List.mem_map] at hu
      obtain ⟨q, hq, rfl⟩ := hu
      have hq' : q < m * z.cells.size := by simpa using hq
      have hpos : 0 < z.cells.size := by rcases Nat.eq_zero_or_pos z.cells.size with h | h; rw [h] at hq'; omega; exact h
      have hlt : q % z.cells.size < z.cells.size := Nat.mod_lt _ hpos
      rw [List.all_eq_true] at hz
      have := hz (z.cells[q % z.cells.size]!) (by rw [Array.mem_toList_iff, getElem!_pos z.cells _ hlt]; exact Array.getElem_mem hlt)
      simpa using this
    have hst := run_storeCells (P := x.P) (g := g) (off := off + j * k) (T := U) (lo := lo) (hi := hi) (Builtin.zeroCells z.cells m).toList 0 cur w hcur (by omega) (by omega) hz0
    rw [Nat.add_zero] at hst
    refine ⟨{ w with heap := w.heap.setIfInBounds g (.cells (wr cur (off + j * k) (Builtin.zeroCells z.cells m).toList) U (lo, hi)) }, .tuple #[], (), ?_, ?_⟩
    · simp only [execOp, resolve, invoke, builtin, Sem.run_bind, Sem.run_pure, Result.andThen_ok, List.map_toArray, List.map_cons, List.map_nil, e1, Builtin.clear_, List.getElem?_toArray, List.getElem?_cons_zero, run_underlying hT]
      cases m with
      | zero => exact absurd rfl hm
      | succ m => simp only [Sem.run_bind, hE.zero, Result.andThen_ok, hst, Sem.run_pure]
    · refine hs.write hM rfl rfl ?_
      intro w' hother hnew hk'
      have hlen := hrE.len
      have hjm : es.length * k ≤ j * k := Nat.mul_le_mul_right _ hj
      refine ⟨some ⟨g, off, none⟩, cap, rfl, hlc, hcm, .inr ⟨g, off, _, lo, hi, rfl, hnew, ?_, hfr, ?_⟩⟩
      · rw [wr_size _ _ _ (by omega)]; exact hsz
      · refine RepE.congr (RepE.keep hk' _ _ _ hrE) ?_
        have hcl : cur.toList.length = cur.size := Array.length_toList
        simp only [wr, List.toList_toArray]
        rw [List.append_assoc, List.drop_append_of_le_length (by simp; omega), List.drop_take, Nat.add_sub_cancel_left, List.take_append_of_le_length (by simp; omega), List.take_take, Nat.min_eq_left hjm]
/-- a zero value as_ an element -/
theorem RepC.zero {w : World} {N : List Nat} {z : Value} {e : AV} (hz : z.cells.toList.all (fun v => shV v == 0) = true) (he : e = match z.cells.toList with | [v] => if shV z == 1 then .agg [.lit v] else .lit v | l => .agg (l.map .lit)) : RepC w N e z.cells.toList := by
  have hL : ∀ l : List Value, l.all (fun v => shV v == 0) = true → RepL w N (l.map .lit) l := by
    intro l
    induction l with
    | nil => intro _; simp [RepL]
    | cons v l ih =>
      intro hz
      simp only [List.all_cons, Bool.and_eq_true, beq_iff_eq] at hz
      simp only [List.map_cons, RepL]
      exact ⟨v, l, rfl, ⟨hz.1, hz.1, by simp only [RepC, cells_of_sh hz.1]⟩, ih hz.2⟩
  subst he
  have := hL _ hz
  revert this hz
  generalize z.cells.toList = l
  intro hz this
  match l with
  | [] => simpa [RepC] using this
  | [v] =>
    simp only [List.all_cons, List.all_nil, Bool.and_true, beq_iff_eq] at hz
    dsimp only
    split
    · simpa only [RepC, List.map_cons, List.map_nil] using this
    · simp only [RepC, cells_of_sh hz]
  | u :: v :: l => simpa only [RepC] using this
end view
end Go.Vl
end

section
set_option linter.unusedVariables false
set_option linter.unusedSimpArgs false
namespace Go.Vl
theorem RepL.repE1 {w : World} {N : List Nat} : ∀ {cs : List AV} {row : List Value}, RepL w N cs row → RepE w N 1 cs row
  | [], row, h => by simp [RepE]
  | c :: cs, row, h => by
    simp only [RepL] at h
    obtain ⟨v, vs, rfl, ⟨h1, h2, h3⟩, h4⟩ := h
    simp only [RepE]
    exact ⟨by simp, h3, RepL.repE1 h4⟩
section
variable {x : Cx} {g : Bool} {L : List (Tmp × Bool × AV)} {M : List ME} {ty : TypeId}
theorem Ev.gsl (i : Nat) {T E U k b bytes n : Nat} {z : Value} {o1 : Operand} {cs : List AV} (h1 : Ov g L o1 (.lit (.pointer (some ⟨b, 0, none⟩)))) (hT : x.P.underlying T = some (.array n E)) (hE : Ty x.P E k bytes z)
    (hM : M[i]? = some (.shr b U cs)) (hn : cs.length = n) (hn0 : 0 < n) (hn1 : n ≤ maxLen) : Ev x g L M (.slice T o1 none none none) ty (.sl 1 cs) := fun a w hs hg => by
  obtain ⟨hb, cur, hc, hrl⟩ := hs.mem.holds _ (List.mem_of_getElem? hM)
  refine ⟨.slice (some ⟨b, 0, none⟩) n n, ?_, rfl, ?_⟩
  · have hne : ¬ n = 0 := by omega
    simp [execOp, h1.lit hg hs, Instr.sliceAt, run_underlying hT, Instr.sureAddr, Instr.sliceBounds, hE.size, hne, Addr.add_lit]
  · simp only [RepC]
    exact ⟨_, _, by rw [hn]; rfl, by rw [hn]; exact Nat.le_refl _, hn1, .inr ⟨b, 0, cur, U, (0, 0), rfl, hb, hc, hrl.repE1⟩⟩
end
/-- an own row may be given where an immutable one is read -/
theorem FnC.give {P : Program} {f : FuncId} {k : Nat} {es : List AV} {M0 : List ME} {post : AV → List ME → Prop} (h : FnC P f [.sl k es] M0 post) (v : Value) (T : TypeId) : FnC P f [.lit v] (.arr v T k es :: M0) post := by
  refine ⟨h.1, fun w F vs hF hm ha => ?_⟩
  obtain ⟨u, us, rfl, hu, hus⟩ : ∃ u us, vs = u :: us ∧ Rep w (bl (.arr v T k es :: M0) ++ F) (.lit v) u ∧ us = [] := by
    simp only [RepT] at ha
    obtain ⟨u, us, h1, h2, h3⟩ := ha
    exact ⟨u, us, h1, h2, h3⟩
  subst hus
  have huv := Rep.lit_iff.1 hu
  subst huv
  have hp2 : List.Perm (ME.arr u T k es :: M0) (M0 ++ [ME.arr u T k es]) := (List.perm_append_comm (l₁ := [_]))
  obtain ⟨hmem, hk, hsub⟩ := hm.sub hp2
  obtain ⟨ad, cap, e, h1, h2, h3⟩ := hm.holds _ List.mem_cons_self
  have hv : Rep w (bl M0 ++ F) (.sl k es) u := by
    rw [e]
    refine Rep.slI h1 h2 ?_
    rcases h3 with ⟨_, hc⟩ | ⟨g, off, cur, lo, hi, rfl, hc, _, _, hE⟩
    · left; exact List.eq_nil_of_length_eq_zero (by omega)
    · refine .inr ⟨g, off, cur, T, (lo, hi), rfl, ?_, hc, RepE.keep hk _ _ _ hE⟩
      have hg : g ∈ bl [ME.arr u T k es] := by subst e; simp [Vl.bl, ME.blks]
      have hbl : bl (ME.arr u T k es :: M0) = bl [ME.arr u T k es] ++ bl M0 := by simp [Vl.bl]
      intro hin
      rcases List.mem_append.1 hin with hin | hin
      · have hnd := hm.nodup
        rw [hbl] at hnd
        exact (List.nodup_append.1 hnd).2.2 g hg g hin rfl
      · refine hm.apart g ?_ hin
        rw [hbl]
        exact List.mem_append_left _ hg
  refine (h.2 w F [u] hF hmem (by simp only [RepT]; exact ⟨_, _, rfl, hv, rfl⟩)).mono ?_
  rintro e' w' ⟨v', r, M', h4, h5, h6, h7, h8⟩
  exact ⟨v', r, M', h4, h5, h6, h7, h8.os, h8.tape, h8.output, h8.size, fun j hj hn => h8.block j hj (fun h' => hn (hsub j h'))⟩
end Go.Vl
end

section
set_option linter.unusedVariables false
set_option linter.unusedSimpArgs false
namespace Go.Vl
/-- a change -/
structure Ch where
  kind : Int
  path : List Int
  node : Nd
abbrev Ch.dfl : Ch := ⟨0, [], Nd.dflt⟩
namespace Nd
end Nd
section app0
open Go Go.Sem
variable {x : Cx} {L : List En} {M : List ME} {ty : TypeId} {pos : String} {aft : Array Edge}
/-- append onto nil: a row of its own that nothing writes -/
theorem Sv.app0 {d : Tmp} {T T' E k bytes : Nat} {z : Value} {o1 o2 : Operand} {xs : List AV} (h1 : Ov true L o1 (.lit (.slice none 0 0))) (h2 : SrcOv x L M o2 k xs) (hT : x.P.underlying T = some (.slice E)) (hT' : NotInt x.P T') (hE : Ty x.P E k bytes z) (hzk : z.cells.size = k)
    (hb1 : Nat.ble 1 bytes = true) (hb : xs.length * bytes ≤ 140737488355328) : Sv x L M ⟨some d, .call ⟨.builtin .append, #[o1, o2], #[T, T']⟩, ty, pos, aft, none⟩ (.sl k xs) := by
  intro a w hs K Q hK
  have hsrc := h2.src hs
  have e1 : a.eval o1 = .slice none 0 0 := h1.lit rfl hs
  have hb1' := Nat.le_of_ble_eq_true hb1
  have h63 : xs.length ≤ maxLen := by
    have : xs.length ≤ xs.length * bytes := Nat.le_mul_of_pos_right _ hb1'
    simp only [maxLen]; omega
  unfold Oper.wp
  by_cases hx : xs = []
  · subst hx
    obtain ⟨hlen, news, hn1, _, _, hn4⟩ := hsrc
    have hf := hn4 w rfl
    obtain ⟨ii, hi1, hi2, hi3, hi4⟩ := hE
    have hlen' : (Builtin.lenOf (a.eval o2)).run x.P w = .ok 0 w := hlen
    have hf' : (Builtin.firstCells k 0 (a.eval o2)).run x.P w = .ok news w := hf
    have hr : (execOp a.eval ⟨some d, .call ⟨.builtin .append, #[o1, o2], #[T, T']⟩, ty, pos, aft, none⟩).run x.P w = .ok (.value (.slice none 0 0)) w := by
      rcases hT' with ⟨e', hd'⟩ | hd' <;>
        simp [execOp, resolve, invoke, builtin, e1, Builtin.append_, run_underlying hT, run_underlying hd', sizeOf, typeInfo, hi1, hi2, hlen', hf']
    rw [hr]
    exact hK _ _ (fun b c T fr hb hc => ⟨hb, hc⟩) hs.mem hs.fr (Rep.slI (es := []) (Nat.le_refl _) (by simp [maxLen]) (.inl rfl))
  · have hpos : 0 < xs.length := List.length_pos_iff.2 hx
    have hold : Src0 x.P w (bl M ++ x.F) k (.slice none 0 0) [] := src0_cells rfl (.inl rfl)
    obtain ⟨cells, hsz, hrE, hrun⟩ := run_append_new (ty := ty) hT hT' hE hzk hold hsrc.to0 rfl (by omega) (by simpa using hb) hb1'
    simp only [Nat.zero_add, List.nil_append] at hrun hrE hsz
    obtain ⟨hg1, hg2⟩ := cap_cut w xs.length 0 E h63
    have hd1 : St x L M a w.drew := hs.same rfl rfl rfl rfl
    obtain ⟨hs', hk, hnew⟩ := hd1.allocI (.cells cells E)
    have hk0 : Keep w (bl M ++ x.F) (w.drew.alloc (.cells cells E)) (bl M ++ x.F) := hk
    have hr : (execOp a.eval ⟨some d, .call ⟨.builtin .append, #[o1, o2], #[T, T']⟩, ty, pos, aft, none⟩).run x.P w = .ok (.value (.slice (some ⟨w.heap.size, 0, none⟩) xs.length (grownCap w xs.length 0 E))) (w.drew.alloc (.cells cells E)) := by
      simp only [execOp, resolve, invoke, builtin, Sem.run_bind, Sem.run_pure, Result.andThen_ok, List.map_toArray, List.map_cons, List.map_nil, e1, hrun]
    rw [hr]
    refine hK _ _ hk0 hs'.mem hs'.fr ?_
    exact Rep.slI hg1 hg2 (.inr ⟨w.heap.size, 0, cells, E, (0, 0), rfl, hnew, alloc_new w.drew _, RepE.keep hk0 _ _ _ (by simpa using hrE)⟩)
theorem DP.app0 {ops : Array Oper} {R : Act → World → Prop} {rest : List Oper} {done : List En} {d : Tmp} {T T' E k bytes : Nat} {z : Value} {o1 o2 : Operand} {xs : List AV} (h1 : Ov true (sel (Oper.looksAt ops ⟨some d, .call ⟨.builtin .append, #[o1, o2], #[T, T']⟩, ty, pos, aft, none⟩) (done ++ L)) o1 (.lit (.slice none 0 0)))
    (h2 : SrcOv x (sel (Oper.looksAt ops ⟨some d, .call ⟨.builtin .append, #[o1, o2], #[T, T']⟩, ty, pos, aft, none⟩) (done ++ L)) M o2 k xs) (hT : x.P.underlying T = some (.slice E)) (hT' : NotInt x.P T') (hE : Ty x.P E k bytes z) (hzk : z.cells.size = k)
    (hb1 : Nat.ble 1 bytes = true) (hb : xs.length * bytes ≤ 140737488355328) (hd : Nat.blt d x.n = true) (next : DP x M ops L R rest ((d, true, .sl k xs) :: done)) :
    DP x M ops L R (⟨some d, .call ⟨.builtin .append, #[o1, o2], #[T, T']⟩, ty, pos, aft, none⟩ :: rest) done := ⟨d, true, _, rfl, hd, .inl ⟨rfl, rfl⟩, fun _ => Sv.app0 h1 h2 hT hT' hE hzk hb1 hb, next⟩
theorem DE.app0 {ι : Type} {Mf : (Nat → Bool) → ι → List ME} {i0 i : Nat} {ops : Array Oper} {R : Act → World → Prop} {rest : List Oper} {done : ι → List En} {d : Tmp} {T T' E k bytes : Nat} {z : Value} {o1 o2 : Operand} {xs : List AV}
    (h1 : ∀ c, Ov true (sel (Oper.looksAt ops ⟨some d, .call ⟨.builtin .append, #[o1, o2], #[T, T']⟩, ty, pos, aft, none⟩) (done c ++ L)) o1 (.lit (.slice none 0 0)))
    (h2 : ∀ e c, SrcOv x (sel (Oper.looksAt ops ⟨some d, .call ⟨.builtin .append, #[o1, o2], #[T, T']⟩, ty, pos, aft, none⟩) (done c ++ L)) (Mf e c) o2 k xs) (hT : x.P.underlying T = some (.slice E)) (hT' : NotInt x.P T') (hE : Ty x.P E k bytes z) (hzk : z.cells.size = k)
    (hb1 : Nat.ble 1 bytes = true) (hb : xs.length * bytes ≤ 140737488355328) (hdn : Nat.blt d x.n = true)
    (hMf : ∀ e c, Mf (addE e i) c = Mf e c) (next : DE x ops L Mf i0 R (i + 1) rest (fun c => (d, true, .sl k xs) :: done c)) :
    DE x ops L Mf i0 R i (⟨some d, .call ⟨.builtin .append, #[o1, o2], #[T, T']⟩, ty, pos, aft, none⟩ :: rest) done :=
  DE.pure rfl hdn (fun _ => .inl ⟨rfl, rfl⟩) (fun e c _ _ => Sv.app0 (h1 c) (h2 e c) hT hT' hE hzk hb1 hb) hMf (.inr fun _ _ => rfl) next
end app0
end Go.Vl
end

section
set_option linter.unusedVariables false
set_option linter.unusedSimpArgs false
namespace Go.Vl
section
variable {x : Cx} {L : List En} {M : List ME} {ty : TypeId} {pos : String} {aft : Array Edge}
theorem Sv.callm {f : FuncId} {d : Option Tmp} {os : List Operand} {ats : Array TypeId} {g : Option (Nat × Bool)} {avs : List AV} {r : AV} {Mc Mr : List ME} (hc : FnC x.P f avs Mc (fun r' M' => r' = r ∧ M' = Mc)) (hp : List.Perm M (Mc ++ Mr)) (ha : ArgsOv L os avs) : Sv x L M ⟨d, .call ⟨.value (.func f), os.toArray, ats⟩, ty, pos, aft, g⟩ r := by
  intro a w hs K Q hK
  obtain ⟨⟨fn, hfn, hnm, hbd⟩, hcall⟩ := hc
  have hr : (execOp a.eval ⟨d, .call ⟨.value (.func f), os.toArray, ats⟩, ty, pos, aft, g⟩).run x.P w = .ok (.enter f (os.map a.eval).toArray) w := by
    have hv : a.eval (.func f) = .func (.func f) #[] #[] := rfl
    simp only [execOp, resolve, hv, Deferred.ofValue, Sem.run_bind, Sem.run_pure, Result.andThen_ok, invoke, callFunc, run_program, hfn, hnm, hbd]
    simp
  unfold Oper.wp
  rw [hr]
  obtain ⟨hF, hm0, hk0⟩ := hs.ahead hp
  have hargs := ArgsOv.rep hs ha
  refine (hcall w (bl Mr ++ x.F) _ hF hm0 (RepT.keep hk0 _ _ hargs)).mono ?_
  rintro e w' ⟨v, r', M', rfl, ⟨rfl, rfl⟩, hm', hrep, hf⟩
  have hs' := (hs.back hp hm' hf).perm hp.symm
  have hmem := bl_sub_of_perm hp
  have hk : Keep w (bl M ++ x.F) w' (bl M ++ x.F) := by
    intro b c T fr hb hc
    have h1 := hf.block b (heap_lt hc) (fun h => hb (List.mem_append_left _ ((hmem b).2 (.inl h))))
    exact ⟨hb, by rw [h1.1]; exact hc⟩
  refine hK v w' hk hs'.mem hs'.fr (hrep.keep ?_)
  intro b c T fr hb hc
  refine ⟨fun h => hb ?_, hc⟩
  simp only [List.mem_append] at h ⊢
  rcases h with h | h
  · rcases (hmem b).1 h with h | h
    · exact .inl h
    · exact .inr (.inl h)
  · exact .inr (.inr h)
end
section
variable {x : Cx} {ops : Array Oper} {L : List En} {R : Act → World → Prop} {rest : List Oper} {ty : TypeId} {pos : String} {aft : Array Edge} {i i0 : Nat}
theorem DE.callm {ι : Type} {Mf : (Nat → Bool) → ι → List ME} {done : ι → List En} {f : FuncId} {d : Tmp} {os : List Operand} {ats : Array TypeId} {avs : ι → List AV} {r : ι → AV} {Mc : List ME} (hc : ∀ c, FnC x.P f (avs c) Mc (fun r' M' => r' = r c ∧ M' = Mc)) (hp : ∀ e c, ∃ Mr, List.Perm (Mf e c) (Mc ++ Mr))
    (ha : ∀ c, ArgsOv (sel (Oper.looksAt ops ⟨some d, .call ⟨.value (.func f), os.toArray, ats⟩, ty, pos, aft, none⟩) (done c ++ L)) os (avs c)) (hdn : Nat.blt d x.n = true)
    (hMf : ∀ e c, Mf (addE e i) c = Mf e c) (hi : anc ops i0 i = true ∨ ∀ c c', r c = r c') (next : DE x ops L Mf i0 R (i + 1) rest (fun c => (d, true, r c) :: done c)) :
    DE x ops L Mf i0 R i (⟨some d, .call ⟨.value (.func f), os.toArray, ats⟩, ty, pos, aft, none⟩ :: rest) done := DE.pure rfl hdn (fun _ => .inl ⟨rfl, rfl⟩) (fun e c _ _ => by obtain ⟨Mr, h⟩ := hp e c; exact Sv.callm (hc c) h (ha c)) hMf hi next
theorem DM.callm {Mf : (Nat → Bool) → Ks → List ME} {done : Ks → List En} {f : FuncId} {d : Tmp} {os : List Operand} {ats : Array TypeId} {avs : Ks → List AV} {r : Ks → AV} {Mc : List ME} (hc : ∀ c, FnC x.P f (avs c) Mc (fun r' M' => r' = r c ∧ M' = Mc)) (hp : ∀ e c, ∃ Mr, List.Perm (Mf e c) (Mc ++ Mr))
    (ha : ∀ c, ArgsOv (sel (Oper.looksAt ops ⟨some d, .call ⟨.value (.func f), os.toArray, ats⟩, ty, pos, aft, none⟩) (done c ++ L)) os (avs c)) (hdn : Nat.blt d x.n = true)
    (hMf : ∀ e c, Mf (addE e i) c = Mf e c) (hi : ∀ c c' : Ks, (∀ k, (k = i ∨ anc ops k i = true) → c k = c' k) → r c = r c') (next : DM x ops L Mf R (i + 1) rest (fun c => (d, true, r c) :: done c)) :
    DM x ops L Mf R i (⟨some d, .call ⟨.value (.func f), os.toArray, ats⟩, ty, pos, aft, none⟩ :: rest) done := DM.pure rfl hdn (fun _ => .inl ⟨rfl, rfl⟩) (fun e c _ _ => by obtain ⟨Mr, h⟩ := hp e c; exact Sv.callm (hc c) h (ha c)) hMf hi next
end
/-- what only adds to memory, in a region that draws nothing -/
theorem W.ofSv {x : Cx} {L : List En} {M : List ME} {ops : Array Oper} {Q : Exit → Act → World → Prop} {rest : List Oper} {d : Tmp} {op : Op} {ty : TypeId} {pos : String} {aft : Array Edge} {av : AV} (h : Sv x L M ⟨some d, op, ty, pos, aft, none⟩ av) (hd : Nat.blt d x.n = true)
    (next : W x ((d, true, av) :: L) M (wpList x.P ops Q rest)) : W x L M (wpList x.P ops Q (⟨some d, op, ty, pos, aft, none⟩ :: rest)) := by
  intro a w hs
  refine wpList_cons_want (by simp [Region.wanted]) ?_
  refine h a w hs _ _ fun v w' hk hm hf hr => ?_
  exact next _ _ ((hs.world hk hm hf).put hd true av v (fun _ => hr) (by simp))
theorem W.app0 {x : Cx} {L : List En} {M : List ME} {ops : Array Oper} {Q : Exit → Act → World → Prop} {rest : List Oper} {d : Tmp} {T T' E k bytes : Nat} {z : Value} {o1 o2 : Operand} {xs : List AV} {ty : TypeId} {pos : String} {aft : Array Edge} (h1 : Ov true L o1 (.lit (.slice none 0 0))) (h2 : SrcOv x L M o2 k xs) (hT : x.P.underlying T = some (.slice E)) (hT' : NotInt x.P T') (hE : Ty x.P E k bytes z) (hzk : z.cells.size = k)
    (hb1 : Nat.ble 1 bytes = true) (hb : xs.length * bytes ≤ 140737488355328) (hd : Nat.blt d x.n = true) (next : W x ((d, true, .sl k xs) :: L) M (wpList x.P ops Q rest)) :
    W x L M (wpList x.P ops Q (⟨some d, .call ⟨.builtin .append, #[o1, o2], #[T, T']⟩, ty, pos, aft, none⟩ :: rest)) := W.ofSv (Sv.app0 h1 h2 hT hT' hE hzk hb1 hb) hd next
end Go.Vl
end

section
set_option linter.unusedVariables false
set_option linter.unusedSimpArgs false
namespace Go.Vl
section
variable {x : Cx} {ops : Array Oper} {L : List En} {M : List ME} {R : Act → World → Prop} {rest : List Oper} {ty : TypeId} {pos : String} {aft : Array Edge} {i i0 : Nat}
/-- .. and known not to hold: passed over -/
theorem DE.skipg {ι : Type} {Mf : (Nat → Bool) → ι → List ME} {done : ι → List En} {op : Op} {d : Tmp} {j : Nat} {t : Tmp} {b want : Bool} (hj : (ops[j]?).bind (·.dst) = some t)
    (hl : ∀ c, Vl.look (sel (Oper.looksAt ops ⟨some d, op, ty, pos, aft, some (j, want)⟩) (done c ++ L)) t = some (true, .lit (.bool b))) (hb : (b == want) = false) (hdn : Nat.blt d x.n = true) (hMf : ∀ e c, Mf (addE e i) c = Mf e c)
    (next : DE x ops L Mf i0 R (i + 1) rest (fun c => (d, false, .lit undef) :: done c)) : DE x ops L Mf i0 R i (⟨some d, op, ty, pos, aft, some (j, want)⟩ :: rest) done :=
  DE.pure (av := fun _ => .lit undef) rfl hdn (fun c => .inr ⟨j, want, t, true, b, rfl, hj, hl c, by rw [hb]; rfl⟩) (fun e c _ hf => by cases hf) hMf (.inr fun _ _ => rfl) next
/-- a quiet operation under a guard that is known to hold -/
theorem DE.qy {ι : Type} {Mf : (Nat → Bool) → ι → List ME} {done : ι → List En} {d : Tmp} {op : Op} {av : ι → AV} {j : Nat} {t : Tmp} {want : Bool} (hj : (ops[j]?).bind (·.dst) = some t) (hl : ∀ c, Vl.look (sel (Oper.looksAt ops ⟨some d, op, ty, pos, aft, some (j, want)⟩) (done c ++ L)) t = some (true, .lit (.bool want)))
    (he : ∀ e c, OkE ops e i → Ev x true (sel (Oper.looksAt ops ⟨some d, op, ty, pos, aft, some (j, want)⟩) (done c ++ L)) (Mf e c) op ty (av c)) (hdn : Nat.blt d x.n = true)
    (hMf : ∀ e c, Mf (addE e i) c = Mf e c) (hi : anc ops i0 i = true ∨ ∀ c c', av c = av c') (next : DE x ops L Mf i0 R (i + 1) rest (fun c => (d, true, av c) :: done c)) :
    DE x ops L Mf i0 R i (⟨some d, op, ty, pos, aft, some (j, want)⟩ :: rest) done := DE.pure rfl hdn (fun c => .inr ⟨j, want, t, true, want, rfl, hj, hl c, by cases want <;> rfl⟩) (fun e c hk hb => Sv.ev (he e c hk)) hMf hi next
/-- a call under a guard that is known to hold -/
theorem DE.cally {ι : Type} {Mf : (Nat → Bool) → ι → List ME} {done : ι → List En} {f : FuncId} {d : Tmp} {os : List Operand} {ats : Array TypeId} {avs : ι → List AV} {r : ι → AV} {j : Nat} {t : Tmp} {want : Bool} (hj : (ops[j]?).bind (·.dst) = some t)
    (hl : ∀ c, Vl.look (sel (Oper.looksAt ops ⟨some d, .call ⟨.value (.func f), os.toArray, ats⟩, ty, pos, aft, some (j, want)⟩) (done c ++ L)) t = some (true, .lit (.bool want)))
    (hc : ∀ c, FnP x.P f (avs c) (r c)) (ha : ∀ c, ArgsOv (sel (Oper.looksAt ops ⟨some d, .call ⟨.value (.func f), os.toArray, ats⟩, ty, pos, aft, some (j, want)⟩) (done c ++ L)) os (avs c)) (hdn : Nat.blt d x.n = true)
    (hMf : ∀ e c, Mf (addE e i) c = Mf e c) (hi : anc ops i0 i = true ∨ ∀ c c', r c = r c') (next : DE x ops L Mf i0 R (i + 1) rest (fun c => (d, true, r c) :: done c)) :
    DE x ops L Mf i0 R i (⟨some d, .call ⟨.value (.func f), os.toArray, ats⟩, ty, pos, aft, some (j, want)⟩ :: rest) done :=
  DE.pure rfl hdn (fun c => .inr ⟨j, want, t, true, want, rfl, hj, hl c, by cases want <;> rfl⟩) (fun e c _ hb => Sv.callp (hc c) (ha c)) hMf hi next
end
section
variable {x : Cx} {L : List En} {M : List ME} {ty : TypeId} {g : Bool} {T T' : TypeId} {o1 o2 : Operand}
theorem Ev.as_ {op : Op} {av av' : AV} (h : Ev x g L M op ty av) (e : av = av') : Ev x g L M op ty av' := e ▸ h
theorem Ev.andF {c t : Operand} (h1 : Ov g L c (.lit (.bool false))) : Ev x g L M (.pick c t (.const (.bool false))) ty (.lit (.bool false)) := Ev.pure fun a w hs hg => by
  have e1 := h1.lit hg hs
  simp only [execOp, e1, asBool, Sem.run_bind, Sem.run_pure, Result.andThen_ok]
  rfl
/-- a struct of two numbers -/
def Int2 (P : Program) (T : TypeId) : Prop := ∃ f1 f2 : Field, P.underlying T = some (.struct (P.fieldsOf T)) ∧ (P.fieldsOf T).toList = [f1, f2] ∧ P.stoodInHeld T = false ∧ P.eqGuardType P.depth T = false ∧
  f1.name ≠ "_" ∧ f2.name ≠ "_" ∧ f1.offset = 0 ∧ f2.offset = 1 ∧ P.underlying f1.type = some (.int .i64) ∧ P.underlying f2.type = some (.int .i64)
theorem Int2.of {P : Program} {T : TypeId} {f1 f2 : Field} (hU : P.underlying T = some (.struct #[f1, f2])) (hp : P.stoodInHeld T = false) (hm : P.eqGuardType P.depth T = false) (n1 : f1.name ≠ "_") (n2 : f2.name ≠ "_") (k1 : f1.offset = 0) (k2 : f2.offset = 1)
    (u1 : P.underlying f1.type = some (.int .i64)) (u2 : P.underlying f2.type = some (.int .i64)) : Int2 P T := by
  have h : P.fieldsOf T = #[f1, f2] := by rw [Program.fieldsOf, hU]
  exact ⟨f1, f2, by rw [h, hU], by rw [h], hp, hm, n1, n2, k1, k2, u1, u2⟩
end
end Go.Vl
end

section
set_option linter.unusedVariables false
set_option linter.unusedSimpArgs false
set_option maxRecDepth 100000
namespace Go.Proofs.YtbdfeolffigdoaaDoor
open Go.Vl

namespace Base

theorem tmod_neg (a n : Int) (hn : 0 < n) (h : a.tmod n < 0) : a.tmod n + n = a % n := by
  have h1 := Int.tmod_eq_emod (a := a) (b := n)
  have h2 := Int.emod_nonneg a (by omega : n ≠ 0)
  have h3 := Int.emod_lt_of_pos a hn
  have h4 : (n.natAbs : Int) = n := by omega
  rw [h1] at h ⊢
  split at h <;> split <;> omega
theorem tmod_nonneg (a n : Int) (hn : 0 < n) (h : ¬ a.tmod n < 0) : a.tmod n = a % n := by
  have h1 := Int.tmod_eq_emod (a := a) (b := n)
  have h2 := Int.emod_nonneg a (by omega : n ≠ 0)
  have h3 := Int.emod_lt_of_pos a hn
  have h4 : (n.natAbs : Int) = n := by omega
  rw [h1] at h ⊢
  split at h <;> split <;> omega
theorem tmod_gt (a n : Int) (hn : 0 < n) : -n < a.tmod n ∧ a.tmod n < n := by
  have h1 := Int.tmod_eq_emod (a := a) (b := n)
  have h2 := Int.emod_nonneg a (by omega : n ≠ 0)
  have h3 := Int.emod_lt_of_pos a hn
  have h4 : (n.natAbs : Int) = n := by omega
  rw [h1]
  split <;> omega

theorem c_Picked (a n : Int) (hn : 0 < n) (hb : n ≤ 4611686018427387904) : FnP Tryd.prog 5 [.int a, .int n] (.int (a % n)) :=  by
  refine FnC.mk Tryd.func5 (by kernel_rfl) rfl Tryd.ntmps5 rfl (fun w0 F => ?_)
  have htm := tmod_gt a n hn
  refine W.seq ?_
  refine W.region ?_
  refine W.q (Ev.assign .k) rfl ?_
  refine W.nil ?_
  refine W.then ?_
  refine W.seq ?_
  refine W.region ?_
  refine W.q (Ev.move (.t rfl)) rfl ?_
  refine W.q (Ev.move (.t rfl)) rfl ?_
  first | refine W.q (Ev.rem (.t rfl) (.t rfl) (fun _ => by decide)) rfl ?_ | refine W.q (Ev.rem (.t rfl) (.t rfl) (fun _ => by omega)) rfl ?_
  refine W.q (Ev.assign (.t rfl)) rfl ?_
  refine W.nil ?_
  refine W.then ?_
  refine W.seq ?_
  refine W.seq ?_
  refine W.region ?_
  refine W.q (Ev.move (.t rfl)) rfl ?_
  refine W.q (Ev.lti (.t rfl) .k) rfl ?_
  refine W.nil ?_
  refine W.then ?_
  refine W.cond (.t rfl) (fun hc_t9 => ?_) (fun hc_t9 => ?_)
  · have h9 := of_decide_eq_true hc_t9
    refine W.seq ?_
    refine W.region ?_
    refine W.q (Ev.move (.t rfl)) rfl ?_
    refine W.q (Ev.move (.t rfl)) rfl ?_
    first | refine W.q (Ev.add (.t rfl) (.t rfl) (fun _ => by omega)) rfl ?_ | refine W.q (Ev.addw (.t rfl) (.t rfl)) rfl ?_
    refine W.q (Ev.assign (.t rfl)) rfl ?_
    refine W.nil ?_
    refine W.then ?_
    refine W.ret ?_
    refine W.then_ret ?_
    refine W.retn (M' := []) (rs := [.tmp 4]) (avs := [_]) Tryd.results5 ⟨rfl, trivial⟩ rfl (.refl _) ?_
    exact ⟨congrArg AV.int (by first | exact (tmod_neg a n hn h9).symm ▸ rfl | exact tmod_nonneg a n hn h9), rfl⟩
  · have h9 := of_decide_eq_false hc_t9
    refine W.skip ?_
    refine W.then ?_
    refine W.seq ?_
    refine W.region ?_
    refine W.q (Ev.move (.t rfl)) rfl ?_
    refine W.q (Ev.assign (.t rfl)) rfl ?_
    refine W.nil ?_
    refine W.then ?_
    refine W.ret ?_
    refine W.retn (M' := []) (rs := [.tmp 4]) (avs := [_]) Tryd.results5 ⟨rfl, trivial⟩ rfl (.refl _) ?_
    exact ⟨congrArg AV.int (by first | exact (tmod_neg a n hn h9).symm ▸ rfl | exact tmod_nonneg a n hn h9), rfl⟩

end Base

end Go.Proofs.YtbdfeolffigdoaaDoor
end

section
set_option linter.unusedVariables false
set_option linter.unusedSimpArgs false
set_option maxRecDepth 100000
namespace Go.Proofs.YtbdfeolffigdoaaDoor
open Go.Vl

namespace WLib
theorem ty9 : Ty Tryd.prog 9 1 16 (.string ⟨#[]⟩) := Ty.of (by kernel_rfl)
theorem ag9 : IsAgg Tryd.prog 9 false := ⟨_, Tryd.underlying9, rfl⟩
theorem c_Index (ns : List (List UInt8)) (v : List UInt8) (hn : ns.length ≤ 1099511627776) : FnC Tryd.prog 16 [.sl 1 (ns.map AV.str), .str v] [] (fun r M => M = [] ∧ ∃ k : Int, r = .int k ∧ decide (0 ≤ k) = ns.any fun s => v == s) :=  by
  refine FnC.mk Tryd.func16 (by kernel_rfl) rfl Tryd.ntmps16 rfl (fun w0 F => ?_)
  have hnl : (ns.map AV.str).length = ns.length := List.length_map ..
  refine W.seq ?_
  refine W.region ?_
  refine W.q (Ev.assign .k) rfl ?_
  refine W.nil ?_
  refine W.then ?_
  refine W.seq ?_
  refine W.seq ?_
  refine W.region ?_
  refine W.q (Ev.move (.t rfl)) rfl ?_
  first | refine W.q (Ev.lensl (.t rfl) Tryd.underlying35) rfl ?_ | refine W.q (Ev.lenar (i := 0) (.t rfl) rfl Tryd.underlying35) rfl ?_ | refine W.q (Ev.lenar (i := 1) (.t rfl) rfl Tryd.underlying35) rfl ?_ | refine W.q (Ev.lenar (i := 2) (.t rfl) rfl Tryd.underlying35) rfl ?_ | refine W.q (Ev.lenar (i := 3) (.t rfl) rfl Tryd.underlying35) rfl ?_
  refine W.q (Ev.move .k) rfl ?_
  refine W.nil ?_
  refine W.then ?_
  refine W.block ?_
  refine W.loop (D := []) (ι := Nat) (fun i => [(8, true, .int (i : Int)), (7, true, .int ((ns.map AV.str).length : Int)), (0, true, .sl 1 (ns.map AV.str)), (1, true, .str v)]) (fun _ => []) (fun i => i ≤ ns.length ∧ ∀ d ∈ ns.take i, (v == d) = false) (fun i => ns.length - i) 0 ⟨rfl, rfl, rfl, rfl, trivial⟩ (.refl _) ⟨Nat.zero_le _, by simp⟩ ?_
  rintro i ⟨hi1, hi2⟩
  dsimp only at hi1 hi2 ⊢
  rcases (show i < ns.length ∨ i = ns.length from by omega) with hlt | hend
  · have hga := getD_mapG AV.str [] ns i hlt
    refine W.seq ?_
    refine W.region ?_
    refine W.q (Ev.lti (.t rfl) (.t rfl)) rfl ?_
    refine W.nil ?_
    refine W.then ?_
    refine W.seq ?_
    refine W.is (t := 9) (g := true) (av' := .lit (.bool true)) rfl (congrArg (fun b => AV.lit (.bool b)) (by simp; omega)) ?_
    refine W.condT (.t rfl) ?_
    refine W.skip ?_
    refine W.then ?_
    refine W.seq ?_
    refine W.block ?_
    refine W.seq ?_
    refine W.region ?_
    refine W.q (Ev.move (.t rfl)) rfl ?_
    refine W.q (Ev.assign (.t rfl)) rfl ?_
    refine W.nil ?_
    refine W.then ?_
    refine W.seq ?_
    refine W.region ?_
    refine W.q (Ev.move (.t rfl)) rfl ?_
    refine W.q (Ev.move (.t rfl)) rfl ?_
    refine W.q (Ev.move (.t rfl)) rfl ?_
    refine W.q (Ev.at (E := 9) (.t rfl) (.t rfl) Tryd.underlying35 ty9 (fun _ => ⟨by omega, hga⟩) rfl rfl) rfl ?_
    first | refine W.q (Ev.lde1 (.t rfl) ag9) rfl ?_ | refine W.q (Ev.ldb1 0 (.t rfl) rfl ag9 rfl) rfl ?_ | refine W.q (Ev.ldb1 1 (.t rfl) rfl ag9 rfl) rfl ?_ | refine W.q (Ev.ldb1 2 (.t rfl) rfl ag9 rfl) rfl ?_ | refine W.q (Ev.ldb1 3 (.t rfl) rfl ag9 rfl) rfl ?_
    refine W.q (Ev.eqs (.t rfl) (.t rfl)) rfl ?_
    refine W.nil ?_
    refine W.then ?_
    refine W.cond (.t rfl) (fun hc_t16 => ?_) (fun hc_t16 => ?_)
    · have hq : (ns.any fun s => v == s) = true := by rw [List.any_eq_true]; exact ⟨_, getD_memG [] ns i hlt, hc_t16⟩
      refine W.seq ?_
      refine W.region ?_
      refine W.q (Ev.move (.t rfl)) rfl ?_
      refine W.q (Ev.assign (.t rfl)) rfl ?_
      refine W.nil ?_
      refine W.then ?_
      refine W.ret ?_
      refine W.blk_ret ?_
      refine W.then_ret ?_
      refine W.then_ret ?_
      refine W.blk_ret ?_
      refine W.then_ret ?_
      refine W.retn (M' := []) (rs := [.tmp 4]) (avs := [_]) Tryd.results16 ⟨rfl, trivial⟩ rfl (.refl _) ?_
      refine ⟨rfl, _, rfl, ?_⟩
      rw [hq]
      first | rfl | (simp; done) | (simp; omega)
    · have hq : (v == ns.getD i []) = false := hc_t16
      refine W.skip ?_
      refine W.blk_normal ?_
      refine W.then ?_
      refine W.region ?_
      first | refine W.q (Ev.add (.t rfl) .k (fun _ => by omega)) rfl ?_ | refine W.q (Ev.addw (.t rfl) .k) rfl ?_
      refine W.q (Ev.move (.t rfl)) rfl ?_
      refine W.nil ?_
      refine W.then ?_
      refine W.reach (D := []) (i + 1) ⟨rfl, rfl, rfl, rfl, trivial⟩ (.refl _) ⟨⟨by omega, ?_⟩, by omega⟩
      rw [take_getDG [] ns i hlt]
      intro d hd
      cases List.mem_append.1 hd with
      | inl h => exact hi2 d h
      | inr h => rw [List.mem_singleton.1 h]; exact hq
  · rw [List.take_of_length_le (by omega)] at hi2
    have hq := any_take_false (fun d => v == d) ns hi2
    refine W.seq ?_
    refine W.region ?_
    refine W.q (Ev.lti (.t rfl) (.t rfl)) rfl ?_
    refine W.nil ?_
    refine W.then ?_
    refine W.seq ?_
    refine W.is (t := 9) (g := true) (av' := .lit (.bool false)) rfl (congrArg (fun b => AV.lit (.bool b)) (by simp; omega)) ?_
    refine W.condF (.t rfl) ?_
    refine W.exit ?_
    refine W.then_exit ?_
    refine W.then_exit ?_
    refine W.blk_hit ?_
    refine W.then ?_
    refine W.seq ?_
    refine W.region ?_
    refine W.q (Ev.assign .k) rfl ?_
    refine W.nil ?_
    refine W.then ?_
    refine W.ret ?_
    refine W.retn (M' := []) (rs := [.tmp 4]) (avs := [_]) Tryd.results16 ⟨rfl, trivial⟩ rfl (.refl _) ?_
    refine ⟨rfl, _, rfl, ?_⟩
    rw [hq]
    first | rfl | (simp; done) | (simp; omega)

theorem c_Contains (ns : List (List UInt8)) (v : List UInt8) (hn : ns.length ≤ 1099511627776) : FnP Tryd.prog 13 [.sl 1 (ns.map AV.str), .str v] (.bool (ns.any fun s => v == s)) :=  by
  refine FnC.mk Tryd.func13 (by kernel_rfl) rfl Tryd.ntmps13 rfl (fun w0 F => ?_)
  refine W.seq ?_
  refine W.region ?_
  refine W.q (Ev.assign .k) rfl ?_
  refine W.nil ?_
  refine W.then ?_
  refine W.seq ?_
  refine W.region ?_
  refine W.q (Ev.move (.t rfl)) rfl ?_
  refine W.q (Ev.move (.t rfl)) rfl ?_
  refine W.call (c_Index ns v hn) ⟨(.t rfl), (.t rfl), trivial⟩ (.refl _) rfl ?_
  rintro _ _ ⟨rfl, k, rfl, hk⟩
  refine W.q (Ev.gei (.t rfl) .k) rfl ?_
  refine W.q (Ev.assign (.t rfl)) rfl ?_
  refine W.nil ?_
  refine W.then ?_
  refine W.ret ?_
  refine W.retn (M' := []) (rs := [.tmp 4]) (avs := [_]) Tryd.results13 ⟨rfl, trivial⟩ rfl (.refl _) ?_
  exact ⟨congrArg AV.bool hk, rfl⟩

end WLib

end Go.Proofs.YtbdfeolffigdoaaDoor
end

section
set_option linter.unusedVariables false
set_option linter.unusedSimpArgs false
set_option maxRecDepth 100000
namespace Go.Proofs.YtbdfeolffigdoaaDoor
open Go.Vl

namespace WOFind
theorem ty9 : Ty Tryd.prog 9 1 16 (.string ⟨#[]⟩) := Ty.of (by kernel_rfl)
theorem ty39 : Ty Tryd.prog 39 1 8 (.pointer none) := Ty.of (by kernel_rfl)
theorem ty40 : Ty Tryd.prog 40 1 8 (.pointer none) := Ty.of (by kernel_rfl)
theorem ty41 : Ty Tryd.prog 41 1 24 (.slice none 0 0) := Ty.of (by kernel_rfl)
theorem ag9 : IsAgg Tryd.prog 9 false := ⟨_, Tryd.underlying9, rfl⟩
theorem ag39 : IsAgg Tryd.prog 39 false := ⟨_, Tryd.underlying39, rfl⟩
theorem ag40 : IsAgg Tryd.prog 40 false := ⟨_, Tryd.underlying40, rfl⟩
theorem ag41 : IsAgg Tryd.prog 41 false := ⟨_, Tryd.underlying41, rfl⟩
theorem fa43_0 : FieldAt Tryd.prog 43 0 0 1 false := ⟨_, _, Tryd.underlying43, rfl, rfl, ty40.size, ag40, by decide⟩
theorem fa45_1 : FieldAt Tryd.prog 45 1 1 1 false := ⟨_, _, Tryd.underlying45, rfl, rfl, ty41.size, ag41, by decide⟩
theorem fa52_0 : FieldAt Tryd.prog 52 0 0 1 false := ⟨_, _, Tryd.underlying52, rfl, rfl, ty9.size, ag9, by decide⟩
theorem c_find (b r : Nat) (bs : Nat → Nat) (vs : Value) (cnt : Int) (mute : List UInt8) (sk : List Nat) (hsk : 0 < sk.length) (hs1 : sk.length ≤ 1000) (cs : List Opn.Oc) (ho : Opn.Open bs cs sk) (nm : List UInt8) : FnC Tryd.prog 10 [.lit (.pointer (some ⟨b, 0, none⟩)), .str nm] (.box b 45 [.lit (.pointer (some ⟨r, 0, none⟩)), .lit vs, .int cnt, .str mute] :: .arr vs 39 1 (sk.map fun i => Opn.ptr (bs i)) :: Opn.mem 43 52 39 bs cs) (fun rr M => rr = .int ((Opn.bd cs sk 0).find nm : Int) ∧ M = (.box b 45 [.lit (.pointer (some ⟨r, 0, none⟩)), .lit vs, .int cnt, .str mute] :: .arr vs 39 1 (sk.map fun i => Opn.ptr (bs i)) :: Opn.mem 43 52 39 bs cs)) :=  by
  refine FnC.mk Tryd.func10 (by kernel_rfl) rfl Tryd.ntmps10 rfl (fun w0 F => ?_)
  have hml : (sk.map fun i => Opn.ptr (bs i)).length = sk.length := List.length_map ..
  refine W.seq ?_
  refine W.region ?_
  refine W.q (Ev.assign .k) rfl ?_
  refine W.nil ?_
  refine W.then ?_
  refine W.seq ?_
  refine W.seq ?_
  refine W.region ?_
  refine W.q (Ev.move (.t rfl)) rfl ?_
  refine W.q (Ev.nilc (.t rfl)) rfl ?_
  first | refine W.q (Ev.fae (.t rfl) fa45_1 rfl) rfl ?_ | refine W.q (Ev.fab (.t rfl) fa45_1) rfl ?_ | refine W.q (Ev.faa (.t rfl) fa45_1) rfl ?_
  first | refine W.q (Ev.lde1 (.t rfl) ag41) rfl ?_ | refine W.q (Ev.ldb1 0 (.t rfl) rfl ag41 rfl) rfl ?_ | refine W.q (Ev.ldb1 1 (.t rfl) rfl ag41 rfl) rfl ?_ | refine W.q (Ev.ldb1 2 (.t rfl) rfl ag41 rfl) rfl ?_ | refine W.q (Ev.ldb1 3 (.t rfl) rfl ag41 rfl) rfl ?_
  first | refine W.q (Ev.lensl (.t rfl) Tryd.underlying41) rfl ?_ | refine W.q (Ev.lenar (i := 0) (.t rfl) rfl Tryd.underlying41) rfl ?_ | refine W.q (Ev.lenar (i := 1) (.t rfl) rfl Tryd.underlying41) rfl ?_ | refine W.q (Ev.lenar (i := 2) (.t rfl) rfl Tryd.underlying41) rfl ?_ | refine W.q (Ev.lenar (i := 3) (.t rfl) rfl Tryd.underlying41) rfl ?_
  first | refine W.q (Ev.sub (.t rfl) .k (fun _ => by omega)) rfl ?_ | refine W.q (Ev.subw (.t rfl) .k) rfl ?_
  refine W.q (Ev.assign (.t rfl)) rfl ?_
  refine W.nil ?_
  refine W.then ?_
  refine W.block ?_
  refine W.loop (D := []) (ι := Nat) (fun i => [(5, true, .int (i : Int)), (0, true, .lit (.pointer (some ⟨b, 0, none⟩))), (1, true, .str nm)]) (fun _ => (.box b 45 [.lit (.pointer (some ⟨r, 0, none⟩)), .lit vs, .int cnt, .str mute] :: .arr vs 39 1 (sk.map fun i => Opn.ptr (bs i)) :: Opn.mem 43 52 39 bs cs)) (fun i => i < sk.length ∧ (Opn.bd cs sk 0).find nm = (Opn.bd cs sk 0).findI nm i) (fun i => i) (sk.length - 1) ⟨?_, rfl, rfl, trivial⟩ (by rw [List.append_nil]) ⟨by omega, rfl⟩ ?_
  · show some (true, AV.int _) = some (true, AV.int _); congr 3; rw [List.length_map]; omega
  rintro i ⟨hi, hi2⟩
  dsimp only at hi hi2 ⊢
  rcases (show 0 < i ∨ i = 0 from by omega) with hlt | hend
  · have hga := getD_mapG (fun i => Opn.ptr (bs i)) 0 sk i hi
    obtain ⟨c, hc, hce, hcb⟩ := ho i hlt hi
    have hna := Opn.nameAt_eq (cnt := 0) hc
    refine W.seq ?_
    refine W.seq ?_
    refine W.region ?_
    refine W.q (Ev.move (.t rfl)) rfl ?_
    refine W.q (Ev.gti (.t rfl) .k) rfl ?_
    refine W.nil ?_
    refine W.then ?_
    refine W.is (t := 13) (g := true) (av' := .lit (.bool true)) rfl (congrArg (fun b => AV.lit (.bool b)) (by exact decide_eq_true (by omega))) ?_
    refine W.condT (.t rfl) ?_
    refine W.skip ?_
    refine W.then ?_
    refine W.seq ?_
    refine W.block ?_
    refine W.seq ?_
    refine W.region ?_
    refine W.q (Ev.move (.t rfl)) rfl ?_
    refine W.q (Ev.nilc (.t rfl)) rfl ?_
    first | refine W.q (Ev.fae (.t rfl) fa45_1 rfl) rfl ?_ | refine W.q (Ev.fab (.t rfl) fa45_1) rfl ?_ | refine W.q (Ev.faa (.t rfl) fa45_1) rfl ?_
    first | refine W.q (Ev.lde1 (.t rfl) ag41) rfl ?_ | refine W.q (Ev.ldb1 0 (.t rfl) rfl ag41 rfl) rfl ?_ | refine W.q (Ev.ldb1 1 (.t rfl) rfl ag41 rfl) rfl ?_ | refine W.q (Ev.ldb1 2 (.t rfl) rfl ag41 rfl) rfl ?_ | refine W.q (Ev.ldb1 3 (.t rfl) rfl ag41 rfl) rfl ?_
    refine W.q (Ev.move (.t rfl)) rfl ?_
    refine W.q (Ev.ata 1 (.t rfl) rfl (.t rfl) Tryd.underlying41 ty39 (fun _ => by rw [List.length_map]; omega)) rfl ?_
    refine W.q (Ev.lda1 1 i 0 (.t rfl) rfl hga (by omega) rfl rfl rfl ag39) rfl ?_
    rw [hcb]
    refine W.q (Ev.nilc (.t rfl)) rfl ?_
    first | refine W.q (Ev.fae (.t rfl) fa43_0 rfl) rfl ?_ | refine W.q (Ev.fab (.t rfl) fa43_0) rfl ?_ | refine W.q (Ev.faa (.t rfl) fa43_0) rfl ?_
    refine W.q (Ev.ldb1 (3 * sk.getD i 0 + 2) (.t rfl) (Opn.mem_get0 cs _ c hc) ag40 rfl) rfl ?_
    rw [if_pos hce]
    refine W.q (Ev.nilc (.t rfl)) rfl ?_
    first | refine W.q (Ev.fae (.t rfl) fa52_0 rfl) rfl ?_ | refine W.q (Ev.fab (.t rfl) fa52_0) rfl ?_ | refine W.q (Ev.faa (.t rfl) fa52_0) rfl ?_
    refine W.q (Ev.ldb1 (3 * sk.getD i 0 + 2 + 2) (.t rfl) ((Opn.mem_get2 cs _ c hc).trans (congrArg some (if_pos hce))) ag9 rfl) rfl ?_
    refine W.q (Ev.move (.t rfl)) rfl ?_
    refine W.q (Ev.eqs (.t rfl) (.t rfl)) rfl ?_
    refine W.nil ?_
    refine W.then ?_
    refine W.cond (.t rfl) (fun hc_t30 => ?_) (fun hc_t30 => ?_)
    · have hq : (Opn.bd cs sk 0).find nm = i := by
        rw [hi2]; cases i with
        | zero => exact absurd hlt (Nat.lt_irrefl _)
        | succ k => rw [Opn.Bd.findI, if_pos (hna.trans (beq_iff_eq.1 hc_t30))]
      refine W.seq ?_
      refine W.region ?_
      refine W.q (Ev.move (.t rfl)) rfl ?_
      refine W.q (Ev.assign (.t rfl)) rfl ?_
      refine W.nil ?_
      refine W.then ?_
      refine W.ret ?_
      refine W.blk_ret ?_
      refine W.then_ret ?_
      refine W.then_ret ?_
      refine W.blk_ret ?_
      refine W.then_ret ?_
      refine W.retn (M' := (.box b 45 [.lit (.pointer (some ⟨r, 0, none⟩)), .lit vs, .int cnt, .str mute] :: .arr vs 39 1 (sk.map fun i => Opn.ptr (bs i)) :: Opn.mem 43 52 39 bs cs)) (D := []) (rs := [.tmp 4]) (avs := [_]) Tryd.results10 ⟨rfl, trivial⟩ rfl (by rw [List.append_nil]) ?_
      exact ⟨by rw [hq]; rfl, rfl⟩
    · have hq : (Opn.bd cs sk 0).find nm = (Opn.bd cs sk 0).findI nm (i - 1) := by
        rw [hi2]; cases i with
        | zero => exact absurd hlt (Nat.lt_irrefl _)
        | succ k => rw [Opn.Bd.findI, if_neg (fun e => by rw [hna] at e; simp [e] at hc_t30)]; first | done | rfl
      refine W.skip ?_
      refine W.blk_normal ?_
      refine W.then ?_
      refine W.region ?_
      refine W.q (Ev.move (.t rfl)) rfl ?_
      first | refine W.q (Ev.sub (.t rfl) .k (fun _ => by omega)) rfl ?_ | refine W.q (Ev.subw (.t rfl) .k) rfl ?_
      refine W.q (Ev.assign (.t rfl)) rfl ?_
      refine W.nil ?_
      refine W.then ?_
      refine W.reach (D := []) (i - 1) ⟨?_, rfl, rfl, trivial⟩ (by rw [List.append_nil]) ⟨⟨by omega, hq⟩, by show i - 1 < i; omega⟩
      show some (true, AV.int _) = some (true, AV.int _); congr 3; omega
  · have hq : (Opn.bd cs sk 0).find nm = 0 := by rw [hi2, hend]; rfl
    refine W.seq ?_
    refine W.seq ?_
    refine W.region ?_
    refine W.q (Ev.move (.t rfl)) rfl ?_
    refine W.q (Ev.gti (.t rfl) .k) rfl ?_
    refine W.nil ?_
    refine W.then ?_
    refine W.is (t := 13) (g := true) (av' := .lit (.bool false)) rfl (congrArg (fun b => AV.lit (.bool b)) (by exact decide_eq_false (by omega))) ?_
    refine W.condF (.t rfl) ?_
    refine W.exit ?_
    refine W.then_exit ?_
    refine W.then_exit ?_
    refine W.blk_hit ?_
    refine W.then ?_
    refine W.seq ?_
    refine W.region ?_
    refine W.q (Ev.assign .k) rfl ?_
    refine W.nil ?_
    refine W.then ?_
    refine W.ret ?_
    refine W.retn (M' := (.box b 45 [.lit (.pointer (some ⟨r, 0, none⟩)), .lit vs, .int cnt, .str mute] :: .arr vs 39 1 (sk.map fun i => Opn.ptr (bs i)) :: Opn.mem 43 52 39 bs cs)) (D := []) (rs := [.tmp 4]) (avs := [_]) Tryd.results10 ⟨rfl, trivial⟩ rfl (by rw [List.append_nil]) ?_
    exact ⟨by rw [hq]; rfl, rfl⟩

end WOFind

end Go.Proofs.YtbdfeolffigdoaaDoor
end

section
set_option linter.unusedVariables false
set_option linter.unusedSimpArgs false
set_option maxRecDepth 100000
namespace Go.Proofs.YtbdfeolffigdoaaDoor
open Go.Vl

namespace WOClose
theorem ty39 : Ty Tryd.prog 39 1 8 (.pointer none) := Ty.of (by kernel_rfl)
theorem ty41 : Ty Tryd.prog 41 1 24 (.slice none 0 0) := Ty.of (by kernel_rfl)
theorem ag41 : IsAgg Tryd.prog 41 false := ⟨_, Tryd.underlying41, rfl⟩
theorem fa45_1 : FieldAt Tryd.prog 45 1 1 1 false := ⟨_, _, Tryd.underlying45, rfl, rfl, ty41.size, ag41, by decide⟩
theorem c_closeAt (b r : Nat) (bs : Nat → Nat) (vs : Value) (cnt : Int) (mute : List UInt8) (sk : List Nat) (hsk : 0 < sk.length) (hs1 : sk.length ≤ 1000) (i : Nat) (hi : i < sk.length) : FnC Tryd.prog 9 [.lit (.pointer (some ⟨b, 0, none⟩)), .int (i : Int)] [.box b 45 [.lit (.pointer (some ⟨r, 0, none⟩)), .lit vs, .int cnt, .str mute], .arr vs 39 1 (sk.map fun i => Opn.ptr (bs i))] (fun rr M => rr = .tup [] ∧ ∃ vs', M = [.box b 45 [.lit (.pointer (some ⟨r, 0, none⟩)), .lit vs', .int cnt, .str mute], .arr vs' 39 1 ((if 0 < i then sk.take i else sk).map fun i => Opn.ptr (bs i))]) :=  by
  refine FnC.mk Tryd.func9 (by kernel_rfl) rfl Tryd.ntmps9 rfl (fun w0 F => ?_)
  have hml : (sk.map fun i => Opn.ptr (bs i)).length = sk.length := List.length_map ..
  refine W.arr_lit 1 rfl (by rw [List.length_map]; exact hsk) ?_
  intro g off cq hv hc1 hc2
  subst hv
  refine W.seq ?_
  refine W.region ?_
  refine W.q (Ev.move (.t rfl)) rfl ?_
  refine W.q (Ev.gti (.t rfl) .k) rfl ?_
  refine W.nil ?_
  refine W.then ?_
  refine W.cond (.t rfl) (fun hc_t5 => ?_) (fun hc_t5 => ?_)
  · have h5 : 0 < i := by have := of_decide_eq_true hc_t5; omega
    refine W.region ?_
    refine W.q (Ev.move (.t rfl)) rfl ?_
    refine W.q (Ev.move (.t rfl)) rfl ?_
    refine W.q (Ev.nilc (.t rfl)) rfl ?_
    first | refine W.q (Ev.fae (.t rfl) fa45_1 rfl) rfl ?_ | refine W.q (Ev.fab (.t rfl) fa45_1) rfl ?_ | refine W.q (Ev.faa (.t rfl) fa45_1) rfl ?_
    first | refine W.q (Ev.lde1 (.t rfl) ag41) rfl ?_ | refine W.q (Ev.ldb1 0 (.t rfl) rfl ag41 rfl) rfl ?_ | refine W.q (Ev.ldb1 1 (.t rfl) rfl ag41 rfl) rfl ?_ | refine W.q (Ev.ldb1 2 (.t rfl) rfl ag41 rfl) rfl ?_ | refine W.q (Ev.ldb1 3 (.t rfl) rfl ag41 rfl) rfl ?_
    refine W.q (Ev.move (.t rfl)) rfl ?_
    refine W.q (Ev.slit0 (q := i) (hi := some (.tmp 11)) (.t rfl) Tryd.underlying41 ty39 (.t rfl) (by first | rfl | omega | (simp; omega)) (by omega)) rfl ?_
    refine W.q (Ev.nilc (.t rfl)) rfl ?_
    first | refine W.q (Ev.fae (.t rfl) fa45_1 rfl) rfl ?_ | refine W.q (Ev.fab (.t rfl) fa45_1) rfl ?_ | refine W.q (Ev.faa (.t rfl) fa45_1) rfl ?_
    first | refine W.stb 0 (.t rfl) (.t rfl) rfl ty41 rfl rfl rfl ?_ | refine W.stb 1 (.t rfl) (.t rfl) rfl ty41 rfl rfl rfl ?_ | refine W.stb 2 (.t rfl) (.t rfl) rfl ty41 rfl rfl rfl ?_ | refine W.stb 3 (.t rfl) (.t rfl) rfl ty41 rfl rfl rfl ?_
    refine W.nil ?_
    refine W.cutrow (M1 := [_]) (M2 := []) (m := i) (by rw [List.length_map]; omega) ?_
    refine W.endn (M' := [_, _]) (D := []) (rs := []) (avs := []) Tryd.results9 trivial rfl (.refl _) ?_
    exact ⟨rfl, .slice (some ⟨g, off, none⟩) i cq, by rw [if_pos h5, List.map_take]; rfl⟩
  · have h5 : ¬ 0 < i := by have := of_decide_eq_false hc_t5; omega
    refine W.skip ?_
    refine W.endn (M' := [_, _]) (D := []) (rs := []) (avs := []) Tryd.results9 trivial rfl (.refl _) ?_
    exact ⟨rfl, _, by rw [if_neg h5]⟩

end WOClose

end Go.Proofs.YtbdfeolffigdoaaDoor
end

section
set_option linter.unusedVariables false
set_option linter.unusedSimpArgs false
set_option maxRecDepth 100000
namespace Go.Proofs.YtbdfeolffigdoaaDoor
open Go.Vl

namespace WOLast
theorem ty39 : Ty Tryd.prog 39 1 8 (.pointer none) := Ty.of (by kernel_rfl)
theorem ty41 : Ty Tryd.prog 41 1 24 (.slice none 0 0) := Ty.of (by kernel_rfl)
theorem ag39 : IsAgg Tryd.prog 39 false := ⟨_, Tryd.underlying39, rfl⟩
theorem ag41 : IsAgg Tryd.prog 41 false := ⟨_, Tryd.underlying41, rfl⟩
theorem fa45_1 : FieldAt Tryd.prog 45 1 1 1 false := ⟨_, _, Tryd.underlying45, rfl, rfl, ty41.size, ag41, by decide⟩
theorem c_last (b r : Nat) (bs : Nat → Nat) (vs : Value) (cnt : Int) (mute : List UInt8) (sk : List Nat) (hsk : 0 < sk.length) (hs1 : sk.length ≤ 1000) : FnC Tryd.prog 15 [.lit (.pointer (some ⟨b, 0, none⟩))] [.box b 45 [.lit (.pointer (some ⟨r, 0, none⟩)), .lit vs, .int cnt, .str mute], .arr vs 39 1 (sk.map fun i => Opn.ptr (bs i))] (fun rr M => rr = Opn.ptr (bs (sk.getD (sk.length - 1) 0)) ∧ M = [.box b 45 [.lit (.pointer (some ⟨r, 0, none⟩)), .lit vs, .int cnt, .str mute], .arr vs 39 1 (sk.map fun i => Opn.ptr (bs i))]) :=  by
  refine FnC.mk Tryd.func15 (by kernel_rfl) rfl Tryd.ntmps15 rfl (fun w0 F => ?_)
  have hml : (sk.map fun i => Opn.ptr (bs i)).length = sk.length := List.length_map ..
  have hga := getD_mapG (fun i => Opn.ptr (bs i)) 0 sk (sk.length - 1) (by omega)
  refine W.seq ?_
  refine W.region ?_
  refine W.q (Ev.assign .k) rfl ?_
  refine W.nil ?_
  refine W.then ?_
  refine W.seq ?_
  refine W.drawnM (fun _ _ => [.box b 45 [.lit (.pointer (some ⟨r, 0, none⟩)), .lit vs, .int cnt, .str mute], .arr vs 39 1 (sk.map fun i => Opn.ptr (bs i))]) (c0 := ks0) (by kernel_rfl) (by kernel_rfl) rfl ?_
  refine DM.q (fun e c hk => (Ev.move (.t rfl))) rfl (fun _ _ => rfl) (fun c c_ h => by first | rfl) ?_
  refine DM.q (fun e c hk => (Ev.nilc (.t rfl))) rfl (fun _ _ => rfl) (fun c c_ h => by first | rfl) ?_
  first | refine DM.q (fun e c hk => (Ev.fae (.t rfl) fa45_1 rfl)) rfl (fun _ _ => rfl) (fun c c_ h => by first | rfl) ?_ | refine DM.q (fun e c hk => (Ev.fab (.t rfl) fa45_1)) rfl (fun _ _ => rfl) (fun c c_ h => by first | rfl) ?_ | refine DM.q (fun e c hk => (Ev.faa (.t rfl) fa45_1)) rfl (fun _ _ => rfl) (fun c c_ h => by first | rfl) ?_
  first | refine DM.q (fun e c hk => (Ev.lde1 (.t rfl) ag41)) rfl (fun _ _ => rfl) (fun c c_ h => by first | rfl) ?_ | refine DM.q (fun e c hk => (Ev.ldb1 0 (.t rfl) rfl ag41 rfl)) rfl (fun _ _ => rfl) (fun c c_ h => by first | rfl) ?_ | refine DM.q (fun e c hk => (Ev.ldb1 1 (.t rfl) rfl ag41 rfl)) rfl (fun _ _ => rfl) (fun c c_ h => by first | rfl) ?_ | refine DM.q (fun e c hk => (Ev.ldb1 2 (.t rfl) rfl ag41 rfl)) rfl (fun _ _ => rfl) (fun c c_ h => by first | rfl) ?_ | refine DM.q (fun e c hk => (Ev.ldb1 3 (.t rfl) rfl ag41 rfl)) rfl (fun _ _ => rfl) (fun c c_ h => by first | rfl) ?_
  refine DM.q (fun e c hk => (Ev.move (.t rfl))) rfl (fun _ _ => rfl) (fun c c_ h => by first | rfl) ?_
  refine DM.q (fun e c hk => (Ev.nilc (.t rfl))) rfl (fun _ _ => rfl) (fun c c_ h => by first | rfl) ?_
  first | refine DM.q (fun e c hk => (Ev.fae (.t rfl) fa45_1 rfl)) rfl (fun _ _ => rfl) (fun c c_ h => by first | rfl) ?_ | refine DM.q (fun e c hk => (Ev.fab (.t rfl) fa45_1)) rfl (fun _ _ => rfl) (fun c c_ h => by first | rfl) ?_ | refine DM.q (fun e c hk => (Ev.faa (.t rfl) fa45_1)) rfl (fun _ _ => rfl) (fun c c_ h => by first | rfl) ?_
  first | refine DM.q (fun e c hk => (Ev.lde1 (.t rfl) ag41)) rfl (fun _ _ => rfl) (fun c c_ h => by first | rfl) ?_ | refine DM.q (fun e c hk => (Ev.ldb1 0 (.t rfl) rfl ag41 rfl)) rfl (fun _ _ => rfl) (fun c c_ h => by first | rfl) ?_ | refine DM.q (fun e c hk => (Ev.ldb1 1 (.t rfl) rfl ag41 rfl)) rfl (fun _ _ => rfl) (fun c c_ h => by first | rfl) ?_ | refine DM.q (fun e c hk => (Ev.ldb1 2 (.t rfl) rfl ag41 rfl)) rfl (fun _ _ => rfl) (fun c c_ h => by first | rfl) ?_ | refine DM.q (fun e c hk => (Ev.ldb1 3 (.t rfl) rfl ag41 rfl)) rfl (fun _ _ => rfl) (fun c c_ h => by first | rfl) ?_
  first | refine DM.q (fun e c hk => (Ev.lensl (.t rfl) Tryd.underlying41)) rfl (fun _ _ => rfl) (fun c c_ h => by first | rfl) ?_ | refine DM.q (fun e c hk => (Ev.lenar (i := 0) (.t rfl) rfl Tryd.underlying41)) rfl (fun _ _ => rfl) (fun c c_ h => by first | rfl) ?_ | refine DM.q (fun e c hk => (Ev.lenar (i := 1) (.t rfl) rfl Tryd.underlying41)) rfl (fun _ _ => rfl) (fun c c_ h => by first | rfl) ?_ | refine DM.q (fun e c hk => (Ev.lenar (i := 2) (.t rfl) rfl Tryd.underlying41)) rfl (fun _ _ => rfl) (fun c c_ h => by first | rfl) ?_ | refine DM.q (fun e c hk => (Ev.lenar (i := 3) (.t rfl) rfl Tryd.underlying41)) rfl (fun _ _ => rfl) (fun c c_ h => by first | rfl) ?_
  first | refine DM.q (fun e c hk => (Ev.sub (.t rfl) .k (fun _ => by omega))) rfl (fun _ _ => rfl) (fun c c_ h => by first | rfl) ?_ | refine DM.q (fun e c hk => (Ev.subw (.t rfl) .k)) rfl (fun _ _ => rfl) (fun c c_ h => by first | rfl) ?_
  refine DM.q (fun e c hk => Ev.ata 1 (.t rfl) rfl (.t rfl) Tryd.underlying41 ty39 (fun _ => by rw [List.length_map]; omega)) rfl (fun _ _ => rfl) (fun _ _ _ => rfl) ?_
  refine DM.q (fun e c hk => Ev.lda1 1 (sk.length - 1) 0 (.t rfl) rfl hga (by omega) rfl rfl rfl ag39) rfl (fun _ _ => rfl) (fun _ _ _ => rfl) ?_
  refine DM.q (fun e c hk => (Ev.assign (.t rfl))) rfl (fun _ _ => rfl) (fun c c_ h => by first | rfl) ?_
  refine DM.nil (fun cc e_ he_ => ?_)
  dsimp only
  refine W.then ?_
  refine W.ret ?_
  refine W.retn (M' := [_, _]) (D := []) (rs := [.tmp 2]) (avs := [_]) Tryd.results15 ⟨rfl, trivial⟩ rfl (.refl _) ?_
  exact ⟨rfl, rfl⟩

end WOLast

end Go.Proofs.YtbdfeolffigdoaaDoor
end

section
set_option linter.unusedVariables false
set_option linter.unusedSimpArgs false
set_option maxRecDepth 100000
namespace Go.Proofs.YtbdfeolffigdoaaDoor
open Go.Vl

namespace WCloneA
theorem ty37 : Ty Tryd.prog 37 2 32 (.agg #[.string ⟨#[]⟩, .string ⟨#[]⟩]) := Ty.of (by kernel_rfl)
theorem ni26 : NotInt Tryd.prog 26 := .inl ⟨_, Tryd.underlying26⟩
theorem c_CloneAttr (es : List AV) (ho : ∀ e ∈ es, e.okc = true) (hl : es.length ≤ 1099511627776) : FnC Tryd.prog 14 [.sl 2 es] [] (fun r M => ∃ v, r = .lit v ∧ M = [.arr v 37 2 es]) :=  by
  refine FnC.mk Tryd.func14 (by kernel_rfl) rfl Tryd.ntmps14 rfl (fun w0 F => ?_)
  refine W.seq ?_
  refine W.region ?_
  refine W.q (Ev.assign .k) rfl ?_
  refine W.nil ?_
  refine W.then ?_
  refine W.seq ?_
  refine W.seq ?_
  refine W.region ?_
  refine W.q (Ev.move (.t rfl)) rfl ?_
  refine W.slnil (.t rfl) Tryd.underlying26 rfl (fun q hq => ?_)
  refine W.nil ?_
  refine W.then ?_
  refine W.cond (.t rfl) (fun hc_t4 => ?_) (fun hc_t4 => ?_)
  · refine W.seq ?_
    refine W.region ?_
    refine W.q (Ev.assign .k) rfl ?_
    refine W.nil ?_
    refine W.own_nil 37 2 ?_
    refine W.then ?_
    refine W.ret ?_
    refine W.then_ret ?_
    refine W.retn (M' := [.arr _ 37 2 _]) (rs := [.tmp 2]) (avs := [_]) Tryd.results14 ⟨rfl, trivial⟩ rfl (.refl _) ?_
    first | exact ⟨_, rfl, by rw [hq hc_t4]⟩ | exact ⟨_, rfl, rfl⟩
  · refine W.skip ?_
    refine W.then ?_
    refine W.seq ?_
    refine W.region ?_
    refine W.bso (es := []) Tryd.underlying26 ty37 trivial rfl (by decide) rfl rfl ?_
    intro v5
    refine W.q (Ev.move (.t rfl)) rfl ?_
    first | refine W.app 0 (.t rfl) rfl (.sl (.t rfl) (ho)) Tryd.underlying26 ni26 ty37 rfl rfl (by simp; omega) rfl ?_ | refine W.app 1 (.t rfl) rfl (.sl (.t rfl) (ho)) Tryd.underlying26 ni26 ty37 rfl rfl (by simp; omega) rfl ?_ | refine W.app 2 (.t rfl) rfl (.sl (.t rfl) (ho)) Tryd.underlying26 ni26 ty37 rfl rfl (by simp; omega) rfl ?_ | refine W.app 3 (.t rfl) rfl (.sl (.t rfl) (ho)) Tryd.underlying26 ni26 ty37 rfl rfl (by simp; omega) rfl ?_ | refine W.app 0 (.t rfl) rfl (.arr 0 (.t rfl) rfl (ho)) Tryd.underlying26 ni26 ty37 rfl rfl (by simp; omega) rfl ?_ | refine W.app 0 (.t rfl) rfl (.arr 1 (.t rfl) rfl (ho)) Tryd.underlying26 ni26 ty37 rfl rfl (by simp; omega) rfl ?_ | refine W.app 0 (.t rfl) rfl (.arr 2 (.t rfl) rfl (ho)) Tryd.underlying26 ni26 ty37 rfl rfl (by simp; omega) rfl ?_ | refine W.app 0 (.t rfl) rfl (.arr 3 (.t rfl) rfl (ho)) Tryd.underlying26 ni26 ty37 rfl rfl (by simp; omega) rfl ?_ | refine W.app 1 (.t rfl) rfl (.arr 0 (.t rfl) rfl (ho)) Tryd.underlying26 ni26 ty37 rfl rfl (by simp; omega) rfl ?_ | refine W.app 1 (.t rfl) rfl (.arr 1 (.t rfl) rfl (ho)) Tryd.underlying26 ni26 ty37 rfl rfl (by simp; omega) rfl ?_ | refine W.app 1 (.t rfl) rfl (.arr 2 (.t rfl) rfl (ho)) Tryd.underlying26 ni26 ty37 rfl rfl (by simp; omega) rfl ?_ | refine W.app 1 (.t rfl) rfl (.arr 3 (.t rfl) rfl (ho)) Tryd.underlying26 ni26 ty37 rfl rfl (by simp; omega) rfl ?_ | refine W.app 2 (.t rfl) rfl (.arr 0 (.t rfl) rfl (ho)) Tryd.underlying26 ni26 ty37 rfl rfl (by simp; omega) rfl ?_ | refine W.app 2 (.t rfl) rfl (.arr 1 (.t rfl) rfl (ho)) Tryd.underlying26 ni26 ty37 rfl rfl (by simp; omega) rfl ?_ | refine W.app 2 (.t rfl) rfl (.arr 2 (.t rfl) rfl (ho)) Tryd.underlying26 ni26 ty37 rfl rfl (by simp; omega) rfl ?_ | refine W.app 2 (.t rfl) rfl (.arr 3 (.t rfl) rfl (ho)) Tryd.underlying26 ni26 ty37 rfl rfl (by simp; omega) rfl ?_ | refine W.app 3 (.t rfl) rfl (.arr 0 (.t rfl) rfl (ho)) Tryd.underlying26 ni26 ty37 rfl rfl (by simp; omega) rfl ?_ | refine W.app 3 (.t rfl) rfl (.arr 1 (.t rfl) rfl (ho)) Tryd.underlying26 ni26 ty37 rfl rfl (by simp; omega) rfl ?_ | refine W.app 3 (.t rfl) rfl (.arr 2 (.t rfl) rfl (ho)) Tryd.underlying26 ni26 ty37 rfl rfl (by simp; omega) rfl ?_ | refine W.app 3 (.t rfl) rfl (.arr 3 (.t rfl) rfl (ho)) Tryd.underlying26 ni26 ty37 rfl rfl (by simp; omega) rfl ?_
    intro v7
    refine W.q (Ev.assign (.t rfl)) rfl ?_
    refine W.nil ?_
    refine W.then ?_
    refine W.ret ?_
    refine W.retn (M' := [.arr _ 37 2 _]) (rs := [.tmp 2]) (avs := [_]) Tryd.results14 ⟨rfl, trivial⟩ rfl (.refl _) ?_
    first | exact ⟨_, rfl, by rw [hq hc_t4]⟩ | exact ⟨_, rfl, rfl⟩

end WCloneA

end Go.Proofs.YtbdfeolffigdoaaDoor
end
