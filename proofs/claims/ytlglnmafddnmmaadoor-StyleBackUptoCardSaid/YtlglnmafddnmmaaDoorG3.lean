/-
  Merged: DrawM Iter Utf Enc UtfLaw More Str Style Bld Tree Walk CallG Sty S2b Base WBld WStr.
-/
import Derived.Test.YtlglnmafddnmmaaDoorG2
import Derived.Laws.StructEq
import Derived.Lib.Builder
import Derived.Lib.UnsafeStr
import Derived.Laws.Pointers
import Derived.Laws.Externs
import Derived.Laws.Cover3
import Derived.Lib.IndexMore
import Derived.Lib.SlTrimSet
import Derived.Lib.ConvBytes
import Derived.Test.YtlglnmafddnmmaaDoorRows

section
set_option linter.unusedVariables false
set_option linter.unusedSimpArgs false
set_option linter.unusedSectionVars false
namespace Go.Vl
open Go Go.Sem
abbrev Ks := Nat → Nat × Value
def upd (c : Ks) (i : Nat) (z : Nat × Value) : Ks := fun k => if k = i then z else c k
def ks0 : Ks := fun _ => (0, undef)
theorem St.perm {x : Cx} {L : List En} {M M' : List ME} {a : Act} {w : World} (hs : St x L M a w) (hp : List.Perm M M') : St x L M' a w := by
  obtain ⟨hm, hk, hsub⟩ := hs.mem.sub (M' := M') (D := []) (by rw [List.append_nil]; exact hp)
  exact ⟨hs.defers, hs.size, fun t g av hl => ⟨fun hg => ((hs.slots t g av hl).1 hg).keep hk, (hs.slots t g av hl).2⟩, hm, hs.fr.sub hsub, hs.old⟩
theorem W.perm {x : Cx} {L : List En} {M M' : List ME} {R : Act → World → Prop} (hp : List.Perm M M') (h : W x L M' R) : W x L M R := fun a w hs => h a w (hs.perm hp)
section draw
variable {x : Cx} {L : List En} {M : List ME} {Q : Exit → Act → World → Prop}

def ObM (x : Cx) (ops : Array Oper) (L : List En) (Mf : (Nat → Bool) → Ks → List ME) (i : Nat) (o : Oper) (done : Ks → List En) (ent : Ks → En) : Prop :=
  ∀ e c, OkE ops e i → ∀ L' a w, (∀ t p, look (sel (o.looksAt ops) (done c ++ L)) t = some p → look L' t = some p) → St x L' (Mf e c) a w →
    stepE x ops o a w (fun a' w' => ∃ c' : Ks, (∀ k, k ≠ i → c' k = c k) ∧ St x (ent c' :: L') (Mf (addE e i) c') a' w')

/-- the region's operations in the text's order -/
def DM (x : Cx) (ops : Array Oper) (L : List En) (Mf : (Nat → Bool) → Ks → List ME) (R : Act → World → Prop) : Nat → List Oper → (Ks → List En) → Prop
  | i, [], done => ∀ c e, (∀ j, j < i → e j = true) → W x (done c ++ L) (Mf e c) R
  | i, o :: rest, done => ∃ ent : Ks → En, KeyOk x o ent ∧ (∀ c c' : Ks, (∀ k, (k = i ∨ anc ops k i = true) → c k = c' k) → ent c = ent c') ∧ ObM x ops L Mf i o done ent ∧ DM x ops L Mf R (i + 1) rest (fun c => ent c :: done c)

theorem DM.extract {ops : Array Oper} {R : Act → World → Prop} {Mf : (Nat → Bool) → Ks → List ME} : ∀ {rest : List Oper} {k : Nat} {done : Ks → List En}, DM x ops L Mf R k rest done →
    ∃ ents : List (Ks → En), ents.length = rest.length ∧ (∀ (i : Nat) (o : Oper), rest[i]? = some o → ∃ ent, ents[i]? = some ent ∧ KeyOk x o ent ∧ (∀ c c' : Ks, (∀ m, (m = k + i ∨ anc ops m (k + i) = true) → c m = c' m) → ent c = ent c') ∧
      ObM x ops L Mf (k + i) o (fun c => ((ents.take i).map (· c)).reverse ++ done c) ent) ∧ (∀ c e, (∀ j, j < k + rest.length → e j = true) → W x ((ents.map (· c)).reverse ++ (done c ++ L)) (Mf e c) R)
  | [], k, done, h => by
    have h' : ∀ c e, (∀ j, j < k → e j = true) → W x (done c ++ L) (Mf e c) R := h
    exact ⟨[], rfl, by simp, fun c e he => by simpa using h' c e (by simpa using he)⟩
  | o :: rest, k, done, h => by
    obtain ⟨ent, h1, h2, h3, h4⟩ := h
    obtain ⟨ents, e1, e2, e3⟩ := DM.extract h4
    refine ⟨ent :: ents, by simp [e1], ?_, ?_⟩
    · intro i o' ho'
      cases i with
      | zero => simp at ho'; subst ho'; exact ⟨ent, rfl, h1, h2, by simpa using h3⟩
      | succ i =>
        obtain ⟨ent', f1, f2, f3, f4⟩ := e2 i o' (by simpa using ho')
        have e : k + 1 + i = k + (i + 1) := by omega
        rw [e] at f3 f4
        exact ⟨ent', by simpa using f1, f2, f3, by simpa using f4⟩
    · intro c e he
      have := e3 c e (fun j hj => he j (by simp; omega))
      simpa using this

theorem W.drawnM {id : Nat} {l : List Oper} (Mf : (Nat → Bool) → Ks → List ME) (c0 : Ks) (hm : x.P.follows .mixedOrders = true) (hok : okDrawE x.n l.toArray = true) (hM0 : M = Mf (fun _ => false) c0) (h : DM x l.toArray L Mf (Q .normal) 0 l (fun _ => [])) : W x L M (Code.wp x.P (.region id l.toArray true) Q) := by
  subst hM0
  intro a w hs
  obtain ⟨ents, hlen, hes, hW⟩ := h.extract
  simp only [List.append_nil, Nat.zero_add, List.nil_append] at hes hW
  -- the edges, in words
  have hok' : ∀ (i : Nat) (oi : Oper), l[i]? = some oi → ((∀ e ∈ oi.after, Region.binds .any e = true → e.on < i) ∧ x.n ∉ oi.looksAt l.toArray) ∧ ∀ (j : Nat) (oj : Oper), l[j]? = some oj → i ≠ j → (oi.dst ≠ oj.dst ∨ oj.dst = none) ∧ ∀ d, oj.dst = some d → d ∈ oi.looksAt l.toArray →
      (j < i ∧ ∃ e ∈ oi.after, Region.binds .any e = true ∧ e.on = j) ∨ (i < j ∧ ∃ e ∈ oj.after, Region.binds .any e = true ∧ e.on = i) := by
    intro i oi hi
    have hil : i < l.length := by
      rcases Nat.lt_or_ge i l.length with h' | h'
      · exact h'
      · rw [List.getElem?_eq_none h'] at hi; cases hi
    simp only [okDrawE, List.size_toArray, List.all_eq_true, List.mem_range] at hok
    have h1 := hok i hil
    rw [List.getElem?_toArray, hi] at h1
    simp only [Bool.and_eq_true, Array.all_eq_true', List.all_eq_true, List.mem_range, decide_eq_true_eq, Bool.not_eq_true', List.contains_eq_mem, decide_eq_false_iff_not] at h1
    refine ⟨⟨fun e he hb => by
      have h9 := h1.1.1 e he
      rw [hb] at h9
      simpa using h9, h1.1.2⟩, fun j oj hj hne => ?_⟩
    have hjl : j < l.length := by
      rcases Nat.lt_or_ge j l.length with h' | h'
      · exact h'
      · rw [List.getElem?_eq_none h'] at hj; cases hj
    have h2 := h1.2 j hjl
    rw [List.getElem?_toArray, hj] at h2
    simp only [Bool.or_eq_true, beq_iff_eq, hne, false_or, Bool.and_eq_true, bne_iff_ne, Option.isNone_iff_eq_none] at h2
    refine ⟨h2.1, fun d hd hdl => ?_⟩
    have h3 := h2.2
    rw [hd] at h3
    simp only [Bool.or_eq_true, Bool.not_eq_true', List.contains_eq_mem, decide_eq_false_iff_not, hdl, not_true_eq_false, false_or] at h3
    by_cases hji : j < i
    · left
      simp only [hji, decide_true, cond_true, Array.any_eq_true', Bool.and_eq_true, beq_iff_eq] at h3
      obtain ⟨e, he, hb, ho⟩ := h3
      exact ⟨hji, e, he, hb, ho⟩
    · right
      simp only [hji, decide_false, cond_false, Array.any_eq_true', Bool.and_eq_true, beq_iff_eq] at h3
      obtain ⟨e, he, hb, ho⟩ := h3
      exact ⟨by omega, e, he, hb, ho⟩
  have hkd : ∀ (i : Nat) (ent : Ks → En), ents[i]? = some ent → ∃ oi : Oper, l[i]? = some oi ∧ KeyOk x oi ent := by
    intro i e he
    have hil : i < l.length := by
      rcases Nat.lt_or_ge i ents.length with h' | h'
      · omega
      · rw [List.getElem?_eq_none h'] at he; cases he
    obtain ⟨ent, h1, h2, _⟩ := hes i l[i] (List.getElem?_eq_getElem hil)
    rw [he] at h1
    cases h1
    exact ⟨l[i], List.getElem?_eq_getElem hil, h2⟩
  let es : Ks → List En := fun c => ents.map (· c)
  have hesl : ∀ c, (es c).length = ents.length := fun c => List.length_map ..
  have hesi : ∀ (c : Ks) (i : Nat) (e : En), (es c)[i]? = some e → ∃ ent, ents[i]? = some ent ∧ ent c = e := by
    intro c i e he
    rw [List.getElem?_map] at he
    cases hx : ents[i]? with
    | none => rw [hx] at he; cases he
    | some ent => rw [hx] at he; cases he; exact ⟨ent, rfl, rfl⟩
  have hesm : ∀ (c : Ks) (i : Nat) (ent : Ks → En), ents[i]? = some ent → (es c)[i]? = some (ent c) := by
    intro c i ent he
    rw [List.getElem?_map, he]; rfl
  have hget : ∀ (c : Ks) (i : Nat) (e : En), (es c)[i]? = some e → ∃ oi : Oper, l[i]? = some oi ∧ (oi.dst = some e.1 ∨ (oi.dst = none ∧ e.1 = x.n)) := by
    intro c i e he
    obtain ⟨ent, h1, rfl⟩ := hesi c i e he
    obtain ⟨oi, h2, h3⟩ := hkd i ent h1
    refine ⟨oi, h2, ?_⟩
    have h4 := h3 c
    cases hd : oi.dst with
    | none => rw [hd] at h4; exact .inr ⟨rfl, by rw [show ent c = (x.n, false, .lit undef) from h4]⟩
    | some d => rw [hd] at h4; exact .inl (by rw [h4.1])
  have hkey : ∀ (c : Ks) (i j : Nat) (e e' : En), (es c)[i]? = some e → (es c)[j]? = some e' → e.1 = e'.1 → e = e' := by
    intro c i j e e' hi hj he
    by_cases hne : i = j
    · subst hne; rw [hi] at hj; cases hj; rfl
    · skip
      obtain ⟨enti, hi1, rfl⟩ := hesi c i e hi
      obtain ⟨entj, hj1, rfl⟩ := hesi c j e' hj
      obtain ⟨oi, h1, h2⟩ := hkd i enti hi1
      obtain ⟨oj, h3, h4⟩ := hkd j entj hj1
      have hn := ((hok' i oi h1).2 j oj h3 hne).1
      have h5 := h2 c
      have h6 := h4 c
      cases hd : oi.dst with
      | none =>
        cases hd' : oj.dst with
        | none =>
          rw [hd] at h5
          rw [hd'] at h6
          exact (show enti c = _ from h5).trans (show entj c = _ from h6).symm
        | some d' =>
          exfalso
          rw [hd] at h5
          rw [hd'] at h6
          replace h5 : (enti c).1 = x.n := by rw [show enti c = (x.n, false, .lit undef) from h5]
          have : d' < x.n := by simpa [Nat.blt_eq] using h6.2
          have e1 : d' = x.n := by rw [← h6.1, ← he, h5]
          rw [e1] at this; exact Nat.lt_irrefl _ this
      | some d =>
        exfalso
        cases hd' : oj.dst with
        | none =>
          rw [hd] at h5
          rw [hd'] at h6
          replace h6 : (entj c).1 = x.n := by rw [show entj c = (x.n, false, .lit undef) from h6]
          have : d < x.n := by simpa [Nat.blt_eq] using h5.2
          have e1 : d = x.n := by rw [← h5.1, he, h6]
          rw [e1] at this; exact Nat.lt_irrefl _ this
        | some d' =>
          rw [hd] at h5
          rw [hd'] at h6
          rcases hn with hn | hn
          · exact hn (by rw [hd, hd', ← h5.1, ← h6.1, he])
          · rw [hd'] at hn; cases hn
  have hdist : ∀ (c : Ks) listed, ∀ e ∈ esOf (es c) listed, ∀ e' ∈ esOf (es c) listed, e.1 = e'.1 → e = e' := by
    intro c listed e he e' he' hk
    obtain ⟨i, _, hi⟩ := mem_esOf.1 he
    obtain ⟨j, _, hj⟩ := mem_esOf.1 he'
    exact hkey c i j e e' hi hj hk
  refine wp_region_any hm ?_
  have key : ∀ (fuel : Nat) (listed : Array Bool) (a : Act) (w : World), listed.size = l.length → (∀ (i : Nat) (o : Oper), l[i]? = some o → listed.getD i false = true → ∀ e ∈ o.after, Region.binds .any e = true → listed.getD e.on false = true) →
      (∃ c, St x (esOf (es c) listed ++ L) (Mf (fun j => listed.getD j false) c) a w) → (fuel = 0 → ∀ i, i < l.length → listed.getD i false = true) → (listed.toList.filter (!·)).length ≤ fuel → wpAny x.P .any l.toArray Q fuel listed a w := by
    intro fuel
    have hdone : ∀ (listed : Array Bool) (a : Act) (w : World), listed.size = l.length → (∃ c, St x (esOf (es c) listed ++ L) (Mf (fun j => listed.getD j false) c) a w) → Region.ready .any l.toArray listed = [] → Q .normal a w := by
      rintro listed a w hsz ⟨c, hs⟩ hr
      have hall : ∀ i, i < l.length → listed.getD i false = true := by
        intro i
        induction i using Nat.strongRecOn with
        | _ i ih =>
          intro hi
          cases hli : listed.getD i false with
          | true => rfl
          | false =>
            exfalso
            have : i ∈ Region.ready .any l.toArray listed := by
              simp only [Region.ready, List.mem_filter, List.mem_range, List.size_toArray, Bool.and_eq_true]
              refine ⟨hi, ?_, ?_⟩
              · have : listed.getD i true = false := by
                  rw [Array.getD_eq_getD_getElem?, Array.getElem?_eq_getElem (by omega)] at hli ⊢
                  simpa using hli
                simp [this]
              · rw [List.getElem?_toArray, List.getElem?_eq_getElem hi]
                simp only [Option.map_some, Option.getD_some, Array.all_eq_true', Bool.or_eq_true, Bool.not_eq_true']
                intro e he
                cases hb : Region.binds .any e with
                | false => exact .inl rfl
                | true =>
                  have hlt := (hok' i l[i] (List.getElem?_eq_getElem hi)).1.1 e he hb
                  exact .inr (ih e.on hlt (by omega))
            rw [hr] at this
            cases this
      refine hW c _ (fun j hj => hall j (by simpa using hj)) a w (hs.look ?_)
      intro t p hl
      rw [look_append] at hl ⊢
      by_cases hk : ∃ e ∈ es c, e.1 = t
      · obtain ⟨e, he, rfl⟩ := hk
        obtain ⟨i, hi, hie⟩ := List.getElem_of_mem he
        have hie' : (es c)[i]? = some e := by rw [List.getElem?_eq_getElem hi, hie]
        have h1 : look (es c).reverse e.1 = some e.2 := look_mem (List.mem_reverse.2 he) (by
          intro e1 he1 e2 he2 hk
          obtain ⟨i1, hi1, hie1⟩ := List.getElem_of_mem (List.mem_reverse.1 he1)
          obtain ⟨i2, hi2, hie2⟩ := List.getElem_of_mem (List.mem_reverse.1 he2)
          exact hkey c i1 i2 e1 e2 (by rw [List.getElem?_eq_getElem hi1, hie1]) (by rw [List.getElem?_eq_getElem hi2, hie2]) hk)
        have h2 : look (esOf (es c) listed) e.1 = some e.2 := look_mem (mem_esOf.2 ⟨i, hall i (by have := hesl c; omega), hie'⟩) (hdist c listed)
        rw [h1] at hl
        rw [h2]
        simpa using hl
      · have h1 : look (es c).reverse t = none := look_none (fun e he h => hk ⟨e, List.mem_reverse.1 he, h⟩)
        rw [h1, Option.none_or] at hl
        have h2 : look (esOf (es c) listed) t = none := look_none (fun e he h => by
          obtain ⟨i, _, hi⟩ := mem_esOf.1 he
          exact hk ⟨e, List.mem_of_getElem? hi, h⟩)
        rw [h2, Option.none_or]
        exact hl
    induction fuel with
    | zero =>
      intro listed a w hsz hcl hs h0 _
      have hall := h0 rfl
      have hr : Region.ready .any l.toArray listed = [] := by
        apply List.eq_nil_iff_forall_not_mem.2
        intro i hi
        simp only [Region.ready, List.mem_filter, List.mem_range, List.size_toArray, Bool.and_eq_true, Bool.not_eq_true'] at hi
        have h1 := hall i hi.1
        have h2 := hi.2.1
        rw [Array.getD_eq_getD_getElem?, Array.getElem?_eq_getElem (by omega)] at h1 h2
        simp at h1 h2
        rw [h1] at h2
        cases h2
      exact ⟨hr, hdone listed a w hsz hs hr⟩
    | succ fuel ih =>
      rintro listed a w hsz hcl ⟨c, hs⟩ _ hcount
      refine ⟨hdone listed a w hsz ⟨c, hs⟩, fun i hi => ?_⟩
      simp only [Region.ready, List.mem_filter, List.mem_range, List.size_toArray, Bool.and_eq_true, Bool.not_eq_true'] at hi
      obtain ⟨hil, hnl, hdeps⟩ := hi
      have hnl' : listed.getD i false = false := by
        rw [Array.getD_eq_getD_getElem?, Array.getElem?_eq_getElem (by omega)] at hnl ⊢
        simpa using hnl
      have hoi : l[i]? = some l[i] := List.getElem?_eq_getElem hil
      generalize l[i] = oi at hoi
      obtain ⟨ent, he, hko, hdep, hob⟩ := hes i oi hoi
      have hce := hesm c i ent he
      rw [List.getElem?_toArray, hoi] at hdeps
      simp only [Option.map_some, Option.getD_some, Array.all_eq_true', Bool.or_eq_true, Bool.not_eq_true'] at hdeps
      have hdeps' : ∀ e ∈ oi.after, Region.binds .any e = true → listed.getD e.on false = true := by
        intro e he hb
        rcases hdeps e he with h' | h'
        · rw [hb] at h'; cases h'
        · exact h'
      -- what the operation looks at is known
      have hsee : ∀ t p, look (sel (oi.looksAt l.toArray) (((ents.take i).map (· c)).reverse ++ L)) t = some p → look (esOf (es c) listed ++ L) t = some p := by
        intro t p hl
        rw [look_sel] at hl
        split at hl
        · rename_i ht
          rw [look_append] at hl ⊢
          by_cases hk : ∃ j e, j < i ∧ (es c)[j]? = some e ∧ e.1 = t
          · obtain ⟨j, e, hji, hje, rfl⟩ := hk
            obtain ⟨oj, hoj, hdj⟩ := hget c j e hje
            replace hdj : oj.dst = some e.1 := by
              rcases hdj with h | ⟨_, h⟩
              · exact h
              · rw [h] at ht; exact absurd ht (hok' i oi hoi).1.2
            have hl1 : listed.getD j false = true := by
              rcases ((hok' i oi hoi).2 j oj hoj (by omega)).2 e.1 hdj ht with ⟨_, ed, hed, hb, ho⟩ | ⟨h', _⟩
              · rw [← ho]; exact hdeps' ed hed hb
              · omega
            have h1 : look ((ents.take i).map (· c)).reverse e.1 = some e.2 := look_mem (List.mem_reverse.2 (by rw [List.map_take]; exact List.mem_of_getElem? (i := j) (by rw [List.getElem?_take, if_pos hji]; exact hje))) (by
              intro e1 he1 e2 he2 hk
              obtain ⟨i1, hi1, hie1⟩ := List.getElem_of_mem (l := es c) (by have := List.mem_reverse.1 he1; rw [List.map_take] at this; exact List.mem_of_mem_take this)
              obtain ⟨i2, hi2, hie2⟩ := List.getElem_of_mem (l := es c) (by have := List.mem_reverse.1 he2; rw [List.map_take] at this; exact List.mem_of_mem_take this)
              exact hkey c i1 i2 e1 e2 (by rw [List.getElem?_eq_getElem hi1, hie1]) (by rw [List.getElem?_eq_getElem hi2, hie2]) hk)
            have h2 : look (esOf (es c) listed) e.1 = some e.2 := look_mem (mem_esOf.2 ⟨j, hl1, hje⟩) (hdist c listed)
            rw [h1] at hl
            rw [h2]
            simpa using hl
          · have h1 : look ((ents.take i).map (· c)).reverse t = none := look_none (fun e he h => by
              have he' := List.mem_reverse.1 he
              rw [List.map_take] at he'
              obtain ⟨j, hj, hje⟩ := List.getElem_of_mem he'
              rw [List.length_take] at hj
              refine hk ⟨j, e, by omega, ?_, h⟩
              rw [← hje, List.getElem_take]
              exact List.getElem?_eq_getElem _)
            rw [h1, Option.none_or] at hl
            have h2 : look (esOf (es c) listed) t = none := look_none (fun e he h => by
              obtain ⟨j, hlj, hje⟩ := mem_esOf.1 he
              obtain ⟨oj, hoj, hdj⟩ := hget c j e hje
              replace hdj : oj.dst = some e.1 := by
                rcases hdj with h' | ⟨_, h'⟩
                · exact h'
                · rw [← h, h'] at ht; exact absurd ht (hok' i oi hoi).1.2
              have hji : ¬ j < i := fun h' => hk ⟨j, e, h', hje, h⟩
              by_cases hij : i = j
              · subst hij; rw [hnl'] at hlj; cases hlj
              · rcases ((hok' i oi hoi).2 j oj hoj hij).2 e.1 hdj (h ▸ ht) with ⟨h', _⟩ | ⟨_, ed, hed, hb, ho⟩
                · exact hji h'
                · have := hcl j oj hoj hlj ed hed hb
                  rw [ho, hnl'] at this
                  cases this)
            rw [h2, Option.none_or]
            exact hl
        · cases hl
      -- behind it
      have hnext : ∀ a' w', (∃ c' : Ks, (∀ k, k ≠ i → c' k = c k) ∧ St x (ent c' :: (esOf (es c) listed ++ L)) (Mf (addE (fun j => listed.getD j false) i) c') a' w') → wpAny x.P .any l.toArray Q fuel (listed.setIfInBounds i true) a' w' := by
        rintro a' w' ⟨c', hcc, hst⟩
        have hset : ∀ j, (listed.setIfInBounds i true).getD j false = if i = j then true else listed.getD j false := by
          intro j
          rw [Array.getD_eq_getD_getElem?, Array.getD_eq_getD_getElem?, Array.getElem?_setIfInBounds]
          by_cases e : i = j
          · subst e; simp [hsz, hil]
          · simp [e]
        have hcnt : ((listed.setIfInBounds i true).toList.filter (!·)).length < (listed.toList.filter (!·)).length := by
          rw [Array.toList_setIfInBounds]
          have hlt : i < listed.toList.length := by simp [hsz]; exact hil
          have hv : listed.toList[i] = false := by
            rw [Array.getD_eq_getD_getElem?, Array.getElem?_eq_getElem (by omega)] at hnl'
            simpa using hnl'
          exact count_set _ i hlt hv
        have hMe : Mf (addE (fun j => listed.getD j false) i) c' = Mf (fun j => (listed.setIfInBounds i true).getD j false) c' := by
          congr 1
          funext j
          rw [hset]
          unfold addE
          rfl
        rw [hMe] at hst
        have hsame : ∀ j, listed.getD j false = true → (es c)[j]? = (es c')[j]? := by
          intro j hlj
          cases hx : ents[j]? with
          | none => show (ents.map (· c))[j]? = (ents.map (· c'))[j]?; rw [List.getElem?_map, List.getElem?_map, hx]; rfl
          | some entj =>
            obtain ⟨oj, hoj, _⟩ := hkd j entj hx
            obtain ⟨entj', hx', _, hd', _⟩ := hes j oj hoj
            rw [hx] at hx'; cases hx'
            rw [hesm c j entj hx, hesm c' j entj hx]
            refine congrArg some (hd' c c' ?_)
            intro m hm
            refine (hcc m ?_).symm
            rintro rfl
            rcases hm with h' | h'
            · rw [h', hlj] at hnl'; cases hnl'
            · have := ancN_closed (ops := l.toArray) (e := fun j => listed.getD j false) (fun j o ho hj ed hed hb => hcl j o (by simpa using ho) hj ed hed hb) _ m j hlj h'
              rw [hnl'] at this; cases this
        have hesE : esOf (es c) listed = esOf (es c') listed := by
          unfold esOf
          rw [hesl, hesl]
          refine fm_congr _ ?_
          intro j hj
          exact hsame j (by simpa using (List.mem_filter.1 hj).2)
        rw [hesE] at hst
        have he' := hesm c' i ent he
        refine ih _ a' w' (by simpa using hsz) ?_ ⟨c', hst.look ?_⟩ ?_ (by omega)
        · intro j o ho hlj e he hb
          rw [hset] at hlj ⊢
          split
          · rfl
          · split at hlj
            · rename_i hij; subst hij; rw [hoi] at ho; cases ho; exact hdeps' e he hb
            · exact hcl j o ho hlj e he hb
        · intro t p hl
          rw [look_append] at hl
          rw [show ent c' = ((ent c').1, (ent c').2) from rfl, look_cons]
          by_cases hdt : (ent c').1 = t
          · subst hdt
            rw [if_pos rfl]
            have h2 : look (esOf (es c') (listed.setIfInBounds i true)) (ent c').1 = some (ent c').2 := look_mem (mem_esOf.2 ⟨i, by rw [hset, if_pos rfl], he'⟩) (hdist c' _)
            rw [h2] at hl
            simpa using hl
          · rw [if_neg hdt, look_append]
            by_cases hk : ∃ e ∈ esOf (es c') listed, e.1 = t
            · obtain ⟨e, hee, rfl⟩ := hk
              obtain ⟨j, hlj, hje⟩ := mem_esOf.1 hee
              have h2 : look (esOf (es c') (listed.setIfInBounds i true)) e.1 = some e.2 := look_mem (mem_esOf.2 ⟨j, by rw [hset, hlj, ite_self], hje⟩) (hdist c' _)
              have h3 : look (esOf (es c') listed) e.1 = some e.2 := look_mem hee (hdist c' _)
              rw [h2] at hl
              rw [h3]
              exact hl
            · have h2 : look (esOf (es c') (listed.setIfInBounds i true)) t = none := look_none (fun e hee h => by
                obtain ⟨j, hlj, hje⟩ := mem_esOf.1 hee
                rw [hset] at hlj
                split at hlj
                · rename_i hij; subst hij; rw [he'] at hje; cases hje; exact hdt h
                · exact hk ⟨e, mem_esOf.2 ⟨j, hlj, hje⟩, h⟩)
              have h3 : look (esOf (es c') listed) t = none := look_none (fun e hee h => hk ⟨e, hee, h⟩)
              rw [h2, Option.none_or] at hl
              rw [h3, Option.none_or]
              exact hl
        · intro hf j hj
          rw [hset]
          split
          · rfl
          · rename_i hij
            subst hf
            cases hlj : listed.getD j false with
            | true => rfl
            | false =>
              exfalso
              have hz : ((listed.setIfInBounds i true).toList.filter (!·)).length = 0 := by omega
              have hz' := List.eq_nil_of_length_eq_zero hz
              have : false ∈ (listed.setIfInBounds i true).toList.filter (!·) := by
                rw [List.mem_filter]
                refine ⟨?_, rfl⟩
                have h5 := hset j
                rw [if_neg hij, hlj, Array.getD_eq_getD_getElem?, Array.getElem?_eq_getElem (by simp; omega)] at h5
                simp only [Option.getD_some] at h5
                rw [← h5]
                exact Array.mem_toList_iff.2 (Array.getElem_mem _)
              rw [hz'] at this
              cases this
      -- the operation itself
      have hst := hob (fun j => listed.getD j false) c ⟨fun j o ho hj ed hed hb => hcl j o (by simpa using ho) hj ed hed hb, hnl', fun o ho ed hed hb => by rw [List.getElem?_toArray, hoi] at ho; cases ho; exact hdeps' ed hed hb⟩ _ a w hsee hs Q
      unfold wpOp
      rw [List.getElem?_toArray, hoi]
      simp only
      split
      · rename_i hw
        rw [if_pos hw] at hst
        exact .inl (Oper.wp_mono hnext hst)
      · rename_i hw
        rw [if_neg hw] at hst
        exact hnext _ _ hst
  refine key _ _ _ _ (by simp) ?_ ?_ ?_ ?_
  · intro i o ho hl
    exfalso
    rw [Array.getD_eq_getD_getElem?] at hl
    rcases Nat.lt_or_ge i l.length with h' | h'
    · simp [h'] at hl
    · simp [h'] at hl
  · refine ⟨c0, ?_⟩
    have : esOf (es c0) (Array.replicate l.toArray.size false) = [] := by
      apply List.eq_nil_iff_forall_not_mem.2
      intro e he
      obtain ⟨i, hi, _⟩ := mem_esOf.1 he
      rw [Array.getD_eq_getD_getElem?] at hi
      rcases Nat.lt_or_ge i l.length with h' | h'
      · simp [h'] at hi
      · simp [h'] at hi
    have hfe : (fun j => (Array.replicate l.toArray.size false).getD j false) = fun _ => false := by
      funext j
      rw [Array.getD_eq_getD_getElem?]
      rcases Nat.lt_or_ge j l.length with h' | h'
      · simp [h']
      · simp [h']
    rw [this, List.nil_append, hfe]
    exact hs.same rfl rfl rfl rfl
  · intro h0 i hi
    simp at h0
    subst h0
    simp at hi
  · simp


/-! ### what such a region's operations are met by -/
section rules
variable {ops : Array Oper} {R : Act → World → Prop} {rest : List Oper} {done : Ks → List En} {ty : TypeId} {pos : String} {aft : Array Edge} {Mf : (Nat → Bool) → Ks → List ME} {i : Nat}

theorem ObM.pure {o : Oper} {d : Tmp} {G : Bool} {av : Ks → AV} (hd : o.dst = some d) (hdn : Nat.blt d x.n = true) (hG : ∀ c, Gd ops (sel (o.looksAt ops) (done c ++ L)) o G)
    (hsv : ∀ e c, OkE ops e i → G = true → Sv x (sel (o.looksAt ops) (done c ++ L)) (Mf e c) o (av c)) (hMf : ∀ e c, Mf (addE e i) c = Mf e c) : ObM x ops L Mf i o done (fun c => (d, G, av c)) := by
  intro e c hk L' a w hsub hs Q
  have hs0 := hs.look hsub
  have hw : Region.wanted o (yielded ops a.tmps) = G := by
    rcases hG c with ⟨h1, h2⟩ | ⟨j, want, t, gb, b, h1, h2, h3, h4⟩
    · rw [Region.wanted, h1, h2]
    · obtain ⟨dst, op, ty', pos', aft', gu⟩ := o
      simp only at h1
      subst h1
      rw [guard_of (want := want) h2 h3 hs0, h4]
  rw [hw]
  cases hG' : G with
  | true =>
    rw [if_pos rfl]
    refine hsv e c hk hG' a w hs0 _ _ ?_
    intro v w' hK hmm hf hr
    rw [hd]
    refine ⟨c, fun _ _ => rfl, ?_⟩
    rw [hMf]
    exact (hs.world hK hmm hf).put hdn true (av c) v (fun _ => hr) (by simp)
  | false =>
    rw [if_neg (by simp), hd]
    refine ⟨c, fun _ _ => rfl, ?_⟩
    rw [hMf]
    exact hs.put hdn false (av c) undef (by simp) (fun _ => rfl)

theorem DM.nil (h : ∀ c e, (∀ j, j < i → e j = true) → W x (done c ++ L) (Mf e c) R) : DM x ops L Mf R i [] done := h
theorem DM.pure {o : Oper} {d : Tmp} {G : Bool} {av : Ks → AV} (hd : o.dst = some d) (hdn : Nat.blt d x.n = true) (hG : ∀ c, Gd ops (sel (o.looksAt ops) (done c ++ L)) o G)
    (hsv : ∀ e c, OkE ops e i → G = true → Sv x (sel (o.looksAt ops) (done c ++ L)) (Mf e c) o (av c)) (hMf : ∀ e c, Mf (addE e i) c = Mf e c) (hi : ∀ c c' : Ks, (∀ k, (k = i ∨ anc ops k i = true) → c k = c' k) → av c = av c')
    (next : DM x ops L Mf R (i + 1) rest (fun c => (d, G, av c) :: done c)) : DM x ops L Mf R i (o :: rest) done := by
  refine ⟨fun c => (d, G, av c), ?_, fun c c' h => congrArg (fun a => (d, G, a)) (hi c c' h), ObM.pure hd hdn hG hsv hMf, next⟩
  intro c
  rw [hd]
  exact ⟨rfl, hdn⟩
theorem DM.q {d : Tmp} {op : Op} {av : Ks → AV} (he : ∀ e c, OkE ops e i → Ev x true (sel (Oper.looksAt ops ⟨some d, op, ty, pos, aft, none⟩) (done c ++ L)) (Mf e c) op ty (av c)) (hdn : Nat.blt d x.n = true)
    (hMf : ∀ e c, Mf (addE e i) c = Mf e c) (hi : ∀ c c' : Ks, (∀ k, (k = i ∨ anc ops k i = true) → c k = c' k) → av c = av c') (next : DM x ops L Mf R (i + 1) rest (fun c => (d, true, av c) :: done c)) :
    DM x ops L Mf R i (⟨some d, op, ty, pos, aft, none⟩ :: rest) done := DM.pure rfl hdn (fun _ => .inl ⟨rfl, rfl⟩) (fun e c hk _ => Sv.ev (he e c hk)) hMf hi next
theorem DM.qg {d : Tmp} {op : Op} {av : Ks → AV} {j : Nat} {t : Tmp} {gb b want : Bool} (hj : (ops[j]?).bind (·.dst) = some t) (hl : ∀ c, Vl.look (sel (Oper.looksAt ops ⟨some d, op, ty, pos, aft, some (j, want)⟩) (done c ++ L)) t = some (gb, .lit (.bool b)))
    (he : ∀ e c, OkE ops e i → Ev x (gb && (b == want)) (sel (Oper.looksAt ops ⟨some d, op, ty, pos, aft, some (j, want)⟩) (done c ++ L)) (Mf e c) op ty (av c)) (hdn : Nat.blt d x.n = true)
    (hMf : ∀ e c, Mf (addE e i) c = Mf e c) (hi : ∀ c c' : Ks, (∀ k, (k = i ∨ anc ops k i = true) → c k = c' k) → av c = av c') (next : DM x ops L Mf R (i + 1) rest (fun c => (d, gb && (b == want), av c) :: done c)) :
    DM x ops L Mf R i (⟨some d, op, ty, pos, aft, some (j, want)⟩ :: rest) done := DM.pure rfl hdn (fun c => .inr ⟨j, want, t, gb, b, rfl, hj, hl c, rfl⟩) (fun e c hk hb => Sv.ev ((he e c hk).strip hb)) hMf hi next
theorem DM.callp {f : FuncId} {d : Tmp} {os : List Operand} {ats : Array TypeId} {avs : Ks → List AV} {r : Ks → AV} (hc : ∀ c, FnP x.P f (avs c) (r c)) (ha : ∀ c, ArgsOv (sel (Oper.looksAt ops ⟨some d, .call ⟨.value (.func f), os.toArray, ats⟩, ty, pos, aft, none⟩) (done c ++ L)) os (avs c)) (hdn : Nat.blt d x.n = true)
    (hMf : ∀ e c, Mf (addE e i) c = Mf e c) (hi : ∀ c c' : Ks, (∀ k, (k = i ∨ anc ops k i = true) → c k = c' k) → r c = r c') (next : DM x ops L Mf R (i + 1) rest (fun c => (d, true, r c) :: done c)) :
    DM x ops L Mf R i (⟨some d, .call ⟨.value (.func f), os.toArray, ats⟩, ty, pos, aft, none⟩ :: rest) done := DM.pure rfl hdn (fun _ => .inl ⟨rfl, rfl⟩) (fun e c _ _ => Sv.callp (hc c) (ha c)) hMf hi next
theorem DM.callg {f : FuncId} {d : Tmp} {os : List Operand} {ats : Array TypeId} {avs : Ks → List AV} {r : Ks → AV} {j : Nat} {t : Tmp} {gb b want : Bool} (hj : (ops[j]?).bind (·.dst) = some t)
    (hl : ∀ c, Vl.look (sel (Oper.looksAt ops ⟨some d, .call ⟨.value (.func f), os.toArray, ats⟩, ty, pos, aft, some (j, want)⟩) (done c ++ L)) t = some (gb, .lit (.bool b)))
    (hc : ∀ c, (gb && (b == want)) = true → FnP x.P f (avs c) (r c)) (ha : ∀ c, (gb && (b == want)) = true → ArgsOv (sel (Oper.looksAt ops ⟨some d, .call ⟨.value (.func f), os.toArray, ats⟩, ty, pos, aft, some (j, want)⟩) (done c ++ L)) os (avs c)) (hdn : Nat.blt d x.n = true)
    (hMf : ∀ e c, Mf (addE e i) c = Mf e c) (hi : ∀ c c' : Ks, (∀ k, (k = i ∨ anc ops k i = true) → c k = c' k) → r c = r c') (next : DM x ops L Mf R (i + 1) rest (fun c => (d, gb && (b == want), r c) :: done c)) :
    DM x ops L Mf R i (⟨some d, .call ⟨.value (.func f), os.toArray, ats⟩, ty, pos, aft, some (j, want)⟩ :: rest) done :=
  DM.pure rfl hdn (fun c => .inr ⟨j, want, t, gb, b, rfl, hj, hl c, rfl⟩) (fun e c _ hb => Sv.callp (hc c hb) (ha c hb)) hMf hi next
theorem DM.bs {d : Tmp} {T E k bytes n : Nat} {z : Value} {ps : List (Nat × Operand)} {es : Ks → List AV} (hT : x.P.underlying T = some (.slice E)) (hE : Ty x.P E k bytes z)
    (hp : ∀ c, PartsOv (sel (Oper.looksAt ops ⟨some d, .buildSlice T n ps.toArray, ty, pos, aft, none⟩) (done c ++ L)) k 0 ps (es c)) (hn : ∀ c, n = (es c).length) (hb : n * k ≤ 16777216) (hk1 : Nat.ble 1 k = true) (hdn : Nat.blt d x.n = true)
    (hMf : ∀ e c, Mf (addE e i) c = Mf e c) (hi : ∀ c c' : Ks, (∀ k, (k = i ∨ anc ops k i = true) → c k = c' k) → es c = es c') (next : DM x ops L Mf R (i + 1) rest (fun c => (d, true, .sl k (es c)) :: done c)) : DM x ops L Mf R i (⟨some d, .buildSlice T n ps.toArray, ty, pos, aft, none⟩ :: rest) done :=
  DM.pure rfl hdn (fun _ => .inl ⟨rfl, rfl⟩) (fun e c _ _ => Sv.bs hT hE (hp c) (hn c) hb hk1) hMf (fun c c' h => by rw [hi c c' h]) next
theorem DM.bsg {d : Tmp} {T E k bytes n : Nat} {z : Value} {ps : List (Nat × Operand)} {es : Ks → List AV} {j : Nat} {t : Tmp} {gb b want : Bool} (hj : (ops[j]?).bind (·.dst) = some t)
    (hl : ∀ c, Vl.look (sel (Oper.looksAt ops ⟨some d, .buildSlice T n ps.toArray, ty, pos, aft, some (j, want)⟩) (done c ++ L)) t = some (gb, .lit (.bool b))) (hT : x.P.underlying T = some (.slice E)) (hE : Ty x.P E k bytes z)
    (hp : ∀ c, (gb && (b == want)) = true → PartsOv (sel (Oper.looksAt ops ⟨some d, .buildSlice T n ps.toArray, ty, pos, aft, some (j, want)⟩) (done c ++ L)) k 0 ps (es c)) (hn : ∀ c, n = (es c).length) (hb : n * k ≤ 16777216) (hk1 : Nat.ble 1 k = true) (hdn : Nat.blt d x.n = true)
    (hMf : ∀ e c, Mf (addE e i) c = Mf e c) (hi : ∀ c c' : Ks, (∀ k, (k = i ∨ anc ops k i = true) → c k = c' k) → es c = es c') (next : DM x ops L Mf R (i + 1) rest (fun c => (d, gb && (b == want), .sl k (es c)) :: done c)) : DM x ops L Mf R i (⟨some d, .buildSlice T n ps.toArray, ty, pos, aft, some (j, want)⟩ :: rest) done :=
  DM.pure rfl hdn (fun c => .inr ⟨j, want, t, gb, b, rfl, hj, hl c, rfl⟩) (fun e c _ hb' => Sv.bs hT hE (hp c hb') (hn c) hb hk1) hMf (fun c c' h => by rw [hi c c' h]) next

theorem DM.eff0 {op : Op} (hW : ∀ e c, OkE ops e i → ∀ L', (∀ t p, Vl.look (sel (Oper.looksAt ops ⟨none, op, ty, pos, aft, none⟩) (done c ++ L)) t = some p → Vl.look L' t = some p) → ∀ Q : Exit → Act → World → Prop,
      W x L' (Mf (addE e i) c) (wpList x.P ops Q []) → W x L' (Mf e c) (wpList x.P ops Q [⟨none, op, ty, pos, aft, none⟩]))
    (next : DM x ops L Mf R (i + 1) rest (fun c => (x.n, false, .lit undef) :: done c)) : DM x ops L Mf R i (⟨none, op, ty, pos, aft, none⟩ :: rest) done := by
  refine ⟨fun c => (x.n, false, .lit undef), fun c => rfl, fun _ _ _ => rfl, ?_, next⟩
  intro e c hk L' a w hsub hs
  refine stepE_of rfl ?_
  refine hW e c hk L' hsub _ ?_ a w hs
  exact fun a' w' hs' => ⟨rfl, c, fun _ _ => rfl, hs'.ghost⟩
theorem DM.eff1 {op : Op} {d : Tmp} {av : Ks → AV} (hdn : Nat.blt d x.n = true) (hi : ∀ c c' : Ks, (∀ k, (k = i ∨ anc ops k i = true) → c k = c' k) → av c = av c')
    (hW : ∀ e c, OkE ops e i → ∀ L', (∀ t p, Vl.look (sel (Oper.looksAt ops ⟨some d, op, ty, pos, aft, none⟩) (done c ++ L)) t = some p → Vl.look L' t = some p) → ∀ Q : Exit → Act → World → Prop,
      (∀ z M', List.Perm M' (Mf (addE e i) (upd c i z)) → W x ((d, true, av (upd c i z)) :: L') M' (wpList x.P ops Q [])) → W x L' (Mf e c) (wpList x.P ops Q [⟨some d, op, ty, pos, aft, none⟩]))
    (next : DM x ops L Mf R (i + 1) rest (fun c => (d, true, av c) :: done c)) : DM x ops L Mf R i (⟨some d, op, ty, pos, aft, none⟩ :: rest) done := by
  refine ⟨fun c => (d, true, av c), fun c => ⟨rfl, hdn⟩, fun c c' h => congrArg (fun a => (d, true, a)) (hi c c' h), ?_, next⟩
  intro e c hk L' a w hsub hs
  refine stepE_of rfl ?_
  refine hW e c hk L' hsub _ ?_ a w hs
  intro z M' hp a' w' hs'
  exact ⟨rfl, upd c i z, fun k hk => if_neg hk, (hs'.perm hp)⟩
end rules
end draw
end Go.Vl
end

section
set_option linter.unusedVariables false
set_option linter.unusedSimpArgs false
set_option linter.unusedSectionVars false
namespace Go.Vl

/-- the first letter of a text, and its width -/
def dec (l : List UInt8) : Nat × Nat := Utf8.decode ⟨l.toArray⟩ 0

theorem get!_mk (l : List UInt8) (i : Nat) : (ByteArray.mk l.toArray).get! i = l.getD i 0 := by
  simp [ByteArray.get!]
  rcases Nat.lt_or_ge i l.length with h | h
  · simp [h]
  · rw [List.getElem?_eq_none h, Option.getD_none]
    simp [getElem!_def, h]
    rfl
theorem decode_drop (l : List UInt8) (p : Nat) : Utf8.decode ⟨l.toArray⟩ p = dec (l.drop p) := by
  unfold dec Utf8.decode
  have e1 : ∀ k, (ByteArray.mk (l.drop p).toArray).get! (0 + k) = (ByteArray.mk l.toArray).get! (p + k) := fun k => by
    rw [get!_mk, get!_mk, List.getD_eq_getElem?_getD, List.getD_eq_getElem?_getD, List.getElem?_drop, Nat.zero_add]
  have e2 : ∀ k, decide (0 + k < (ByteArray.mk (l.drop p).toArray).size) = decide (p + k < (ByteArray.mk l.toArray).size) := fun k => by
    rw [size_mk, size_mk, List.length_drop]
    congr 1
    rw [eq_iff_iff]
    omega
  simp only [e1, e2]

section iter
variable {x : Cx} {L : List (Tmp × Bool × AV)} {M : List ME} {ops : Array Oper} {Q : Exit → Act → World → Prop} {rest : List Oper} {ty : TypeId} {pos : String} {aft : Array Edge}

theorem W.rng {d : Tmp} {T : TypeId} {o : Operand} {l : List UInt8} (h1 : Ov true L o (.lit (.string ⟨l.toArray⟩))) (hT : x.P.underlying T = some .string) (hd : Nat.blt d x.n = true)
    (next : ∀ b, W x ((d, true, .lit (.pointer (some ⟨b, 0, none⟩))) :: L) (ME.obj b (.stringIter ⟨l.toArray⟩ 0) :: M) (wpList x.P ops Q rest)) :
    W x L M (wpList x.P ops Q (⟨some d, .range T o, ty, pos, aft, none⟩ :: rest)) := by
  refine W.opv (ι := Nat) (fun b => ME.obj b (.stringIter ⟨l.toArray⟩ 0) :: M) (fun b => .lit (.pointer (some ⟨b, 0, none⟩))) hd ?_ next
  intro a w hs
  refine ⟨.pointer (some ⟨w.heap.size, 0, none⟩), w.alloc (.stringIter ⟨l.toArray⟩ 0), w.heap.size, ?_, ?_, Rep.lit _⟩
  · simp [execOp, h1.lit rfl hs, Instr.range, run_underlying hT]
  · refine hs.alloc _ _ rfl ?_
    intro N hN
    exact ⟨alloc_new _ _, by intro c T fr h; cases h⟩

theorem W.nxtT (i : Nat) {d : Tmp} {o : Operand} {l : List UInt8} {b p : Nat} (h1 : Ov true L o (.lit (.pointer (some ⟨b, 0, none⟩)))) (hM : M[i]? = some (ME.obj b (.stringIter ⟨l.toArray⟩ p))) (hp : p < l.length) (hd : Nat.blt d x.n = true)
    (next : W x ((d, true, .tup [.lit (.bool true), .lit (.int .i64 (p : Int)), .lit (.int .i32 ((dec (l.drop p)).1 : Int))]) :: L) (M.set i (ME.obj b (.stringIter ⟨l.toArray⟩ (p + (dec (l.drop p)).2)))) (wpList x.P ops Q rest)) :
    W x L M (wpList x.P ops Q (⟨some d, .next o true, ty, pos, aft, none⟩ :: rest)) := by
  refine W.opv (ι := Unit) (fun _ => M.set i (ME.obj b (.stringIter ⟨l.toArray⟩ (p + (dec (l.drop p)).2)))) (fun _ => .tup [.lit (.bool true), .lit (.int .i64 (p : Int)), .lit (.int .i32 ((dec (l.drop p)).1 : Int))]) hd ?_ (fun _ => next)
  intro a w hs
  obtain ⟨hh, _⟩ := hs.mem.holds _ (List.mem_of_getElem? hM)
  refine ⟨.tuple #[.bool true, .int .i64 p, .int .i32 (dec (l.drop p)).1], { w with heap := w.heap.setIfInBounds b (.stringIter ⟨l.toArray⟩ (p + (dec (l.drop p)).2)) }, (), ?_, ?_, ?_⟩
  · have hsz : p < (ByteArray.mk l.toArray).size := by rw [size_mk]; exact hp
    simp only [execOp, h1.lit rfl hs, Instr.next, getObj, setObj, Sem.run_bind, Sem.run, hh, Result.andThen_ok, if_pos hsz, decode_drop]
    simp [goInt, hh, Sem.run]
  · refine hs.write hM rfl rfl ?_
    intro w' _ hnew _
    exact ⟨hnew, by intro c T fr h; cases h⟩
  · refine ⟨rfl, ?_⟩
    simp only [RepC]
    exact ⟨_, rfl, by simp only [RepT]; exact ⟨_, _, rfl, Rep.lit _, _, _, rfl, Rep.lit _, _, _, rfl, Rep.lit _, rfl⟩⟩

theorem W.nxtF (i : Nat) {d : Tmp} {o : Operand} {l : List UInt8} {b p : Nat} (h1 : Ov true L o (.lit (.pointer (some ⟨b, 0, none⟩)))) (hM : M[i]? = some (ME.obj b (.stringIter ⟨l.toArray⟩ p))) (hp : ¬ p < l.length) (hd : Nat.blt d x.n = true)
    (next : W x ((d, true, .tup [.lit (.bool false)]) :: L) M (wpList x.P ops Q rest)) :
    W x L M (wpList x.P ops Q (⟨some d, .next o true, ty, pos, aft, none⟩ :: rest)) := by
  refine W.q (fun a w hs hg => ?_) hd next
  obtain ⟨hh, _⟩ := hs.mem.holds _ (List.mem_of_getElem? hM)
  have hsz : ¬ p < (ByteArray.mk l.toArray).size := by rw [size_mk]; exact hp
  refine ⟨.tuple #[.bool false], ?_, rfl, ?_⟩
  · simp only [execOp, h1.lit rfl hs, Instr.next, getObj, Sem.run_bind, Sem.run, hh, Result.andThen_ok, if_neg hsz]
    rfl
  · simp only [RepC]
    exact ⟨_, rfl, by simp only [RepT]; exact ⟨_, _, rfl, Rep.lit _, rfl⟩⟩

/-! ### bytes as_ a string -/
theorem RepE.bytes {w : World} {N : List Nat} : ∀ {l : List UInt8} {row : List Value}, RepE w N 1 (l.map AV.u8) row → row.take l.length = l.map fun b => Value.int .u8 (b.toNat : Int)
  | [], row, _ => by simp
  | b :: l, row, h => by
    simp only [List.map_cons, RepE, RepC] at h
    obtain ⟨h1, h2, h3⟩ := h
    have ih := RepE.bytes h3
    match row, h1 with
    | v :: row, _ =>
      simp [Value.cells] at h2
      subst h2
      simp only [List.drop_succ_cons, List.drop_zero] at ih
      simp [ih]

theorem bytes_loop (P : Program) (w : World) (f : Value → ByteArray → Sem (ForInStep ByteArray)) (hf : ∀ (b : UInt8) (r : ByteArray), (f (.int .u8 (b.toNat : Int)) r).run P w = .ok (.yield (r.push b)) w) :
    ∀ (l : List UInt8) (acc : ByteArray), (forIn (m := Sem) (l.map fun b => Value.int .u8 (b.toNat : Int)) acc f).run P w = .ok ⟨(acc.data.toList ++ l).toArray⟩ w
  | [], acc => by simp
  | b :: l, acc => by
    simp only [List.map_cons, List.forIn_cons, Sem.run_bind, hf, Result.andThen_ok]
    rw [bytes_loop P w f hf l]
    simp [ByteArray.push]

theorem run_b2s {P : Program} {w : World} {N : List Nat} {ad : Option Addr} {cap : Nat} {l : List UInt8} (h : Src0 P w N 1 (.slice ad l.length cap) (l.map AV.u8)) (hnil : ad = none → l = []) : (Conv.bytesToString (.slice ad l.length cap)).run P w = .ok (.string ⟨l.toArray⟩) w := by
  obtain ⟨_, news, h1, h2, h3⟩ := h
  cases ad with
  | none => have := hnil rfl; subst this; rfl
  | some a =>
    have hf := h3 w rfl
    simp only [List.length_map, Nat.mul_one] at h1 hf
    have hl : (loadCells a l.length).run P w = .ok news w := by simpa [Builtin.firstCells] using hf
    have hn : news = (l.map fun b => Value.int .u8 (b.toNat : Int)).toArray := by
      have := RepE.bytes h2
      rw [List.take_of_length_le (by simp [h1])] at this
      rw [← this]
    simp only [Conv.bytesToString, Sem.run_bind, hl, Result.andThen_ok]
    rw [hn]
    simp only [List.forIn_toArray]
    have hpush : ∀ (b : UInt8), UInt8.ofNat ((b.toNat : Int)).toNat = b := fun b => by simp
    rw [bytes_loop P w _ (fun b r => by simp [hpush])]
    simp

theorem Ev.b2s (i : Nat) {T T' E : TypeId} {o1 : Operand} {v : Value} {U : TypeId} {l : List UInt8} (h1 : Ov true L o1 (.lit v)) (hM : M[i]? = some (ME.arr v U 1 (l.map AV.u8))) (hT : x.P.underlying T = some (.slice E)) (hE : x.P.underlying E = some (.int .u8)) (hT' : x.P.underlying T' = some .string) :
    Ev x true L M (.convert T T' o1) ty (.lit (.string ⟨l.toArray⟩)) := Ev.pure fun a w hs hg => by
  obtain ⟨ad, cap, e, hlc, hcm, hcase⟩ := hs.mem.holds _ (List.mem_of_getElem? hM)
  rw [List.length_map] at e hlc
  have e1 := h1.lit rfl hs
  have hsrc : Src0 x.P w (bl M ++ x.F) 1 (.slice ad l.length cap) (l.map AV.u8) := by
    refine src0_cells (by simp) ?_
    rcases hcase with ⟨_, hc⟩ | ⟨g, off, cur, lo, hi, rfl, hc, _, _, hE⟩
    · left; have : l.length = 0 := by omega
      rw [List.eq_nil_of_length_eq_zero this]; rfl
    · exact .inr ⟨g, off, cur, U, (lo, hi), rfl, hc, hE⟩
  have hnil : ad = none → l = [] := by
    rintro rfl
    rcases hcase with ⟨_, hc⟩ | ⟨g, off, cur, lo, hi, h, _⟩
    · exact List.eq_nil_of_length_eq_zero (by omega)
    · cases h
  have hr := run_b2s hsrc hnil
  rw [e] at e1
  simp only [execOp, e1, convert, Sem.run_bind, run_underlying hT, run_underlying hT', Result.andThen_ok, run_underlying hE, hr, Sem.run_pure]
end iter
end Go.Vl
end

section
set_option linter.unusedVariables false
set_option linter.unusedSimpArgs false
namespace Go.Vl

theorem dec_eq (l : List UInt8) : dec l =
    (if (l.getD 0 0).toNat < 128 then ((l.getD 0 0).toNat, 1)
    else if (l.getD 0 0).toNat / 32 == 6 && (decide (1 < l.length) && (l.getD 1 0).toNat / 64 == 2) then
      if ((l.getD 0 0).toNat % 32) * 64 + (l.getD 1 0).toNat % 64 ≥ 128 then (((l.getD 0 0).toNat % 32) * 64 + (l.getD 1 0).toNat % 64, 2) else (Utf8.runeError, 1)
    else if (l.getD 0 0).toNat / 16 == 14 && (decide (1 < l.length) && (l.getD 1 0).toNat / 64 == 2) && (decide (2 < l.length) && (l.getD 2 0).toNat / 64 == 2) then
      if ((l.getD 0 0).toNat % 16) * 4096 + ((l.getD 1 0).toNat % 64) * 64 + (l.getD 2 0).toNat % 64 ≥ 2048 && Utf8.valid ((((l.getD 0 0).toNat % 16) * 4096 + ((l.getD 1 0).toNat % 64) * 64 + (l.getD 2 0).toNat % 64 : Nat) : Int) then (((l.getD 0 0).toNat % 16) * 4096 + ((l.getD 1 0).toNat % 64) * 64 + (l.getD 2 0).toNat % 64, 3) else (Utf8.runeError, 1)
    else if (l.getD 0 0).toNat / 8 == 30 && (decide (1 < l.length) && (l.getD 1 0).toNat / 64 == 2) && (decide (2 < l.length) && (l.getD 2 0).toNat / 64 == 2) && (decide (3 < l.length) && (l.getD 3 0).toNat / 64 == 2) then
      if ((l.getD 0 0).toNat % 8) * 262144 + ((l.getD 1 0).toNat % 64) * 4096 + ((l.getD 2 0).toNat % 64) * 64 + (l.getD 3 0).toNat % 64 ≥ 65536 && Utf8.valid ((((l.getD 0 0).toNat % 8) * 262144 + ((l.getD 1 0).toNat % 64) * 4096 + ((l.getD 2 0).toNat % 64) * 64 + (l.getD 3 0).toNat % 64 : Nat) : Int) then (((l.getD 0 0).toNat % 8) * 262144 + ((l.getD 1 0).toNat % 64) * 4096 + ((l.getD 2 0).toNat % 64) * 64 + (l.getD 3 0).toNat % 64, 4) else (Utf8.runeError, 1)
    else (Utf8.runeError, 1)) := by
  unfold dec Utf8.decode
  simp only [get!_mk, size_mk, Nat.zero_add]

/-- a letter's width, and that it is one -/
theorem dec_width (l : List UInt8) (h : l ≠ []) : 1 ≤ (dec l).2 ∧ (dec l).2 ≤ l.length ∧ (dec l).2 ≤ 4 := by
  have hl : 0 < l.length := List.length_pos_iff.2 h
  rw [dec_eq]
  generalize (l.getD 0 0).toNat = b0
  generalize (l.getD 1 0).toNat = b1
  generalize (l.getD 2 0).toNat = b2
  generalize (l.getD 3 0).toNat = b3
  repeat' split
  all_goals simp_all
  all_goals omega

theorem dec_le (l : List UInt8) : (dec l).1 ≤ 1114111 := by
  rw [dec_eq]
  generalize (l.getD 0 0).toNat = b0
  generalize (l.getD 1 0).toNat = b1
  generalize (l.getD 2 0).toNat = b2
  generalize (l.getD 3 0).toNat = b3
  repeat' split
  all_goals simp_all [Utf8.runeError, Utf8.valid]
  all_goals omega

def runesN : Nat → List UInt8 → List Nat
  | 0, _ => []
  | _ + 1, [] => []
  | n + 1, b :: l => (dec (b :: l)).1 :: runesN n ((b :: l).drop (dec (b :: l)).2)
/-- the letters of a text -/
def runes (l : List UInt8) : List Nat := runesN l.length l

theorem runesN_eq : ∀ (n m : Nat) (l : List UInt8), l.length ≤ n → l.length ≤ m → runesN n l = runesN m l
  | 0, m, l, h, _ => by
    have : l = [] := List.eq_nil_of_length_eq_zero (by omega)
    subst this
    cases m <;> rfl
  | n + 1, 0, l, _, h => by
    have : l = [] := List.eq_nil_of_length_eq_zero (by omega)
    subst this
    rfl
  | n + 1, m + 1, [], _, _ => rfl
  | n + 1, m + 1, b :: l, h1, h2 => by
    have hw := dec_width (b :: l) (by simp)
    simp only [runesN]
    rw [runesN_eq n m _ (by rw [List.length_drop]; omega) (by rw [List.length_drop]; omega)]
theorem runes_nil : runes [] = [] := rfl
theorem runes_cons (l : List UInt8) (h : l ≠ []) : runes l = (dec l).1 :: runes (l.drop (dec l).2) := by
  cases l with
  | nil => exact absurd rfl h
  | cons b l =>
    have hw := dec_width (b :: l) h
    simp only [runes, List.length_cons, runesN]
    rw [runesN_eq l.length _ _ (by rw [List.length_drop, List.length_cons]; omega) (Nat.le_refl _)]
theorem runes_drop (l : List UInt8) (p : Nat) (h : p < l.length) : runes (l.drop p) = (dec (l.drop p)).1 :: runes (l.drop (p + (dec (l.drop p)).2)) := by
  rw [runes_cons (l.drop p) (by intro e; have := congrArg List.length e; simp at this; omega), List.drop_drop]

def rvs (l : List UInt8) : List AV := (runes l).map fun (n : Nat) => AV.int (n : Int)
/-! ### how many letters -/
def rc (l : List UInt8) : Nat := (runes l).length
/-- the letter's value, and whether bytes are such a letter -/
def v2 (a b : UInt8) : Nat := (a.toNat % 32) * 64 + b.toNat % 64
def v3 (a b c : UInt8) : Nat := (a.toNat % 16) * 4096 + (b.toNat % 64) * 64 + c.toNat % 64
def v4 (a b c d : UInt8) : Nat := (a.toNat % 8) * 262144 + (b.toNat % 64) * 4096 + (c.toNat % 64) * 64 + d.toNat % 64
def ct (b : UInt8) : Bool := b.toNat / 64 == 2
def k2 (a b : UInt8) : Bool := a.toNat / 32 == 6 && ct b && decide (v2 a b ≥ 128)
def k3 (a b c : UInt8) : Bool := a.toNat / 16 == 14 && ct b && ct c && (decide (v3 a b c ≥ 2048) && Utf8.valid (v3 a b c : Int))
def k4 (a b c d : UInt8) : Bool := a.toNat / 8 == 30 && ct b && ct c && ct d && (decide (v4 a b c d ≥ 65536) && Utf8.valid (v4 a b c d : Int))
abbrev er : Nat × Nat := (Utf8.runeError, 1)

theorem dec1 (a : UInt8) : dec [a] = if a.toNat < 128 then (a.toNat, 1) else er := by
  rw [dec_eq]; simp
end Go.Vl
end

section
set_option linter.unusedVariables false
set_option linter.unusedSimpArgs false
namespace Go.Vl

def o8 (n : Nat) : UInt8 := UInt8.ofNat n
/-- the bytes of a letter that is one -/
def encN (c : Nat) : List UInt8 :=
  if c < 128 then [o8 c]
  else if c < 2048 then [o8 (192 + c / 64), o8 (128 + c % 64)]
  else if c < 65536 then [o8 (224 + c / 4096), o8 (128 + c / 64 % 64), o8 (128 + c % 64)]
  else [o8 (240 + c / 262144), o8 (128 + c / 4096 % 64), o8 (128 + c / 64 % 64), o8 (128 + c % 64)]
/-- the bytes of whatever number -/
def enc (r : Int) : List UInt8 := encN (if Utf8.valid r then r.toNat else 65533)

/-! ### the bytes as_ the program reckons them -/
theorem wrap8 (z : Int) : IntKind.u8.wrap z = z % 256 := by rw [IntKind.wrap_u8]
/-! ### Clean -/
/-- what a letter becomes, ahead of a rest -/
def cpiece (r : Nat) (rest : List UInt8) : List UInt8 :=
  if r = 0 then enc 65533 else if r = 13 then (if rest.head? = some 10 then [] else [10]) else enc (r : Int)
def cleanN : Nat → List UInt8 → List UInt8
  | 0, _ => []
  | _ + 1, [] => []
  | n + 1, b :: l => cpiece (dec (b :: l)).1 ((b :: l).drop (dec (b :: l)).2) ++ cleanN n ((b :: l).drop (dec (b :: l)).2)
def clean (l : List UInt8) : List UInt8 := cleanN l.length l

end Go.Vl
end

section
set_option linter.unusedVariables false
set_option linter.unusedSimpArgs false
namespace Go.Vl

/-! ### what is encoded is decoded -/
/-- the bytes of letters -/
def flat (cs : List Nat) : List UInt8 := cs.flatMap encN
theorem flat_append (as_ bs : List Nat) : flat (as_ ++ bs) = flat as_ ++ flat bs := by simp [flat]
/-- letters that Clean leaves -/
def Good (c : Nat) : Prop := Utf8.valid (c : Int) = true ∧ c ≠ 0 ∧ c ≠ 13
/-! ### Text -/
/-- the first letter of a list that is none -/
def allOk (l : List Int) : Bool := l.all fun n => Utf8.valid n
def textE (l : List Int) : Int := if allOk l then (if (l.flatMap enc).length ≤ 600 then 0 else 1) else 2
def textS (l : List Int) : List UInt8 := if allOk l ∧ (l.flatMap enc).length ≤ 600 then l.flatMap enc else []
/-! ### the letters that the laws draw -/
def pick5 (k : Int) : Int := if k = 0 then 128 else if k = 1 then 300 else if k = 2 then 3000 else if k = 3 then 70000 else 1114112
def letter0 (z : Int) : Int := z % pick5 (IntKind.i64.wrap (z.tdiv 7) % 5)
def letterOf (z : Int) : Int := if 55296 ≤ letter0 z ∧ letter0 z ≤ 57343 then 65 else letter0 z
end Go.Vl
end

section
set_option linter.unusedVariables false
set_option linter.unusedSimpArgs false
namespace Go.Vl
open Go Go.Sem
variable {x : Cx} {L : List (Tmp × Bool × AV)} {M : List ME} {ops : Array Oper} {Q : Exit → Act → World → Prop} {rest : List Oper}
theorem getD_map (l : List Int) (i : Nat) (h : i < l.length) : (l.map AV.int)[i]? = some (AV.int (l.getD i 0)) := by
  rw [List.getD_eq_getElem?_getD, List.getElem?_map, List.getElem?_eq_getElem h]; rfl
end Go.Vl
end

section
set_option linter.unusedVariables false
set_option linter.unusedSimpArgs false
set_option linter.unusedSectionVars false
namespace Go.Vl
open Go Go.Sem
variable {x : Cx} {g : Bool} {L : List (Tmp × Bool × AV)} {M : List ME} {ty : TypeId}

def PlacesAt (P : Program) : List Field → List (Nat × Nat) → Prop
  | [], [] => True
  | f :: fs, (o, k) :: ps => f.offset = o ∧ (∀ w, (sizeOf f.type).run P w = .ok k w) ∧ PlacesAt P fs ps
  | _, _ => False
def StructAt (P : Program) (T : TypeId) (pl : List (Nat × Nat)) : Prop := ∃ fields : List Field, P.underlying T = some (.struct fields.toArray) ∧ PlacesAt P fields pl
theorem PlacesAt.run {P : Program} : ∀ {fs : List Field} {ps : List (Nat × Nat)}, PlacesAt P fs ps → ∀ w, (fs.mapM (fun (f : Field) => (do Pure.pure (f.offset, ← sizeOf f.type) : Sem (Nat × Nat)))).run P w = .ok ps w
  | [], [], _, w => by simp
  | f :: fs, (o, k) :: ps, h, w => by
    obtain ⟨rfl, h1, h2⟩ := h
    rw [List.mapM_cons]
    simp only [Sem.run_bind, h1, Result.andThen_ok, Sem.run_pure, h2.run w]
  | [], _ :: _, h, _ => h.elim
  | _ :: _, [], h, _ => h.elim

def BuildOv (g : Bool) (L : List (Tmp × Bool × AV)) (pl : List (Nat × Nat)) : List (Nat × Operand) → List AV → List AV → Prop
  | [], cs, res => cs = res
  | (f, o) :: ps, cs, res => ∃ off k av, pl[f]? = some (off, k) ∧ Ov g L o av ∧ av.okc = true ∧ av.cells.length = k ∧ Nat.ble (off + k) cs.length = true ∧ BuildOv g L pl ps (Vl.splice cs off av.cells) res

theorem BuildOv.run {a : Act} {w : World} (hs : St x L M a w) {pl : List (Nat × Nat)} : ∀ {ps : List (Nat × Operand)} {cs res : List AV} {cells : Array Value}, BuildOv true L pl ps cs res → RepL w (bl M ++ x.F) cs cells.toList →
    ∃ cells', Instr.fill (pl.toArray[·]?) cells (ps.map fun (i, o) => (i, a.eval o)) = some cells' ∧ RepL w (bl M ++ x.F) res cells'.toList
  | [], cs, res, cells, h, hr => by
    have h' : cs = res := h
    subst h'
    exact ⟨cells, rfl, hr⟩
  | (f, o) :: ps, cs, res, cells, h, hr => by
    obtain ⟨off, k, av, h1, h2, ho, hk, hl, h3⟩ := h
    have hv := h2.rep rfl hs
    have hvl := hv.toL ho
    have hlen : (a.eval o).cells.size = k := by have := hvl.length; simp at this; omega
    have hcl := hr.length
    have hl' := Nat.le_of_ble_eq_true hl
    simp at hcl
    have hfold := foldl_set (a.eval o).cells.toList off 0 cells (by simp [hlen]; omega)
    rw [Nat.add_zero] at hfold
    obtain ⟨cells', hf, hres⟩ := BuildOv.run hs (cells := wr cells off (a.eval o).cells.toList) h3 (hr.splice hvl)
    refine ⟨cells', ?_, hres⟩
    have hpl : (pl.toArray[f]? : Option (Nat × Nat)) = some (off, k) := by simpa using h1
    simp only [List.map_cons, Instr.fill, hpl]
    have hne : ¬ ((a.eval o).cells.size ≠ k ∨ off + (a.eval o).cells.size > cells.size) := by rw [hlen]; omega
    rw [if_neg (by simpa using hne)]
    rw [← hf]
    congr 1
    rw [← hfold]
    rw [← Array.foldl_toList, Array.toList_zipIdx]

theorem RepL.lits {w : World} {N : List Nat} : ∀ (vs : List Value), vs.all (fun v => shV v == 0) = true → RepL w N (vs.map .lit) vs
  | [], _ => by simp [RepL]
  | v :: vs, h => by
    simp only [List.all_cons, Bool.and_eq_true, beq_iff_eq] at h
    simp only [List.map_cons, RepL]
    refine ⟨v, vs, rfl, ⟨h.1, h.1, ?_⟩, RepL.lits vs h.2⟩
    simp only [RepC]
    cases v <;> first | rfl | (simp [shV] at h)

theorem Ev.build {T k bytes : Nat} {z : Value} {pl : List (Nat × Nat)} {ps : List (Nat × Operand)} {res : List AV} (hT : Ty x.P T k bytes z) (hst : StructAt x.P T pl) (hz : z.cells.toList.all (fun v => shV v == 0) = true)
    (hb : g = true → BuildOv true L pl ps (z.cells.toList.map .lit) res) : Ev x g L M (.build T ps.toArray) ty (.agg res) := fun a w hs hg => by
  obtain ⟨fields, hT', hp⟩ := hst
  obtain ⟨cells', hf, hres⟩ := BuildOv.run hs (cells := z.cells) (hb hg) (RepL.lits _ hz)
  have hf' : Instr.fill (pl.toArray[·]?) z.cells (ps.toArray.map fun p => (p.1, a.eval p.2)).toList = some cells' := by rw [← hf]; congr 1; simp
  refine ⟨.agg cells', ?_, rfl, by simp only [RepC]; exact hres⟩
  have hm : (fields.toArray.mapM (fun (f : Field) => (do Pure.pure (f.offset, ← sizeOf f.type) : Sem (Nat × Nat)))).run x.P w = .ok pl.toArray w := by
    rw [List.mapM_toArray]
    have h2 := hp.run w
    generalize (fields.mapM (fun (f : Field) => (do Pure.pure (f.offset, ← sizeOf f.type) : Sem (Nat × Nat)))) = m at h2 ⊢
    simp [h2]
  simp only [execOp, Instr.build, Sem.run_bind, hT.zero, run_underlying hT', Result.andThen_ok, hm]
  rw [hf']
  simp

theorem Ev.max {o1 o2 : Operand} {T T' : TypeId} {ki : IntKind} {p q : Int} (h1 : Ov g L o1 (.lit (.int ki p))) (h2 : Ov g L o2 (.lit (.int ki q))) : Ev x g L M (.call ⟨.builtin .max, #[o1, o2], #[T, T']⟩) ty (.lit (.int ki (if q > p then q else p))) := Ev.pure fun a w hs hg => by
  simp [execOp, resolve, invoke, builtin, h1.lit hg hs, h2.lit hg hs, Builtin.max_, Builtin.max2]

/-- a struct of two strings -/
def Str2 (P : Program) (T : TypeId) : Prop := ∃ f1 f2 : Field, P.underlying T = some (.struct (P.fieldsOf T)) ∧ (P.fieldsOf T).toList = [f1, f2] ∧ P.stoodInHeld T = false ∧ P.eqGuardType P.depth T = false ∧
  f1.name ≠ "_" ∧ f2.name ≠ "_" ∧ f1.offset = 0 ∧ f2.offset = 1 ∧ P.underlying f1.type = some .string ∧ P.underlying f2.type = some .string
theorem Str2.of {P : Program} {T : TypeId} {f1 f2 : Field} (hU : P.underlying T = some (.struct #[f1, f2])) (hp : P.stoodInHeld T = false) (hm : P.eqGuardType P.depth T = false) (n1 : f1.name ≠ "_") (n2 : f2.name ≠ "_") (k1 : f1.offset = 0) (k2 : f2.offset = 1)
    (u1 : P.underlying f1.type = some .string) (u2 : P.underlying f2.type = some .string) : Str2 P T := by
  have h : P.fieldsOf T = #[f1, f2] := by rw [Program.fieldsOf, hU]
  exact ⟨f1, f2, by rw [h, hU], by rw [h], hp, hm, n1, n2, k1, k2, u1, u2⟩
theorem Rep.agg2 {w : World} {N : List Nat} {a b : List UInt8} {v : Value} (h : Rep w N (.agg [.str a, .str b]) v) : v = .agg #[.string ⟨a.toArray⟩, .string ⟨b.toArray⟩] := by
  obtain ⟨h1, h2⟩ := h
  cases v <;> simp [AV.sh, shV] at h1
  simp only [RepC, RepL] at h2
  rename_i cells
  obtain ⟨v1, vs1, e1, ⟨_, _, r1⟩, v2, vs2, e2, ⟨_, _, r2⟩, e3⟩ := h2
  subst e3
  subst e2
  obtain rfl := List.cons.inj r1 |>.1
  obtain rfl := List.cons.inj r2 |>.1
  congr 1
  exact Array.toList_inj.1 (by simpa [Value.cells] using e1)
theorem run_part_str {P : Program} {T : TypeId} {w : World} {cs : Array Value} {o : Nat} {v : Value} (hT : P.underlying T = some .string) (hv : cs[o]? = some v) : (part T cs o).run P w = .ok v w := by
  have := IsAgg.run (P := P) (T := T) (b := false) ⟨_, hT, rfl⟩ w
  simp [part, this, hv]
theorem Ev.ne2 {o1 o2 : Operand} {T T' : TypeId} {a b c d : List UInt8} (hS : Str2 x.P T) (h1 : Ov g L o1 (.agg [.str a, .str b])) (h2 : Ov g L o2 (.agg [.str c, .str d])) :
    Ev x g L M (.binOp .neq T o1 o2 T') ty (.lit (.bool (!(a == c && b == d)))) := Ev.pure fun ac w hs hg => by
  obtain ⟨f1, f2, hT, hf, hp, hm, n1, n2, k1, k2, u1, u2⟩ := hS
  have e1 := (h1.rep hg hs).agg2
  have e2 := (h2.rep hg hs).agg2
  simp only [execOp, e1, e2, Sem.run_bind, run_eqGuard_agg w .neq T o1 o2 _ _ hm, Result.andThen_ok, run_neq_struct, run_equalIn_agg w 9999 T _ _ hT hp, hf, Op.eqFields]
  have p1 : ∀ s t : Value, (part f1.type #[s, t] f1.offset).run x.P w = .ok s w := fun s t => run_part_str u1 (by rw [k1]; rfl)
  have p2 : ∀ s t : Value, (part f2.type #[s, t] f2.offset).run x.P w = .ok t w := fun s t => run_part_str u2 (by rw [k2]; rfl)
  rw [if_pos n1, if_pos n2]
  simp only [Sem.run_bind, p1, p2, Result.andThen_ok, run_equalIn_string w 9998 _ _ _ u1]
  cases h : (a == c)
  · simp [ByteArray.toList_mk, h]
  · simp [ByteArray.toList_mk, h, p1, p2, run_equalIn_string w 9998 _ _ _ u2]
    by_cases h' : b = d <;> simp [h']
end Go.Vl
end

section
set_option linter.unusedVariables false
set_option linter.unusedSimpArgs false
namespace Go.Vl
abbrev Dc := List UInt8 × List UInt8
abbrev dav (d : Dc) : AV := .agg [.str d.1, .str d.2]
theorem getD_mapG {α : Type} (f : α → AV) (z : α) (l : List α) (i : Nat) (h : i < l.length) : (l.map f)[i]? = some (f (l.getD i z)) := by
  rw [List.getD_eq_getElem?_getD, List.getElem?_map, List.getElem?_eq_getElem h]; rfl
theorem getD_memG {α : Type} (z : α) (l : List α) (i : Nat) (h : i < l.length) : l.getD i z ∈ l := by
  rw [List.getD_eq_getElem?_getD, List.getElem?_eq_getElem h]; exact List.getElem_mem h
theorem take_getDG {α : Type} (z : α) (l : List α) (i : Nat) (h : i < l.length) : l.take (i + 1) = l.take i ++ [l.getD i z] := by
  rw [List.take_add_one, List.getD_eq_getElem?_getD, List.getElem?_eq_getElem h]; rfl
theorem pick_mod (l : List (List UInt8)) (z : Int) (n : Nat) (h : l.length = n) (hn : 0 < n) : ∃ s ∈ l, (l.map AV.str)[(z % (n : Int)).toNat]? = some (.str s) := by
  have h1 := Int.emod_nonneg z (show (n : Int) ≠ 0 by omega)
  have h2 := Int.emod_lt_of_pos z (show (0 : Int) < n by omega)
  exact ⟨_, getD_memG [] l _ (by omega), getD_mapG AV.str [] l _ (by omega)⟩
def only (ns : List (List UInt8)) : List Dc → List Dc
  | [] => []
  | d :: t => if (ns.any fun s => d.1 == s) && !(t.any fun e => e.1 == d.1) then d :: only ns t else only ns t
def lastv (n : List UInt8) (l : List Dc) : List UInt8 := match (l.filter fun d => d.1 == n).getLast? with
  | some d => d.2
  | none => []
abbrev nmc : List UInt8 := [99, 111, 108, 111, 114]
abbrev nma : List UInt8 := [97, 45, 98]
abbrev nms : List (List UInt8) := [nmc, nma]
end Go.Vl
end

section
set_option linter.unusedVariables false
set_option linter.unusedSimpArgs false
set_option linter.unusedSectionVars false
namespace Go.Vl
open Go Go.Sem
section ev
variable {x : Cx} {g : Bool} {L : List (Tmp × Bool × AV)} {M : List ME} {ty : TypeId} {T T' : TypeId} {o1 o2 : Operand}

theorem Ev.nilc {a : Addr} (h1 : Ov g L o1 (.lit (.pointer (some a)))) : Ev x g L M (.nilCheck o1) ty (.lit (.pointer (some a))) := Ev.pure fun ac w hs hg => by
  simp [execOp, h1.lit hg hs]
theorem Ev.eqpn {p : Option Addr} {te : TypeId} (h1 : Ov g L o1 (.lit (.pointer p))) (hT : x.P.underlying T = some (.pointer te)) : Ev x g L M (.binOp .eql T o1 (.const (.pointer none)) T') ty (.lit (.bool p.isNone)) := Ev.pure fun ac w hs hg => by
  have hp : x.P.underlying T = some (.pointer (x.P.pointee T)) := by rw [hT]; simp [Program.pointee, hT]
  have hv : ac.eval (.const (.pointer none)) = .pointer none := rfl
  simp only [execOp, h1.lit hg hs, hv, eqGuard_at_pointer, Sem.run_bind, Sem.run_pure, Result.andThen_ok, run_eql_pointer_nil w T p hp]
theorem Ev.nep {a : Addr} {te k bytes : Nat} {z : Value} (h1 : Ov g L o1 (.lit (.pointer (some a)))) (h2 : Ov g L o2 (.lit (.pointer (some a)))) (hT : x.P.underlying T = some (.pointer te)) (hE : Ty x.P te k bytes z) :
    Ev x g L M (.binOp .neq T o1 o2 T') ty (.lit (.bool false)) := Ev.pure fun ac w hs hg => by
  obtain ⟨j, hj, _⟩ := hE
  simp only [execOp, h1.lit hg hs, h2.lit hg hs, eqGuard_at_pointer, Sem.run_bind, Sem.run_pure, Result.andThen_ok, Lib.run_neq_ptr_same w a hT hj]
theorem Ev.touns (i : Nat) {b U te k bytes : Nat} {z : Value} {c : AV} {cs : List AV} (h1 : Ov g L o1 (.lit (.pointer (some ⟨b, 0, none⟩)))) (hM : M[i]? = some (.box b U (c :: cs))) (hT : x.P.underlying T = some (.pointer te)) (hT' : x.P.underlying T' = some .unsafePointer) (hE : Ty x.P te (k + 1) bytes z) :
    Ev x g L M (.convert T T' o1) ty (.lit (.pointer (some ⟨b, 0, none⟩))) := Ev.pure fun ac w hs hg => by
  obtain ⟨j, hj, hk, _⟩ := hE
  obtain ⟨cur, hc, hcs⟩ := box_at (N := []) hs.mem hM
  have hl := hcs.length
  simp at hl
  simp only [execOp, h1.lit hg hs]
  simp [Lib.run_to_unsafe (P := x.P) w ⟨b, 0, none⟩ hT hT' hj (by omega) (e := U) (cells := cur.size) (by simp [World.shape?, hc]) (by show 0 < cur.size; omega)]
theorem Ev.fromuns (i : Nat) {b U te : Nat} {k bytes : Nat} {z : Value} {cs : List AV} (h1 : Ov g L o1 (.lit (.pointer (some ⟨b, 0, none⟩)))) (hM : M[i]? = some (.box b U cs)) (hT : x.P.underlying T = some .unsafePointer) (hT' : x.P.underlying T' = some (.pointer te)) (hE : Ty x.P te k bytes z)
    (hl : liesAt x.P x.P.depth U (cs.length / x.P.cellsOf U) 0 te 1 = true) : Ev x g L M (.convert T T' o1) ty (.lit (.pointer (some ⟨b, 0, none⟩))) := Ev.pure fun ac w hs hg => by
  obtain ⟨j, hj, hk, _⟩ := hE
  obtain ⟨cur, hc, hcs⟩ := box_at (N := []) hs.mem hM
  have hl' := hcs.length
  simp at hl'
  simp only [execOp, h1.lit hg hs]
  simp [Lib.run_from_unsafe (P := x.P) w ⟨b, 0, none⟩ hT hT' hj (e := U) (cells := cur.size) (by simp [World.shape?, hc]) (by rw [← hl'] at hl; exact hl)]
theorem Ev.noesc {f : FuncId} {fn : Func} {ats : Array TypeId} {av : AV} (hf : x.P.funcs[f]? = some fn) (hnm : (fn.name == "runtime.NumGoroutine") = false) (hb : fn.body.isNone = true) (hn : Extern.findNext fn = none) (he : Extern.find fn = some Extern.AbiNoEscape.same) (h1 : Ov g L o1 av) :
    Ev x g L M (.call ⟨.value (.func f), #[o1], ats⟩) ty av := fun a w hs hg => by
  have hv : a.eval (.func f) = .func (.func f) #[] #[] := rfl
  refine ⟨a.eval o1, ?_, h1.rep hg hs⟩
  have h := run_callFunc_extern hf hnm hb hn he #[a.eval o1] w
  rw [Lib.run_noEscape] at h
  simp only [execOp, resolve, hv, Deferred.ofValue, Sem.run_bind, Sem.run_pure, Result.andThen_ok, invoke]
  simp [h]
/-- the address of a row's first element -/
def dataOf : Value → Value
  | .slice a _ _ => .pointer a
  | v => v
def deadOf : Value → Value
  | .slice (some ⟨g, _, _⟩) _ _ => .slice (some ⟨g, 0, none⟩) 0 0
  | v => v
theorem Ev.usd {i : Nat} {v : Value} {U k : Nat} {es : List AV} (h1 : Ov g L o1 (.lit v)) (hM : M[i]? = some (.arr v U k es)) (hv : v = .slice none 0 0 ∨ es ≠ []) : Ev x g L M (.call ⟨.builtin .unsafeSliceData, #[o1], #[T]⟩) ty (.lit (dataOf v)) := Ev.pure fun ac w hs hg => by
  obtain ⟨ad, cap, e, h2, h3, _⟩ := hs.mem.holds _ (List.mem_of_getElem? hM)
  have e1 := h1.lit hg hs
  rw [e] at e1
  subst e
  cases ad with
  | none =>
    have h := Lib.run_unsafeSliceData_nil (P := x.P) w #[T] ty es.length cap
    simp [execOp, resolve, invoke, builtin, e1, h, dataOf]
  | some a =>
    have hc : cap ≠ 0 := by
      rcases hv with hv | hv
      · cases hv
      · have : es.length ≠ 0 := fun h => hv (List.eq_nil_of_length_eq_zero h)
        omega
    have h := Lib.run_unsafeSliceData_row (P := x.P) w #[T] ty a es.length cap hc
    simp [execOp, resolve, invoke, builtin, e1, h, dataOf]
end ev

theorem liesAt_off {P : Program} {e : TypeId} (hc : P.cellsOf e = 1) (count off n : Nat) (hn : off + n ≤ count) : liesAt P P.depth e count off e n = true := by
  have hd : P.depth = (2 * (P.types.size + Made.depth) + 1) + 1 := rfl
  rw [hd]
  simp only [liesAt, Bool.or_eq_true]
  left
  rw [hd]
  simp [rowAt, hc, hn, sameLayout]
  exact .inl (Nat.mod_one off)
theorem run_ustr {P : Program} (w : World) (pt it ty e : TypeId) (hp : P.underlying pt = some (.pointer e)) (hc : P.cellsOf e = 1) (g off cells : Nat) (hsh : w.shape? g = some (e, cells)) (l : List UInt8) (h0 : l ≠ []) (hn : off + l.length ≤ cells) (h63 : l.length ≤ 9223372036854775807)
    (hcell : ∀ j x, l[j]? = some x → w.cell? ((⟨g, off, none⟩ : Addr).add j) = some (.int .u8 x.toNat)) :
    (Builtin.unsafeString_ #[pt, it] ty #[.pointer (some ⟨g, off, none⟩), .int .i64 l.length]).run P w = .ok (.string ⟨l.toArray⟩) (w.freeze ⟨g, off, none⟩ l.length) := by
  have hl : l.length ≠ 0 := by simpa using h0
  have hlb := Lib.run_loadBytes (P := P) w l ⟨g, off, none⟩ .empty hcell
  have hlies := liesAt_off (P := P) hc (cells / P.cellsOf e) off l.length (by rw [hc]; simpa using hn)
  have h63' : ¬ (9223372036854775807 : Int) < (l.length : Int) := by omega
  have hdef : Builtin.unsafeString_ #[pt, it] ty #[.pointer (some ⟨g, off, none⟩), .int .i64 l.length] =
      (do
        let n ← asInt (.int .i64 l.length)
        if n < 0 then runtimePanic (.error "unsafe.String: len out of range")
        if n > IntKind.i64.max then unsupported (.unsafePointer "String: a length above the largest int")
        if n = 0 then Pure.pure (.string .empty)
        else if ← variablesAt ⟨g, off, none⟩ (← elemOf pt) n.toNat then do
          let s ← loadBytes ⟨g, off, none⟩ .empty n.toNat
          Go.freeze ⟨g, off, none⟩ n.toNat
          Pure.pure (.string s)
        else unsupported (.unsafePointer "String: not so many bytes at ptr")) := rfl
  rw [hdef]
  have hmax : IntKind.i64.max = 9223372036854775807 := rfl
  have hneg : ¬ (l.length : Int) < 0 := by omega
  simp [asInt, asIntOf, hmax, h63', hneg, hl, variablesAt, hsh, elemOf, run_underlying hp, hlies, hlb]
theorem u8_cells {w : World} {N : List Nat} : ∀ {l : List UInt8} {row : List Value}, RepE w N 1 (l.map AV.u8) row → ∀ (j : Nat) (y : UInt8), l[j]? = some y → row[j]? = some (.int .u8 y.toNat)
  | [], _, _, j, y, h => by simp at h
  | b :: l, row, hr, j, y, h => by
    simp only [List.map_cons, RepE] at hr
    obtain ⟨h1, h2, h3⟩ := hr
    cases row with
    | nil => simp at h1
    | cons v row =>
      cases j with
      | zero =>
        simp at h; subst h
        simp only [RepC] at h2
        have h2' : [v] = [Value.int .u8 (b.toNat : Int)] := h2
        simp only [List.getElem?_cons_zero, Option.some.injEq]
        exact (List.cons.inj h2').1
      | succ j =>
        have := u8_cells h3 j y (by simpa using h)
        simpa using this
theorem set_same {α : Type} {l : List α} {i : Nat} {a : α} (h : l[i]? = some a) : l.set i a = l := by
  apply List.ext_getElem?
  intro j
  rw [List.getElem?_set]
  split
  · rename_i e; subst e
    split
    · exact h.symm
    · rename_i hl; rw [List.getElem?_eq_none (by omega)] at h; cases h
  · rfl
theorem freeze_set {w : World} {g off n lo hi : Nat} {cur : Array Value} {T : TypeId} (h : w.heap[g]? = some (.cells cur T (lo, hi))) (hn : n ≠ 0) :
    w.freeze ⟨g, off, none⟩ n = { w with heap := w.heap.setIfInBounds g (.cells cur T (if lo == hi then (off, off + n) else (min lo off, max hi (off + n)))) } := by
  unfold World.freeze
  rw [if_neg hn]
  congr 1
  apply Array.ext_getElem?
  intro j
  rw [Array.getElem?_modify, Array.getElem?_setIfInBounds]
  have hlt : g < w.heap.size := heap_lt h
  split
  · rename_i e; subst e
    rw [h]
    simp [hlt]
  · rfl
/-- what an own row's slice is -/
theorem W.arr_inv {x : Cx} {L : List (Tmp × Bool × AV)} {M : List ME} {R : Act → World → Prop} (i : Nat) {v : Value} {U k : Nat} {es : List AV} (hM : M[i]? = some (.arr v U k es)) (h : ∀ a n c, v = .slice a n c → W x L M R) : W x L M R := fun a w hs => by
  obtain ⟨ad, cap, e, _⟩ := hs.mem.holds _ (List.mem_of_getElem? hM)
  exact h _ _ _ e a w hs
section str
variable {x : Cx} {L : List (Tmp × Bool × AV)} {M : List ME} {ty : TypeId} {T1 T2 : TypeId} {o1 o2 : Operand} {ops : Array Oper} {Q : Exit → Act → World → Prop} {rest : List Oper} {pos : String} {aft : Array Edge}
theorem W.ustr (i : Nat) {d : Tmp} {v : Value} {U : TypeId} {l : List UInt8} (h1 : Ov true L o1 (.lit (dataOf v))) (h2 : Ov true L o2 (.lit (.int .i64 (l.length : Int)))) (hM : M[i]? = some (.arr v U 1 (l.map AV.u8))) (hv : v = .slice none 0 0 ∨ l ≠ [])
    (hT : x.P.underlying T1 = some (.pointer U)) (hc : x.P.cellsOf U = 1) (hl : l.length ≤ 9223372036854775807) (hd : Nat.blt d x.n = true)
    (next : W x ((d, true, .str l) :: L) (M.set i (.arr (deadOf v) U 1 [])) (wpList x.P ops Q rest)) :
    W x L M (wpList x.P ops Q (⟨some d, .call ⟨.builtin .unsafeString, #[o1, o2], #[T1, T2]⟩, ty, pos, aft, none⟩ :: rest)) := by
  refine W.opv (ι := Unit) (fun _ => M.set i (.arr (deadOf v) U 1 [])) (fun _ => .str l) hd ?_ (fun _ => next)
  intro a w hs
  have e1 := h1.lit rfl hs
  have e2 := h2.lit rfl hs
  by_cases hl0 : l = []
  · subst hl0
    obtain rfl : v = .slice none 0 0 := by
      rcases hv with h | h
      · exact h
      · exact absurd rfl h
    refine ⟨.string ⟨[].toArray⟩, w, (), ?_, ?_, Rep.lit _⟩
    · have h := Lib.run_unsafeString_none (P := x.P) w T1 T2 ty none
      simp only [List.length_nil] at e2
      have e1' : a.eval o1 = .pointer none := e1
      simp [execOp, resolve, invoke, builtin, e1', e2]
      exact congrArg (fun r => Result.andThen r _) h
    · rw [show M.set i (.arr (deadOf (.slice none 0 0)) U 1 []) = M from set_same hM]
      exact hs
  · obtain ⟨ad, cap, e, hlc, hcm, hcase⟩ := hs.mem.holds _ (List.mem_of_getElem? hM)
    rw [List.length_map] at e hlc
    have hln : l.length ≠ 0 := fun h => hl0 (List.eq_nil_of_length_eq_zero h)
    rcases hcase with ⟨_, h0⟩ | ⟨g, off, cur, lo, hi, rfl, hg, hsz, hfr, hrE⟩
    · omega
    · subst e
      have e1' : a.eval o1 = .pointer (some ⟨g, off, none⟩) := e1
      have hcell : ∀ j y, l[j]? = some y → w.cell? ((⟨g, off, none⟩ : Addr).add j) = some (.int .u8 y.toNat) := by
        intro j y hj
        rw [Addr.add_lit, cell_of hg]
        have := u8_cells hrE j y hj
        rw [List.getElem?_drop] at this
        simpa using this
      have hrun := run_ustr (P := x.P) w T1 T2 ty U hT hc g off cur.size (by simp [World.shape?, hg]) l hl0 (by omega) hl hcell
      rw [freeze_set hg hln] at hrun
      refine ⟨.string ⟨l.toArray⟩, { w with heap := w.heap.setIfInBounds g (.cells cur U (if lo == hi then (off, off + l.length) else (min lo off, max hi (off + l.length)))) }, (), ?_, ?_, Rep.lit _⟩
      · simp [execOp, resolve, invoke, builtin, e1', e2, hrun]
      · refine hs.write hM rfl rfl ?_
        intro w' hother hnew hk
        exact ⟨some ⟨g, 0, none⟩, 0, rfl, Nat.le_refl _, by simp [maxLen], .inr ⟨g, 0, cur, _, _, rfl, hnew, by omega, .inr (by omega), by simp [RepE]⟩⟩
end str
end Go.Vl
end

section
set_option linter.unusedVariables false
set_option linter.unusedSimpArgs false
namespace Go.Vl
open Go Go.Sem
inductive Nd where
  | mk (name : List UInt8) (attrs : List Dc) (text : List UInt8) (parts : List Nd)
namespace Nd
def name : Nd → List UInt8 | mk n _ _ _ => n
def attrs : Nd → List Dc | mk _ a _ _ => a
def text : Nd → List UInt8 | mk _ _ t _ => t
def parts : Nd → List Nd | mk _ _ _ p => p
mutual
def av : Nd → AV
  | mk n a t p => .agg [.str n, .sl 2 (a.map dav), .str t, .sl 4 (avs p)]
def avs : List Nd → List AV
  | [] => []
  | d :: l => av d :: avs l
end
mutual
def sz : Nd → Nat
  | mk _ a _ p => 1 + a.length + szs p
def szs : List Nd → Nat
  | [] => 0
  | d :: l => sz d + szs l
end
theorem avs_map (l : List Nd) : avs l = l.map av := by
  induction l with
  | nil => rfl
  | cons d l ih => rw [avs, ih]; rfl
abbrev avx (d : Nd) : AV := .agg [.str d.name, .sl 2 (d.attrs.map dav), .str d.text, .sl 4 (d.parts.map av)]
theorem av_eq (d : Nd) : d.av = avx d := by
  cases d with | mk n a t p => rw [av, avs_map]; rfl
theorem sz_eq (d : Nd) : d.sz = 1 + d.attrs.length + szs d.parts := by cases d; rfl
theorem szs_append (l m : List Nd) : szs (l ++ m) = szs l + szs m := by
  induction l with
  | nil => simp [szs]
  | cons d l ih => rw [List.cons_append, szs, szs, ih]; omega
theorem szs_len (l : List Nd) : l.length ≤ szs l := by
  induction l with
  | nil => simp [szs]
  | cons d l ih => rw [szs, List.length_cons, sz_eq]; omega
theorem szs_mem {l : List Nd} {d : Nd} (h : d ∈ l) : d.sz ≤ szs l := by
  induction l with
  | nil => cases h
  | cons e l ih =>
    rw [szs]
    rcases List.mem_cons.1 h with rfl | h
    · omega
    · have := ih h; omega
mutual
def cnt : Nd → Nat
  | mk _ _ _ p => 1 + cnts p
def cnts : List Nd → Nat
  | [] => 0
  | d :: l => cnt d + cnts l
end
mutual
theorem cnt_le : ∀ d : Nd, d.cnt ≤ d.sz
  | mk _ a _ p => by have := cnts_le p; simp only [cnt, sz]; omega
theorem cnts_le : ∀ l : List Nd, cnts l ≤ szs l
  | [] => Nat.le_refl _
  | d :: l => by have := cnt_le d; have := cnts_le l; simp only [cnts, szs]; omega
end
mutual
def pths : Nd → List (List Int)
  | mk _ _ _ p => pthsFrom 0 p
def pthsFrom : Nat → List Nd → List (List Int)
  | _, [] => []
  | k, d :: l => [(k : Int)] :: ((pths d).map ((k : Int) :: ·) ++ pthsFrom (k + 1) l)
end
theorem pths_eq (d : Nd) : d.pths = pthsFrom 0 d.parts := by cases d; rfl
mutual
theorem pths_len : ∀ d : Nd, d.pths.length + 1 = d.cnt
  | mk _ _ _ p => by have := pthsFrom_len p 0; simp only [pths, cnt]; omega
theorem pthsFrom_len : ∀ (l : List Nd) (k : Nat), (pthsFrom k l).length = cnts l
  | [], _ => rfl
  | d :: l, k => by have h1 := pths_len d; have h2 := pthsFrom_len l (k + 1); simp only [pthsFrom, cnts, List.length_cons, List.length_append, List.length_map]; omega
end
mutual
theorem pths_deep : ∀ (d : Nd) (p : List Int), p ∈ d.pths → p.length < d.sz
  | mk _ a _ q, p, h => by have := pthsFrom_deep q 0 p h; simp only [sz]; omega
theorem pthsFrom_deep : ∀ (l : List Nd) (k : Nat) (p : List Int), p ∈ pthsFrom k l → p.length ≤ szs l
  | [], _, _, h => by simp [pthsFrom] at h
  | d :: l, k, p, h => by
    simp only [pthsFrom, List.mem_cons, List.mem_append, List.mem_map] at h
    have h1 := sz_eq d
    rcases h with rfl | ⟨q, hq, rfl⟩ | h
    · simp only [szs, List.length_singleton]; omega
    · have := pths_deep d q hq; simp only [szs, List.length_cons]; omega
    · have := pthsFrom_deep l (k + 1) p h; simp only [szs]; omega
end
def dflt : Nd := mk [] [] [] []
theorem at_av (l : List Nd) (i : Nat) (h : i < l.length) : (l.map av)[i]? = some (avx (l.getD i dflt)) := by
  rw [← av_eq]; exact getD_mapG av dflt l i h
theorem map_snoc (l : List Nd) (d : Nd) : (l ++ [d]).map av = l.map av ++ [avx d] := by rw [List.map_append, ← av_eq]; rfl
theorem take_snoc (l : List Nd) (i : Nat) (h : i < l.length) : (l.take (i + 1)).map av = (l.take i).map av ++ [avx (l.getD i dflt)] := by
  rw [take_getDG dflt l i h, map_snoc]
theorem okc_avs (l : List Nd) : ∀ e ∈ l.map av, e.okc = true ∧ e.cells.length = 4 := by
  intro e he
  obtain ⟨d, _, rfl⟩ := List.mem_map.1 he
  rw [av_eq]; exact ⟨rfl, rfl⟩
end Nd
abbrev pav (p : List Int) : AV := .sl 1 (p.map AV.int)
theorem okc_davs (l : List Dc) : ∀ e ∈ l.map dav, e.okc = true := by
  intro e he
  obtain ⟨d, _, rfl⟩ := List.mem_map.1 he
  rfl
end Go.Vl
end

section
set_option linter.unusedVariables false
set_option linter.unusedSimpArgs false
namespace Go.Vl
/-- nil stands for the row of no element -/
def NilL : List AV → List AV → Prop
  | [], [] => True
  | a :: as_, b :: bs => (a = b ∨ (a = .lit (.slice none 0 0) ∧ ∃ k, b = .sl k [])) ∧ NilL as_ bs
  | _, _ => False
theorem NilL.rep {w : World} {N : List Nat} : ∀ {as_ bs : List AV} {row : List Value}, NilL as_ bs → RepL w N as_ row → RepL w N bs row
  | [], [], _, _, hr => hr
  | a :: as_, b :: bs, row, h, hr => by
    simp only [RepL] at hr ⊢
    obtain ⟨v, vs, e, ⟨h1, h2, h3⟩, h4⟩ := hr
    refine ⟨v, vs, e, ?_, NilL.rep h.2 h4⟩
    rcases h.1 with rfl | ⟨rfl, k, rfl⟩
    · exact ⟨h1, h2, h3⟩
    · have hv0 : [v] = (Value.slice none 0 0).cells.toList := by simpa only [RepC] using h3
      have hv : [v] = [Value.slice none 0 0] := hv0
      obtain rfl := (List.cons.inj hv).1
      exact ⟨rfl, rfl, by simp only [RepC]; exact ⟨none, 0, rfl, Nat.le_refl _, by simp [maxLen], .inl trivial⟩⟩
  | [], _ :: _, _, h, _ => h.elim
  | _ :: _, [], _, h, _ => h.elim
namespace Nd
/-- path p leads to d -/
def atP : List Nd → List Int → Nd → Prop
  | _, [], _ => False
  | l, k :: p, d => ∃ i : Nat, k = (i : Int) ∧ i < l.length ∧ ((p = [] ∧ l.getD i dflt = d) ∨ (p ≠ [] ∧ atP (l.getD i dflt).parts p d))
theorem mem_paths : ∀ (l : List Nd) (k : Nat) (p : List Int), p ∈ pthsFrom k l → ∃ (i : Nat) (r : List Int), p = ((k + i : Nat) : Int) :: r ∧ i < l.length ∧ (r = [] ∨ r ∈ pthsFrom 0 (l.getD i dflt).parts)
  | [], k, p, h => by simp [pthsFrom] at h
  | d :: l, k, p, h => by
    simp only [pthsFrom, List.mem_cons, List.mem_append, List.mem_map] at h
    rcases h with rfl | ⟨q, hq, rfl⟩ | h
    · exact ⟨0, [], by simp, by simp, .inl rfl⟩
    · exact ⟨0, q, by simp, by simp, .inr (by rw [pths_eq] at hq; exact hq)⟩
    · obtain ⟨i, r, h1, h2, h3⟩ := mem_paths l (k + 1) p h
      exact ⟨i + 1, r, by rw [h1]; congr 2; omega, by simp; omega, by simpa using h3⟩
mutual
def wf : Nd → Prop
  | mk n _ _ p => (n = [] → p = []) ∧ wfs p
def wfs : List Nd → Prop
  | [] => True
  | d :: l => wf d ∧ wfs l
end
/-- one path stands ahead of another -/
def bfr : List Int → List Int → Bool
  | _, [] => false
  | [], _ :: _ => true
  | x :: a, y :: b => if x = y then bfr a b else decide (x < y)
theorem bfr_lt (x y : Int) (a b : List Int) (h : x < y) : bfr (x :: a) (y :: b) = true := by
  have : x ≠ y := by omega
  simp [bfr, this, h]
mutual
theorem pths_ord : ∀ d : Nd, (pths d).Pairwise (fun a b => bfr a b = true)
  | mk _ _ _ p => pthsFrom_ord p 0
theorem pthsFrom_ord : ∀ (l : List Nd) (k : Nat), (pthsFrom k l).Pairwise (fun a b => bfr a b = true)
  | [], _ => List.Pairwise.nil
  | d :: l, k => by
    rw [pthsFrom, List.pairwise_cons, List.pairwise_append, List.pairwise_map]
    refine ⟨?_, ?_, pthsFrom_ord l (k + 1), ?_⟩
    · intro p hp
      rcases List.mem_append.1 hp with hp | hp
      · obtain ⟨q, hq, rfl⟩ := List.mem_map.1 hp
        rw [pths_eq] at hq
        obtain ⟨i, r, rfl, _⟩ := mem_paths _ 0 q hq
        simp [bfr]
      · obtain ⟨i, r, rfl, _⟩ := mem_paths _ (k + 1) p hp
        exact bfr_lt _ _ _ _ (by omega)
    · refine (pths_ord d).imp ?_
      intro a b h
      simpa [bfr] using h
    · intro p hp q hq
      obtain ⟨p', _, rfl⟩ := List.mem_map.1 hp
      obtain ⟨i, r, rfl, _⟩ := mem_paths _ (k + 1) q hq
      exact bfr_lt _ _ _ _ (by omega)
end
end Nd
end Go.Vl
end

section
set_option linter.unusedVariables false
set_option linter.unusedSimpArgs false
set_option linter.unusedSectionVars false
namespace Go.Vl
open Go Go.Sem
section callg
variable {x : Cx} {L : List (Tmp × Bool × AV)} {M : List ME} {ops : Array Oper} {Q : Exit → Act → World → Prop} {rest : List Oper}
theorem W.callg {f : FuncId} {d : Tmp} {fo : Operand} {caps : List Value} {os : List Operand} {ats : Array TypeId} {ty : TypeId} {pos : String} {aft : Array Edge} {avs avs' : List AV} {r : AV} {Min Mr : List ME} {j : Nat} {want : Bool} {t : Tmp} {gb b G : Bool}
    (hj : (ops[j]?).bind (·.dst) = some t) (hl : look L t = some (gb, .lit (.bool b))) (hG : G = (gb && (b == want)))
    (hc : G = true → FnC x.P f avs' Min (fun r' M' => r' = r ∧ M' = Min)) (hfo : G = true → Ov true L fo (.lit (.func (.func f) #[] caps.toArray))) (ha : G = true → ArgsOv L os avs) (he : avs' = avs ++ caps.map .lit) (hM : List.Perm M (Min ++ Mr)) (hd : Nat.blt d x.n = true)
    (next : W x ((d, G, r) :: L) M (wpList x.P ops Q rest)) :
    W x L M (wpList x.P ops Q (⟨some d, .call ⟨.value fo, os.toArray, ats⟩, ty, pos, aft, some (j, want)⟩ :: rest)) := by
  intro a w hs
  have hw := guard_of (d := some d) (op := .call ⟨.value fo, os.toArray, ats⟩) (ty := ty) (pos := pos) (aft := aft) (want := want) hj hl hs
  rw [← hG] at hw
  cases hGv : G with
  | true =>
    have h := W.callv (ops := ops) (Q := Q) (rest := rest) (ats := ats) (ty := ty) (pos := pos) (aft := aft) (hc hGv) (hfo hGv) (ha hGv) he hM hd (fun r' M' hp => by
      obtain ⟨rfl, rfl⟩ := hp
      rw [hGv] at next
      exact W.perm hM.symm next) a w hs
    unfold wpList at h ⊢
    rw [if_pos (by rw [hw, hGv])]
    rw [if_pos (by simp [Region.wanted])] at h
    exact h
  | false =>
    refine wpList_cons_skip (by rw [hw, hGv]) ?_
    rw [hGv] at next
    exact next _ _ (hs.put hd false r undef (by simp) (fun _ => rfl))
theorem W.callgT {f : FuncId} {d : Tmp} {fo : Operand} {caps : List Value} {os : List Operand} {ats : Array TypeId} {ty : TypeId} {pos : String} {aft : Array Edge} {avs avs' : List AV} {r : AV} {Min Mr : List ME} {j : Nat} {t : Tmp} {b : Bool}
    (hj : (ops[j]?).bind (·.dst) = some t) (hl : look L t = some (true, .lit (.bool b)))
    (hc : (b) = true → FnC x.P f avs' Min (fun r' M' => r' = r ∧ M' = Min)) (hfo : (b) = true → Ov true L fo (.lit (.func (.func f) #[] caps.toArray))) (ha : (b) = true → ArgsOv L os avs) (he : avs' = avs ++ caps.map .lit) (hM : List.Perm M (Min ++ Mr)) (hd : Nat.blt d x.n = true)
    (next : W x ((d, b, r) :: L) M (wpList x.P ops Q rest)) :
    W x L M (wpList x.P ops Q (⟨some d, .call ⟨.value fo, os.toArray, ats⟩, ty, pos, aft, some (j, true)⟩ :: rest)) :=
  W.callg hj hl (by simp) hc hfo ha he hM hd next
end callg
/-- AN ARRAY OF THE CALL's OWN IS WRITTEN NO MORE; what else is known of the slots stays. -/
theorem W.freezeA {x : Cx} {L : List (Tmp × Bool × AV)} {M : List ME} {R : Act → World → Prop} {v : Value} {T k : Nat} {es : List AV} {L' : List (Tmp × Bool × AV)} {M1 M2 D : List ME} (hM : List.Perm M (ME.arr v T k es :: (M1 ++ D))) (hL : FSub v k es L L') (hM2 : FrzMs v k es M1 M2) (h : W x (L' ++ L) M2 R) : W x L M R := by
  intro a w hs
  have h1 : St x L' M2 a w := W.freeze (x := x) (R := fun a w => St x L' M2 a w) hM hL hM2 (fun a w hs => hs) a w hs
  have hp2 : List.Perm M (M1 ++ (ME.arr v T k es :: D)) := hM.trans (List.perm_middle.symm)
  have h2 : St x L M1 a w := by
    obtain ⟨hm, hk, hsub⟩ := hs.mem.sub hp2
    exact ⟨hs.defers, hs.size, fun t g av hl => ⟨fun hg => ((hs.slots t g av hl).1 hg).keep hk, (hs.slots t g av hl).2⟩, hm, hs.fr.sub hsub, hs.old⟩
  refine h a w ⟨h1.defers, h1.size, ?_, h1.mem, h1.fr, h1.old⟩
  intro t g av hl
  rw [look_append] at hl
  cases hx : look L' t with
  | some p => rw [hx, Option.some_or] at hl; obtain rfl := Option.some.inj hl; exact h1.slots t g av hx
  | none =>
    rw [hx, Option.none_or] at hl
    have := h2.slots t g av hl
    rw [hM2.bl]
    exact this
/-- a row by a function of the place -/
abbrev rowB (n : Nat) (f : Nat → Bool) : List AV := (List.range n).map fun k => AV.bool (f k)
/-- the first place where it holds, or -1 -/
def idxI {α : Type} (p : α → Bool) : List α → Int
  | [] => -1
  | a :: l => if p a then 0 else if idxI p l < 0 then -1 else idxI p l + 1
/-- is a text a name? -/
def nameCh (r : Int) : Bool := ((decide (97 ≤ r) && decide (r ≤ 122)) || (decide (48 ≤ r) && decide (r ≤ 57))) || r == 45
def nameOk (s : List UInt8) : Bool := !(((s == [] || decide ((12 : Int) < (s.length : Int))) || decide (((s.getD 0 0).toNat : Int) < 97)) || decide ((122 : Int) < ((s.getD 0 0).toNat : Int))) && !((runes s).any fun r => !(nameCh (r : Int)))
end Go.Vl
end

section
set_option linter.unusedVariables false
set_option linter.unusedSimpArgs false
namespace Go.Vl
theorem Au0.list_ext {α : Type} (z : α) {l m : List α} (h : l.length = m.length) (hs : ∀ i, i < l.length → l.getD i z = m.getD i z) : l = m := by
  refine List.ext_getElem h fun i h1 h2 => ?_
  have := hs i h1
  rw [List.getD_eq_getElem?_getD, List.getD_eq_getElem?_getD, List.getElem?_eq_getElem h1, List.getElem?_eq_getElem h2] at this
  exact this
namespace Sty
def spc : List UInt8 := [32, 9, 10, 12, 13]
theorem index_ge : ∀ (s p : List UInt8), Lib.index s p = -1 ∨ 0 ≤ Lib.index s p ∧ (Lib.index s p).toNat + p.length ≤ s.length
  | [], p => by
    rw [Lib.index]
    cases p with
    | nil => exact .inr ⟨by simp, by simp⟩
    | cons b p => exact .inl (by simp)
  | b :: s, p => by
    rw [Lib.index]
    by_cases h : p.isPrefixOf (b :: s) = true
    · rw [if_pos h]
      have := (List.isPrefixOf_iff_prefix.1 h).length_le
      exact .inr ⟨by decide, by simpa using this⟩
    · rw [if_neg h]
      rcases index_ge s p with h1 | ⟨h1, h2⟩
      · rw [h1]; exact .inl rfl
      · rw [if_neg (by simp; omega)]
        exact .inr ⟨by omega, by rw [List.length_cons]; omega⟩
theorem cut_len (s p : List UInt8) : (Lib.cut s p).1.length ≤ s.length ∧ (Lib.cut s p).2.1.length ≤ s.length ∧ ((Lib.cut s p).2.2 = true → (Lib.cut s p).1.length + p.length + (Lib.cut s p).2.1.length = s.length) := by
  unfold Lib.cut
  rcases index_ge s p with h | ⟨h, h2⟩
  · rw [if_neg (by omega)]
    exact ⟨Nat.le_refl _, Nat.zero_le _, fun h => by cases h⟩
  · rw [if_pos h]
    refine ⟨?_, ?_, fun _ => ?_⟩
    · rw [List.length_take]; omega
    · rw [List.length_drop]; omega
    · rw [List.length_take, List.length_drop]; omega
/-- without remarks -/
def bareF : Nat → List UInt8 → List UInt8
  | 0, _ => []
  | n + 1, s => if (Lib.cut s [47, 42]).2.2 = true then
      (Lib.cut s [47, 42]).1 ++ (if (Lib.cut (Lib.cut s [47, 42]).2.1 [42, 47]).2.2 = true then bareF n (Lib.cut (Lib.cut s [47, 42]).2.1 [42, 47]).2.1 else [])
    else (Lib.cut s [47, 42]).1
theorem bareF_more : ∀ (n m : Nat) (s : List UInt8), s.length < n → s.length < m → bareF n s = bareF m s
  | 0, m, s, h, _ => by omega
  | n + 1, 0, s, _, h => by omega
  | n + 1, m + 1, s, h1, h2 => by
    rw [bareF, bareF]
    split
    · rename_i hc
      split
      · rename_i hc2
        have k1 := (cut_len s [47, 42]).2.2 hc
        have k2 := (cut_len (Lib.cut s [47, 42]).2.1 [42, 47]).2.2 hc2
        simp only [List.length_cons, List.length_nil] at k1 k2
        rw [bareF_more n m _ (by omega) (by omega)]
      · rfl
    · rfl
def bare (s : List UInt8) : List UInt8 := bareF (s.length + 1) s
theorem bare_eq (s : List UInt8) : bare s = if (Lib.cut s [47, 42]).2.2 = true then
      (Lib.cut s [47, 42]).1 ++ (if (Lib.cut (Lib.cut s [47, 42]).2.1 [42, 47]).2.2 = true then bare (Lib.cut (Lib.cut s [47, 42]).2.1 [42, 47]).2.1 else [])
    else (Lib.cut s [47, 42]).1 := by
  unfold bare
  rw [bareF]
  split
  · rename_i hc
    split
    · rename_i hc2
      have k1 := (cut_len s [47, 42]).2.2 hc
      have k2 := (cut_len (Lib.cut s [47, 42]).2.1 [42, 47]).2.2 hc2
      simp only [List.length_cons, List.length_nil] at k1 k2
      rw [bareF_more _ ((Lib.cut (Lib.cut s [47, 42]).2.1 [42, 47]).2.1.length + 1) _ (by omega) (by omega)]
    · rfl
  · rfl
theorem bareF_len : ∀ (n : Nat) (s : List UInt8), (bareF n s).length ≤ s.length
  | 0, s => Nat.zero_le _
  | n + 1, s => by
    rw [bareF]
    have k0 := cut_len s [47, 42]
    split
    · rename_i hc
      have k1 := k0.2.2 hc
      rw [List.length_append]
      split
      · rename_i hc2
        have k2 := (cut_len (Lib.cut s [47, 42]).2.1 [42, 47]).2.2 hc2
        have k3 := bareF_len n (Lib.cut (Lib.cut s [47, 42]).2.1 [42, 47]).2.1
        omega
      · simp only [List.length_nil]; omega
    · exact k0.1
theorem bare_len (s : List UInt8) : (bare s).length ≤ s.length := bareF_len _ s
/-- as_ pieces' loop goes: where the piece begins, how deep, within which quote, the pieces so far -/
structure Ps where
  fr : Nat
  dp : Nat
  qt : UInt8
  out : List (List UInt8)
def Ps.step (s : List UInt8) (i : Nat) (p : Ps) : Ps :=
  if p.qt ≠ 0 then (if s.getD i 0 = p.qt then { p with qt := 0 } else p)
  else if s.getD i 0 = 34 ∨ s.getD i 0 = 39 then { p with qt := s.getD i 0 }
  else if s.getD i 0 = 40 then { p with dp := p.dp + 1 }
  else if s.getD i 0 = 41 then { p with dp := p.dp - 1 }
  else if s.getD i 0 = 59 ∧ p.dp = 0 then { p with out := p.out ++ [(s.take i).drop p.fr], fr := i + 1 }
  else p
def pst (s : List UInt8) : Nat → Ps
  | 0 => ⟨0, 0, 0, []⟩
  | i + 1 => (pst s i).step s i
structure Ps.Ok (s : List UInt8) (i : Nat) (p : Ps) : Prop where
  fr : p.fr ≤ i
  dp : p.dp ≤ i
  len : p.out.length ≤ i
  out : ∀ x ∈ p.out, x.length ≤ s.length
theorem pst_ok (s : List UInt8) : ∀ i : Nat, (pst s i).Ok s i
  | 0 => ⟨Nat.le_refl _, Nat.le_refl _, Nat.le_refl _, fun x h => by cases h⟩
  | i + 1 => by
    have h := pst_ok s i
    rw [pst]
    generalize pst s i = p at h
    obtain ⟨h1, h2, h3, h4⟩ := h
    unfold Ps.step
    split
    · split
      · exact ⟨by simp only; omega, by simp only; omega, by simp only; omega, h4⟩
      · exact ⟨by omega, by omega, by omega, h4⟩
    · split
      · exact ⟨by simp only; omega, by simp only; omega, by simp only; omega, h4⟩
      · split
        · exact ⟨by simp only; omega, by simp only; omega, by simp only; omega, h4⟩
        · split
          · exact ⟨by simp only; omega, by simp only; omega, by simp only; omega, h4⟩
          · split
            · refine ⟨by simp only; omega, by simp only; omega, by simp only [List.length_append, List.length_cons, List.length_nil]; omega, fun x hx => ?_⟩
              rcases List.mem_append.1 hx with hx | hx
              · exact h4 x hx
              · rw [List.mem_singleton.1 hx, List.length_drop, List.length_take]; omega
            · exact ⟨by omega, by omega, by omega, h4⟩
def pieces (s : List UInt8) : List (List UInt8) := (pst s s.length).out ++ [s.drop (pst s s.length).fr]
theorem pieces_len (s : List UInt8) : (pieces s).length ≤ s.length + 1 := by
  have := (pst_ok s s.length).len
  unfold pieces; rw [List.length_append]; simp only [List.length_cons, List.length_nil]; omega
theorem pieces_in (s : List UInt8) : ∀ x ∈ pieces s, x.length ≤ s.length := fun x hx => by
  unfold pieces at hx
  rcases List.mem_append.1 hx with hx | hx
  · exact (pst_ok s s.length).out x hx
  · rw [List.mem_singleton.1 hx, List.length_drop]; omega
def small (s : List UInt8) : List UInt8 := s.map fun c => if 65 ≤ c.toNat ∧ c.toNat ≤ 90 then c + 32 else c
def small1 (c : UInt8) : UInt8 := if 65 ≤ c.toNat ∧ c.toNat ≤ 90 then c + 32 else c
/-- the first i bytes made small -/
def smallT (s : List UInt8) (i : Nat) : List UInt8 := (s.take i).map small1 ++ s.drop i
theorem smallT_len (s : List UInt8) (i : Nat) : (smallT s i).length = s.length := by
  unfold smallT; rw [List.length_append, List.length_map, List.length_take, List.length_drop]; omega
theorem smallT_all (s : List UInt8) : smallT s s.length = small s := by
  unfold smallT small; rw [List.take_length, List.drop_length, List.append_nil]; rfl
theorem smallT_get (s : List UInt8) (i : Nat) (h : i < s.length) : ((smallT s i).map AV.u8)[i]? = some (AV.u8 (s.getD i 0)) := by
  have hl : ((s.take i).map small1).length = i := by rw [List.length_map, List.length_take]; omega
  rw [List.getElem?_map]; unfold smallT
  rw [List.getElem?_append_right (by omega), hl, Nat.sub_self, List.getElem?_drop, Nat.add_zero, List.getD_eq_getElem?_getD, List.getElem?_eq_getElem h]; rfl
theorem smallT_set (s : List UInt8) (i : Nat) (h : i < s.length) : ((smallT s i).map AV.u8).set i (AV.u8 (small1 (s.getD i 0))) = (smallT s (i + 1)).map AV.u8 := by
  have hl : ((s.take i).map small1).length = i := by rw [List.length_map, List.length_take]; omega
  rw [← List.map_set]; congr 1; unfold smallT
  rw [List.set_append_right _ _ (by omega), hl, Nat.sub_self, List.drop_eq_getElem_cons h, List.set_cons_zero, List.take_succ_eq_append_getElem h, List.map_append, List.append_assoc]
  congr 2
  rw [List.getD_eq_getElem?_getD, List.getElem?_eq_getElem h]; rfl
/-- a declaration of a piece, if it is one -/
def dec1 (p : List UInt8) : List UInt8 × List UInt8 := (small (Lib.trimS (Lib.cut p [58]).1 spc), Lib.trimS (Lib.cut p [58]).2.1 spc)
def is1 (p : List UInt8) : Bool := (Lib.cut p [58]).2.2 && (nameOk (dec1 p).1 && !((dec1 p).2 == []))
def decs (l : List (List UInt8)) : List (List UInt8 × List UInt8) := l.flatMap fun p => if is1 p = true then [dec1 p] else []
def parse (s : List UInt8) : List (List UInt8 × List UInt8) := decs (pieces (bare s))
theorem decs_snoc (l : List (List UInt8)) (p : List UInt8) : decs (l ++ [p]) = decs l ++ (if is1 p = true then [dec1 p] else []) := by
  simp [decs]
theorem decs_len (l : List (List UInt8)) : (decs l).length ≤ l.length := by
  induction l with
  | nil => exact Nat.le_refl _
  | cons p l ih =>
    have : decs (p :: l) = (if is1 p = true then [dec1 p] else []) ++ decs l := by simp [decs]
    rw [this, List.length_append, List.length_cons]
    split <;> simp <;> omega
theorem dropWhile_le (p : UInt8 → Bool) (l : List UInt8) : (l.dropWhile p).length ≤ l.length := (List.dropWhile_sublist p).length_le
theorem trim_len (l cs : List UInt8) : (Lib.trimS l cs).length ≤ l.length := by
  unfold Lib.trimS Lib.trimLeftS Lib.trimRightS
  refine Nat.le_trans (dropWhile_le _ _) ?_
  rw [List.length_reverse]
  exact Nat.le_trans (dropWhile_le _ _) (by simp)
theorem u8_eq {a b : UInt8} (h : (a.toNat : Int) = b.toNat) : a = b := UInt8.toNat_inj.1 (by omega)
theorem u8_neq {a b : UInt8} (h : ¬ (a.toNat : Int) = b.toNat) : ¬ a = b := fun e => h (by rw [e])
theorem u8_ne0 {a : UInt8} (h : ¬ (a.toNat : Int) = 0) : a ≠ 0 := fun e => h (by rw [e]; rfl)
theorem u8_e0 {a : UInt8} (h : (a.toNat : Int) = 0) : ¬ a ≠ 0 := fun e => e (UInt8.toNat_inj.1 (show a.toNat = 0 by omega))
theorem u8_lit {a : UInt8} (n : Nat) (hn : n < 256) (h : (a.toNat : Int) = n) : a = UInt8.ofNat n := UInt8.toNat_inj.1 (by simp; omega)
theorem u8_nlit {a : UInt8} (n : Nat) (hn : n < 256) (h : ¬ (a.toNat : Int) = n) : ¬ a = UInt8.ofNat n := fun e => h (by rw [e]; simp; omega)
theorem u8_or {a : UInt8} (h : (a.toNat : Int) = 34 ∨ (a.toNat : Int) = 39) : a = 34 ∨ a = 39 := h.imp (u8_lit 34 (by decide)) (u8_lit 39 (by decide))
theorem u8_nor {a : UInt8} (h : ¬ (a.toNat : Int) = 34 ∧ ¬ (a.toNat : Int) = 39) : ¬ (a = 34 ∨ a = 39) := fun e => e.elim (u8_nlit 34 (by decide) h.1) (u8_nlit 39 (by decide) h.2)
theorem u8_and {a : UInt8} {n : Nat} (h : (a.toNat : Int) = 59 ∧ n = 0) : a = 59 ∧ n = 0 := ⟨u8_lit 59 (by decide) h.1, h.2⟩
theorem u8_nand {a : UInt8} {n : Nat} (h : (a.toNat : Int) = 59 → ¬ n = 0) : ¬ (a = 59 ∧ n = 0) := fun e => h (by rw [e.1]; rfl) e.2
theorem parse_ab : parse [97, 58, 98] = [([97], [98])] := by decide +kernel
def dtx (d : List UInt8 × List UInt8) : List UInt8 := (d.1 ++ [58, 32]) ++ d.2
structure Good (n : Nat) (d : List UInt8 × List UInt8) : Prop where
  name : nameOk d.1 = true
  val : d.2 ≠ []
  len : d.2.length ≤ n
  head : ∀ c r, d.2 = c :: r → c ≠ 32
  last : ∀ r c, d.2 = r ++ [c] → c ≠ 32
theorem parse_len (s : List UInt8) : (parse s).length ≤ s.length + 1 := by
  have h1 := decs_len (pieces (bare s))
  have h2 := pieces_len (bare s)
  have h3 := bare_len s
  unfold parse; omega
end Sty
end Go.Vl
end

section
set_option linter.unusedVariables false
set_option linter.unusedSimpArgs false
namespace Go.Vl
section s2b
variable {x : Cx} {g : Bool} {L : List (Tmp × Bool × AV)} {M : List ME} {ops : Array Oper} {Q : Exit → Act → World → Prop} {rest : List Oper} {ty : TypeId} {pos : String} {aft : Array Edge}
theorem bytesWorld_alloc (w : World) (e : TypeId) (s : ByteArray) : Lib.bytesWorld w e s = w.drew.alloc (.cells (Lib.bytesCells w e s) e ((Lib.bytesCells w e s).size, (Lib.bytesCells w e s).size + 1)) := by
  have hh : (Lib.bytesWorld w e s).heap = (w.drew.alloc (.cells (Lib.bytesCells w e s) e ((Lib.bytesCells w e s).size, (Lib.bytesCells w e s).size + 1))).heap := by
    refine Array.ext_getElem? fun j => ?_
    rcases Nat.lt_trichotomy j w.heap.size with h | h | h
    · rw [Lib.bytesWorld_at_old w e s j h]
      exact (alloc_old w.drew _ h).symm
    · subst h
      rw [Lib.bytesWorld_at_new w e s]
      exact (alloc_new w.drew _).symm
    · rw [Array.getElem?_eq_none (by rw [Lib.bytesWorld_size]; omega), Array.getElem?_eq_none (by rw [World.size_alloc]; show w.heap.size + 1 ≤ j; omega)]
  have h1 : Lib.bytesWorld w e s = { (w.drew.alloc (.cells (Lib.bytesCells w e s) e ((Lib.bytesCells w e s).size, (Lib.bytesCells w e s).size + 1))) with heap := (Lib.bytesWorld w e s).heap } := rfl
  rw [h1, hh]
theorem W.s2b {d : Tmp} {T T' E : TypeId} {o1 : Operand} {s : List UInt8} {u : TypeDesc} (h1 : Ov true L o1 (.str s)) (hT : x.P.underlying T = some u) (hT' : x.P.underlying T' = some (.slice E)) (hE : x.P.underlying E = some (.int .u8)) (hl : s.length ≤ 1099511627776) (hd : Nat.blt d x.n = true)
    (next : ∀ v', W x ((d, true, .lit v') :: L) (ME.arr v' E 1 (s.map AV.u8) :: M) (wpList x.P ops Q rest)) :
    W x L M (wpList x.P ops Q (⟨some d, .convert T T' o1, ty, pos, aft, none⟩ :: rest)) := by
  refine W.opv (ι := Value) (fun v' => ME.arr v' E 1 (s.map AV.u8) :: M) (fun v' => .lit v') hd ?_ next
  intro a w hs
  have e1 : a.eval o1 = .string ⟨s.toArray⟩ := h1.lit rfl hs
  have hsz : (ByteArray.mk s.toArray).size = s.length := by simp [ByteArray.size]
  have hrun := Lib.run_convert_string_bytes (P := x.P) w T T' E ⟨s.toArray⟩ hT hT' hE
  rw [hsz, bytesWorld_alloc] at hrun
  obtain ⟨hg1, hg2⟩ := cap_cut w s.length 0 E (by simp only [maxLen]; omega)
  refine ⟨.slice (some ⟨w.heap.size, 0, none⟩) s.length (grownCap w s.length 0 E), w.drew.alloc (.cells (Lib.bytesCells w E ⟨s.toArray⟩) E ((Lib.bytesCells w E ⟨s.toArray⟩).size, (Lib.bytesCells w E ⟨s.toArray⟩).size + 1)), .slice (some ⟨w.heap.size, 0, none⟩) s.length (grownCap w s.length 0 E), ?_, ?_, Rep.lit _⟩
  · simp only [execOp, e1, Sem.run_bind, hrun, Result.andThen_ok, Sem.run_pure]
  · have hd1 : St x L M a w.drew := hs.same rfl rfl rfl rfl
    refine hd1.alloc _ _ rfl ?_
    intro N hN
    have hcs : (Lib.bytesCells w E ⟨s.toArray⟩).size = grownCap w s.length 0 E := by
      simp only [Lib.bytesCells, Array.size_append, Array.size_map, Array.size_replicate, hsz]
      show s.toArray.size + _ = _
      simp only [List.size_toArray]; omega
    refine ⟨some ⟨w.heap.size, 0, none⟩, grownCap w s.length 0 E, by rw [List.length_map], by rw [List.length_map]; exact hg1, hg2, .inr ⟨w.heap.size, 0, Lib.bytesCells w E ⟨s.toArray⟩, (Lib.bytesCells w E ⟨s.toArray⟩).size, (Lib.bytesCells w E ⟨s.toArray⟩).size + 1, rfl, alloc_new w.drew _, by omega, .inr (by omega), ?_⟩⟩
    rw [List.drop_zero]
    have hl2 : (Lib.bytesCells w E ⟨s.toArray⟩).toList = (s.map fun b => Value.int .u8 (b.toNat : Int)) ++ List.replicate (grownCap w s.length 0 E - s.length) (.int .u8 0) := by
      simp [Lib.bytesCells, hsz]
    rw [hl2]
    exact RepE.congr (RepE.u8s s) (by rw [List.length_map, Nat.mul_one, List.take_append_of_le_length (by simp)])
theorem Ev.min {o1 o2 : Operand} {T T' : TypeId} {ki : IntKind} {p q : Int} (h1 : Ov g L o1 (.lit (.int ki p))) (h2 : Ov g L o2 (.lit (.int ki q))) : Ev x g L M (.call ⟨.builtin .min, #[o1, o2], #[T, T']⟩) ty (.lit (.int ki (if q < p then q else p))) := Ev.pure fun a w hs hg => by
  simp [execOp, resolve, invoke, builtin, h1.lit hg hs, h2.lit hg hs, Builtin.min_, Builtin.min2]
/-- nothing appended to nil: nil -/
theorem Ev.app0n {T T' E k bytes : Nat} {z : Value} {o1 o2 : Operand} (h1 : Ov true L o1 (.lit (.slice none 0 0))) (h2 : Ov true L o2 (.str [])) (hT : x.P.underlying T = some (.slice E)) (hT' : x.P.underlying T' = some .string) (hE : Ty x.P E k bytes z) :
    Ev x true L M (.call ⟨.builtin .append, #[o1, o2], #[T, T']⟩) ty (.lit (.slice none 0 0)) := Ev.pure fun a w hs hg => by
  obtain ⟨hlen, news, hn1, _, _, hn4⟩ := (SrcOv.str h2).src hs
  have hf := hn4 w rfl
  obtain ⟨ii, hi1, hi2, hi3, hi4⟩ := hE
  have e1 : a.eval o1 = .slice none 0 0 := h1.lit rfl hs
  have e2 : a.eval o2 = .string ⟨#[]⟩ := h2.lit rfl hs
  have hlen' : (Builtin.lenOf (Value.string ⟨#[]⟩)).run x.P w = .ok 0 w := by have := hlen; rw [e2] at this; exact this
  have hf' : ∃ n', (Builtin.firstCells k 0 (Value.string ⟨#[]⟩)).run x.P w = .ok n' w := ⟨#[], by simp [Builtin.firstCells]⟩
  obtain ⟨n', hf'⟩ := hf'
  simp [execOp, resolve, invoke, builtin, e1, e2, Builtin.append_, run_underlying hT, run_underlying hT', sizeOf, typeInfo, hi1, hi2, hlen', hf']
end s2b
end Go.Vl
end

section
set_option linter.unusedVariables false
set_option linter.unusedSimpArgs false
set_option maxRecDepth 100000
namespace Go.Proofs.YtlglnmafddnmmaaDoor
open Go.Vl

namespace Base

theorem tmod_neg (a n : Int) (hn : 0 < n) (h : a.tmod n < 0) : a.tmod n + n = a % n := by
  have h1 := Int.tmod_eq_emod (a := a) (b := n)
  have h2 := Int.emod_nonneg a (by omega : n ≠ 0)
  have h3 := Int.emod_lt_of_pos a hn
  have h4 : (n.natAbs : Int) = n := by omega
  rw [h1] at h ⊢
  split at h <;> split <;> omega
theorem tmod_nonneg (a n : Int) (hn : 0 < n) (h : ¬ a.tmod n < 0) : a.tmod n = a % n := by
  have h1 := Int.tmod_eq_emod (a := a) (b := n)
  have h2 := Int.emod_nonneg a (by omega : n ≠ 0)
  have h3 := Int.emod_lt_of_pos a hn
  have h4 : (n.natAbs : Int) = n := by omega
  rw [h1] at h ⊢
  split at h <;> split <;> omega
theorem tmod_gt (a n : Int) (hn : 0 < n) : -n < a.tmod n ∧ a.tmod n < n := by
  have h1 := Int.tmod_eq_emod (a := a) (b := n)
  have h2 := Int.emod_nonneg a (by omega : n ≠ 0)
  have h3 := Int.emod_lt_of_pos a hn
  have h4 : (n.natAbs : Int) = n := by omega
  rw [h1]
  split <;> omega

theorem c_Picked (a n : Int) (hn : 0 < n) (hb : n ≤ 4611686018427387904) : FnP Tryd.prog 24 [.int a, .int n] (.int (a % n)) :=  by
  refine FnC.mk Tryd.func24 (by kernel_rfl) rfl Tryd.ntmps24 rfl (fun w0 F => ?_)
  have htm := tmod_gt a n hn
  refine W.seq ?_
  refine W.region ?_
  refine W.q (Ev.assign .k) rfl ?_
  refine W.nil ?_
  refine W.then ?_
  refine W.seq ?_
  refine W.region ?_
  refine W.q (Ev.move (.t rfl)) rfl ?_
  refine W.q (Ev.move (.t rfl)) rfl ?_
  first | refine W.q (Ev.rem (.t rfl) (.t rfl) (fun _ => by decide)) rfl ?_ | refine W.q (Ev.rem (.t rfl) (.t rfl) (fun _ => by omega)) rfl ?_
  refine W.q (Ev.assign (.t rfl)) rfl ?_
  refine W.nil ?_
  refine W.then ?_
  refine W.seq ?_
  refine W.seq ?_
  refine W.region ?_
  refine W.q (Ev.move (.t rfl)) rfl ?_
  refine W.q (Ev.lti (.t rfl) .k) rfl ?_
  refine W.nil ?_
  refine W.then ?_
  refine W.cond (.t rfl) (fun hc_t9 => ?_) (fun hc_t9 => ?_)
  · have h9 := of_decide_eq_true hc_t9
    refine W.seq ?_
    refine W.region ?_
    refine W.q (Ev.move (.t rfl)) rfl ?_
    refine W.q (Ev.move (.t rfl)) rfl ?_
    first | refine W.q (Ev.add (.t rfl) (.t rfl) (fun _ => by omega)) rfl ?_ | refine W.q (Ev.addw (.t rfl) (.t rfl)) rfl ?_
    refine W.q (Ev.assign (.t rfl)) rfl ?_
    refine W.nil ?_
    refine W.then ?_
    refine W.ret ?_
    refine W.then_ret ?_
    refine W.retn (M' := []) (rs := [.tmp 4]) (avs := [_]) Tryd.results24 ⟨rfl, trivial⟩ rfl (.refl _) ?_
    exact ⟨congrArg AV.int (by first | exact (tmod_neg a n hn h9).symm ▸ rfl | exact tmod_nonneg a n hn h9), rfl⟩
  · have h9 := of_decide_eq_false hc_t9
    refine W.skip ?_
    refine W.then ?_
    refine W.seq ?_
    refine W.region ?_
    refine W.q (Ev.move (.t rfl)) rfl ?_
    refine W.q (Ev.assign (.t rfl)) rfl ?_
    refine W.nil ?_
    refine W.then ?_
    refine W.ret ?_
    refine W.retn (M' := []) (rs := [.tmp 4]) (avs := [_]) Tryd.results24 ⟨rfl, trivial⟩ rfl (.refl _) ?_
    exact ⟨congrArg AV.int (by first | exact (tmod_neg a n hn h9).symm ▸ rfl | exact tmod_nonneg a n hn h9), rfl⟩

end Base

end Go.Proofs.YtlglnmafddnmmaaDoor
end

section
set_option linter.unusedVariables false
set_option linter.unusedSimpArgs false
set_option maxRecDepth 100000
namespace Go.Proofs.YtlglnmafddnmmaaDoor
open Go.Vl

namespace WBld
theorem ty90 : Ty Tryd.prog 90 1 8 (.pointer none) := Ty.of (by kernel_rfl)
theorem ty91 : Ty Tryd.prog 91 1 24 (.slice none 0 0) := Ty.of (by kernel_rfl)
theorem ty93 : Ty Tryd.prog 93 2 32 (.agg #[.pointer none, .slice none 0 0]) := Ty.of (by kernel_rfl)
theorem ag90 : IsAgg Tryd.prog 90 false := ⟨_, Tryd.underlying90, rfl⟩
theorem ag91 : IsAgg Tryd.prog 91 false := ⟨_, Tryd.underlying91, rfl⟩
theorem fa93_0 : FieldAt Tryd.prog 93 0 0 1 false := ⟨_, _, Tryd.underlying93, rfl, rfl, ty90.size, ag90, by decide⟩
theorem fa93_1 : FieldAt Tryd.prog 93 1 1 1 false := ⟨_, _, Tryd.underlying93, rfl, rfl, ty91.size, ag91, by decide⟩
theorem c_ccNew (b : Nat) (s : Value) : FnC Tryd.prog 69 [.lit (.pointer (some ⟨b, 0, none⟩))] [.box b 93 [.lit (.pointer none), .lit s]] (fun r M => r = .tup [] ∧ M = [.box b 93 [.lit (.pointer (some ⟨b, 0, none⟩)), .lit s]]) :=  by
  refine FnC.mk Tryd.func69 (by kernel_rfl) rfl Tryd.ntmps69 rfl (fun w0 F => ?_)
  refine W.seq ?_
  refine W.region ?_
  refine W.q (Ev.move (.t rfl)) rfl ?_
  refine W.q (Ev.nilc (.t rfl)) rfl ?_
  (refine W.q (Ev.fab (.t rfl) fa93_0) rfl ?_)
  (refine W.q (Ev.ldb1 0 (.t rfl) rfl ag90 rfl) rfl ?_)
  refine W.q (Ev.eqpn (.t rfl) Tryd.underlying90) rfl ?_
  refine W.nil ?_
  refine W.then ?_
  refine W.is (t := 6) (g := true) (av' := .lit (.bool true)) rfl (congrArg (fun b => AV.lit (.bool b)) (by rfl)) ?_
  refine W.condT (.t rfl) ?_
  refine W.region ?_
  refine W.q (Ev.move (.t rfl)) rfl ?_
  refine W.q (Ev.move (.t rfl)) rfl ?_
  (refine W.q (Ev.touns 0 (.t rfl) rfl Tryd.underlying90 Tryd.underlying128 ty93) rfl ?_)
  refine W.q (Ev.noesc Tryd.func88 (by kernel_rfl) (by kernel_rfl) (by kernel_rfl) (by kernel_rfl) (.t rfl)) rfl ?_
  (refine W.q (Ev.fromuns 0 (.t rfl) rfl Tryd.underlying128 Tryd.underlying90 ty93 (by kernel_rfl)) rfl ?_)
  refine W.q (Ev.nilc (.t rfl)) rfl ?_
  (refine W.q (Ev.fab (.t rfl) fa93_0) rfl ?_)
  (refine W.stb 0 (.t rfl) (.t rfl) rfl ty90 rfl rfl rfl ?_)
  refine W.nil ?_
  refine W.endn (M' := [.box b 93 _]) (rs := []) (avs := []) Tryd.results69 trivial rfl (.refl _) ?_
  exact ⟨rfl, rfl⟩

theorem c_ccUsed (b : Nat) (s : Value) : FnC Tryd.prog 69 [.lit (.pointer (some ⟨b, 0, none⟩))] [.box b 93 [.lit (.pointer (some ⟨b, 0, none⟩)), .lit s]] (fun r M => r = .tup [] ∧ M = [.box b 93 [.lit (.pointer (some ⟨b, 0, none⟩)), .lit s]]) :=  by
  refine FnC.mk Tryd.func69 (by kernel_rfl) rfl Tryd.ntmps69 rfl (fun w0 F => ?_)
  refine W.seq ?_
  refine W.region ?_
  refine W.q (Ev.move (.t rfl)) rfl ?_
  refine W.q (Ev.nilc (.t rfl)) rfl ?_
  (refine W.q (Ev.fab (.t rfl) fa93_0) rfl ?_)
  (refine W.q (Ev.ldb1 0 (.t rfl) rfl ag90 rfl) rfl ?_)
  refine W.q (Ev.eqpn (.t rfl) Tryd.underlying90) rfl ?_
  refine W.nil ?_
  refine W.then ?_
  refine W.is (t := 6) (g := true) (av' := .lit (.bool false)) rfl (congrArg (fun b => AV.lit (.bool b)) (by rfl)) ?_
  refine W.condF (.t rfl) ?_
  refine W.seq ?_
  refine W.region ?_
  refine W.q (Ev.move (.t rfl)) rfl ?_
  refine W.q (Ev.nilc (.t rfl)) rfl ?_
  (refine W.q (Ev.fab (.t rfl) fa93_0) rfl ?_)
  (refine W.q (Ev.ldb1 0 (.t rfl) rfl ag90 rfl) rfl ?_)
  refine W.q (Ev.move (.t rfl)) rfl ?_
  refine W.q (Ev.nep (.t rfl) (.t rfl) Tryd.underlying90 ty93) rfl ?_
  refine W.nil ?_
  refine W.then ?_
  refine W.condF (.t rfl) ?_
  refine W.skip ?_
  refine W.endn (M' := [.box b 93 _]) (rs := []) (avs := []) Tryd.results69 trivial rfl (.refl _) ?_
  exact ⟨rfl, rfl⟩

theorem c_copyCheck (b : Nat) (s : Value) (p : Option Addr) (hp : p = none ∨ p = some ⟨b, 0, none⟩) : FnC Tryd.prog 69 [.lit (.pointer (some ⟨b, 0, none⟩))] [.box b 93 [.lit (.pointer p), .lit s]] (fun r M => r = .tup [] ∧ M = [.box b 93 [.lit (.pointer (some ⟨b, 0, none⟩)), .lit s]]) := by
  rcases hp with rfl | rfl
  · exact c_ccNew b s
  · exact c_ccUsed b s

theorem c_String (b : Nat) (p : Option Addr) (v : Value) (l : List UInt8) (hp : p = none ∨ p = some ⟨b, 0, none⟩) (hl : l.length ≤ 17592186044416) (hv : v = .slice none 0 0 ∨ l ≠ []) : FnC Tryd.prog 50 [.lit (.pointer (some ⟨b, 0, none⟩))] [.box b 93 [.lit (.pointer p), .lit v], .arr v 5 1 (l.map AV.u8)] (fun r M => r = .str l ∧ M = []) :=  by
  refine FnC.mk Tryd.func50 (by kernel_rfl) rfl Tryd.ntmps50 rfl (fun w0 F => ?_)
  have hlm : (l.map AV.u8).length = l.length := List.length_map ..
  have hve : v = .slice none 0 0 ∨ l.map AV.u8 ≠ [] := hv.imp id (fun h h2 => h (List.map_eq_nil_iff.1 h2))
  refine W.seq ?_
  refine W.region ?_
  refine W.q (Ev.assign .k) rfl ?_
  refine W.nil ?_
  refine W.then ?_
  refine W.seq ?_
  refine W.drawnE (ι := Unit) (fun e c => [.box b 93 [.lit (.pointer p), .lit v], .arr (bif e 10 then deadOf v else v) 5 1 (bif e 10 then [] else l.map AV.u8)]) 10 () (by kernel_rfl) (by kernel_rfl) rfl ?_
  refine DE.q (fun e c hk => (Ev.move (.t rfl))) rfl (fun _ _ => rfl) (by (exact .inr (fun _ _ => rfl))) ?_
  refine DE.q (fun e c hk => (Ev.nilc (.t rfl))) rfl (fun _ _ => rfl) (by (exact .inr (fun _ _ => rfl))) ?_
  (refine DE.q (fun e c hk => (Ev.fab (.t rfl) fa93_1)) rfl (fun _ _ => rfl) (by (exact .inr (fun _ _ => rfl))) ?_)
  (refine DE.q (fun e c hk => (Ev.ldb1 0 (.t rfl) rfl ag91 rfl)) rfl (fun _ _ => rfl) (by (exact .inr (fun _ _ => rfl))) ?_)
  refine DE.q (av := fun _ => .lit (dataOf v)) (fun e c hk => by have h := hk.down 10 (by kernel_rfl); simp only [h, cond_false]; exact Ev.usd (i := 1) (.t rfl) rfl hve) rfl (fun _ _ => rfl) (by (exact .inr (fun _ _ => rfl))) ?_
  refine DE.q (fun e c hk => (Ev.move (.t rfl))) rfl (fun _ _ => rfl) (by (exact .inr (fun _ _ => rfl))) ?_
  refine DE.q (fun e c hk => (Ev.nilc (.t rfl))) rfl (fun _ _ => rfl) (by (exact .inr (fun _ _ => rfl))) ?_
  (refine DE.q (fun e c hk => (Ev.fab (.t rfl) fa93_1)) rfl (fun _ _ => rfl) (by (exact .inr (fun _ _ => rfl))) ?_)
  (refine DE.q (fun e c hk => (Ev.ldb1 0 (.t rfl) rfl ag91 rfl)) rfl (fun _ _ => rfl) (by (exact .inr (fun _ _ => rfl))) ?_)
  refine DE.q (av := fun _ => .lit (.int .i64 (l.length : Int))) (fun e c hk => by have h := hk.down 10 (by kernel_rfl); simp only [h, cond_false]; rw [← hlm]; exact Ev.lenar (i := 1) (.t rfl) rfl Tryd.underlying91) rfl (fun _ _ => rfl) (by (exact .inr (fun _ _ => rfl))) ?_
  refine DE.effc (av := fun _ => .str l) rfl (.inr fun _ _ => rfl) (fun e c hk L_ hs Q h => ?_) ?_
  · have hk_10 := hk.not
    simp only [addE, hk_10, ↓reduceIte, cond_true, cond_false] at h ⊢
    refine W.ustr 1 (.t (hs _ _ rfl)) (.t (hs _ _ rfl)) rfl hv Tryd.underlying111 (by kernel_rfl) (by omega) rfl ?_
    exact h
  refine DE.q (fun e c hk => (Ev.assign (.t rfl))) rfl (fun _ _ => rfl) (by (exact .inr (fun _ _ => rfl))) ?_
  refine DE.nil (fun c_ e_ he_ => ?_)
  simp only [he_ 10 (by decide), cond_true, cond_false]
  refine W.then ?_
  refine W.ret ?_
  refine W.retn (M' := []) (D := _) (rs := [.tmp 2]) (avs := [_]) Tryd.results50 ⟨rfl, trivial⟩ rfl (.refl _) ?_
  exact ⟨rfl, rfl⟩

end WBld

end Go.Proofs.YtlglnmafddnmmaaDoor
end

section
set_option linter.unusedVariables false
set_option linter.unusedSimpArgs false
set_option maxRecDepth 100000
namespace Go.Proofs.YtlglnmafddnmmaaDoor
open Go.Vl

namespace WStr
theorem ty5 : Ty Tryd.prog 5 1 1 (.int .u8 0) := Ty.of (by kernel_rfl)
theorem ty91 : Ty Tryd.prog 91 1 24 (.slice none 0 0) := Ty.of (by kernel_rfl)
theorem ag91 : IsAgg Tryd.prog 91 false := ⟨_, Tryd.underlying91, rfl⟩
theorem fa93_1 : FieldAt Tryd.prog 93 1 1 1 false := ⟨_, _, Tryd.underlying93, rfl, rfl, ty91.size, ag91, by decide⟩
theorem ni9 : NotInt Tryd.prog 9 := .inr Tryd.underlying9
theorem c_WriteString (b : Nat) (p : Option Addr) (v : Value) (l : List UInt8) (hp : p = none ∨ p = some ⟨b, 0, none⟩) (s : List UInt8) (hl : l.length + s.length ≤ 17592186044416) : FnC Tryd.prog 49 [.lit (.pointer (some ⟨b, 0, none⟩)), .str s] [.box b 93 [.lit (.pointer p), .lit v], .arr v 5 1 (l.map AV.u8)] (fun r M => r = .tup [.int (s.length : Int), .lit .nilIface] ∧ ∃ v', M = [.box b 93 [.lit (.pointer (some ⟨b, 0, none⟩)), .lit v'], .arr v' 5 1 ((l ++ s).map AV.u8)]) :=  by
  refine FnC.mk Tryd.func49 (by kernel_rfl) rfl Tryd.ntmps49 rfl (fun w0 F => ?_)
  have hlm : (l.map AV.u8).length = l.length := List.length_map ..
  have hsm : (s.map AV.u8).length = s.length := List.length_map ..
  refine W.seq ?_
  refine W.region ?_
  refine W.q (Ev.assign .k) rfl ?_
  refine W.q (Ev.assign .k) rfl ?_
  refine W.nil ?_
  refine W.then ?_
  refine W.seq ?_
  refine W.region ?_
  refine W.q (Ev.move (.t rfl)) rfl ?_
  refine W.call (WBld.c_copyCheck b v p hp) ⟨(.t rfl), trivial⟩ (.refl _) rfl ?_
  rintro _ _ ⟨rfl, rfl⟩
  refine W.nil ?_
  refine W.then ?_
  refine W.seq ?_
  refine W.region ?_
  refine W.q (Ev.move (.t rfl)) rfl ?_
  refine W.q (Ev.move (.t rfl)) rfl ?_
  refine W.q (Ev.nilc (.t rfl)) rfl ?_
  (refine W.q (Ev.fab (.t rfl) fa93_1) rfl ?_)
  (refine W.q (Ev.ldb1 0 (.t rfl) rfl ag91 rfl) rfl ?_)
  refine W.q (Ev.move (.t rfl)) rfl ?_
  (refine W.app 1 (.t rfl) rfl (.str (.t rfl)) Tryd.underlying91 ni9 ty5 rfl rfl (by rw [hlm, hsm]; omega) rfl ?_)
  intro v14
  refine W.arr_inv 1 rfl (fun a14 n14 c14 h14 => ?_)
  subst h14
  refine W.q (Ev.nilc (.t rfl)) rfl ?_
  (refine W.q (Ev.fab (.t rfl) fa93_1) rfl ?_)
  (refine W.stb 0 (.t rfl) (.t rfl) rfl ty91 rfl rfl rfl ?_)
  refine W.nil ?_
  refine W.then ?_
  refine W.seq ?_
  refine W.region ?_
  refine W.q (Ev.move (.t rfl)) rfl ?_
  refine W.q (Ev.lens (.t rfl) Tryd.underlying9) rfl ?_
  refine W.q (Ev.assign (.t rfl)) rfl ?_
  refine W.q (Ev.assign .k) rfl ?_
  refine W.nil ?_
  refine W.then ?_
  refine W.ret ?_
  refine W.retn (M' := [.box b 93 _, .arr _ 5 1 _]) (rs := [.tmp 4, .tmp 5]) (avs := [_, _]) Tryd.results49 ⟨rfl, rfl, trivial⟩ rfl (.refl _) ?_
  exact ⟨rfl, _, by rw [List.map_append]; rfl⟩

end WStr

end Go.Proofs.YtlglnmafddnmmaaDoor
end
