/-
  Expressions, without a program: how long their texts are, that texts that are printed are read again, and which words are meant.
-/
import Derived.Test.YthhkionhimbekaaExpr
set_option linter.unusedVariables false
set_option linter.unusedSimpArgs false
namespace Go.Vl
namespace Ex
def sumL (l : List (List UInt8)) : Nat := (l.map List.length).sum
theorem sumL_append (l m : List (List UInt8)) : sumL (l ++ m) = sumL l + sumL m := by simp [sumL]
theorem sumL_cons (s : List UInt8) (m : List (List UInt8)) : sumL (s :: m) = s.length + sumL m := by simp [sumL]
theorem joinW_len (sep : List UInt8) : ∀ l : List (List UInt8), (joinW sep l).length + sep.length = sumL l + l.length * sep.length + (if l = [] then sep.length else 0)
  | [] => by simp [joinW, sumL]
  | [s] => by simp [joinW, sumL]
  | s :: t :: l => by
    have ih := joinW_len sep (t :: l)
    simp only [joinW, List.length_append, sumL_cons, List.length_cons, reduceCtorEq, if_false, Nat.add_zero, Nat.add_mul] at ih ⊢
    omega
theorem joinW_nil (l : List (List UInt8)) : joinW [] l = l.flatten := by
  induction l with
  | nil => rfl
  | cons s l ih =>
    cases l with
    | nil => simp [joinW]
    | cons t l => rw [joinW, ih]; simp
theorem joinW_cons (sep s : List UInt8) (l : List (List UInt8)) : joinW sep (s :: l) = s ++ l.flatMap (fun t => sep ++ t) := by
  induction l generalizing s with
  | nil => simp [joinW]
  | cons t l ih => rw [joinW, ih]; simp
theorem par2 (q : Ex) : par 2 q ↔ q.kind = 3 := by unfold par; omega
theorem par3 (q : Ex) : ¬ par 3 q := by unfold par; omega
theorem par4 {k : Int} (hk : 4 ≤ k) (q : Ex) : par k q ↔ (q.kind = 3 ∨ q.kind = 2) := by unfold par; omega
theorem ptx1_par4 {k : Int} (hk : 4 ≤ k) (q : Ex) : ptx1 k q = ptx1 4 q := by
  unfold ptx1
  by_cases h : (q.kind = 3 ∨ q.kind = 2)
  · rw [if_pos ((par4 hk q).2 h), if_pos ((par4 (by omega) q).2 h)]
  · rw [if_neg (fun h' => h ((par4 hk q).1 h')), if_neg (fun h' => h ((par4 (by omega) q).1 h'))]
theorem txt_le2 (q : Ex) : (txt q).length ≤ (ptx1 2 q).length := by
  unfold ptx1; split <;> simp <;> omega
theorem ptx24 (q : Ex) : (ptx1 2 q).length ≤ (ptx1 4 q).length := by
  unfold ptx1
  by_cases h : q.kind = 3
  · rw [if_pos ((par2 q).2 h), if_pos ((par4 (by omega) q).2 (.inl h))]; exact Nat.le_refl _
  · rw [if_neg (fun h' => h ((par2 q).1 h'))]; split <;> simp <;> omega
theorem ptx1_3 (q : Ex) : ptx1 3 q = txt q := if_neg (par3 q)
theorem txt2 {q : Ex} (h : q.kind = 2) : txt q = (q.parts.map (ptx1 2)).flatten := by
  rw [txt_eq, if_neg (by omega), if_pos h, h, joinW_nil]
theorem txt3 {q : Ex} (h : q.kind = 3) : txt q = joinW [124] (q.parts.map txt) := by
  rw [txt_eq, if_neg (by omega), if_neg (by omega), if_pos h, h]
  congr 1
  exact List.map_congr_left fun q _ => ptx1_3 q
theorem txt4 {q : Ex} (h : 4 ≤ q.kind) : txt q = (q.parts.map (ptx1 4)).flatten ++ [sgn q.kind] := by
  rw [txt_eq, if_neg (by omega), if_neg (by omega), if_neg (by omega), joinW_nil]
  congr 2
  exact List.map_congr_left fun q _ => ptx1_par4 h q
theorem flat_len2 (l : List Ex) : sumL ((flat 2 l).map (ptx1 2)) = sumL (l.map (ptx1 2)) := by
  induction l with
  | nil => rfl
  | cons d l ih =>
    rw [show flat 2 (d :: l) = (if d.kind = 2 then d.parts else [d]) ++ flat 2 l from rfl, List.map_append, sumL_append, ih, List.map_cons, sumL_cons]
    congr 1
    split
    · rename_i e
      have h : ptx1 2 d = txt d := if_neg (by rw [par2]; omega)
      rw [h, txt2 e, sumL, List.length_flatten]
    · simp [sumL]
theorem tog2_len (l : List Ex) : (txt (tog 2 l)).length ≤ sumL (l.map (ptx1 2)) := by
  have hf := flat_len2 l
  rcases tog_cases 2 l with ⟨x, rfl, e⟩ | ⟨h1, y, h2, e⟩ | ⟨h1, h2, e⟩
  · rw [e]; simpa [sumL] using txt_le2 x
  · rw [e, ← hf, h2]; simpa [sumL] using txt_le2 y
  · rw [e, ← hf, txt2 rfl, List.length_flatten]; exact Nat.le_refl _
def cost (l : List Ex) : Nat := sumL (l.map txt) + l.length
theorem cost_append (l m : List Ex) : cost (l ++ m) = cost l + cost m := by simp [cost, sumL_append]; omega
theorem joinW_cost (l : List Ex) (h : l ≠ []) : (joinW [124] (l.map txt)).length + 1 = cost l := by
  have := joinW_len [124] (l.map txt)
  rw [if_neg (by simpa using h)] at this
  simp only [List.length_map, List.length_singleton, Nat.mul_one, Nat.add_zero] at this
  exact this
theorem flat_cost (l : List Ex) (h : ∀ q ∈ l, ok q) : cost (flat 3 l) = cost l := by
  induction l with
  | nil => rfl
  | cons d l ih =>
    have ih := ih fun q hq => h q (List.mem_cons_of_mem _ hq)
    rw [show flat 3 (d :: l) = (if d.kind = 3 then d.parts else [d]) ++ flat 3 l from rfl, cost_append, ih, show d :: l = [d] ++ l from rfl, cost_append]
    congr 1
    split
    · rename_i e
      have hp : d.parts ≠ [] := by
        rcases ((ok_iff d).1 (h d List.mem_cons_self)).1 with h1 | h1 | h1 | h1
        · omega
        · omega
        · intro h'; rw [h'] at h1; simp at h1
        · omega
      rw [← joinW_cost _ hp, ← txt3 e]; simp [cost, sumL]
    · rfl
theorem tog3_len (l : List Ex) (h : ∀ q ∈ l, ok q) (hl : l ≠ []) : (txt (tog 3 l)).length + 1 ≤ cost l := by
  have hf := flat_cost l h
  rcases tog_cases 3 l with ⟨x, rfl, e⟩ | ⟨h1, y, h2, e⟩ | ⟨h1, h2, e⟩
  · rw [e]; simp [cost, sumL]
  · rw [e, ← hf, h2]; simp [cost, sumL]
  · have hn : flat 3 l ≠ [] := by
      intro h'; have := flat3_len l h; rw [h'] at this
      exact hl (List.eq_nil_of_length_eq_zero (by simpa using this))
    rw [e, txt3 rfl, show (mk 3 0 (flat 3 l)).parts = flat 3 l from rfl, joinW_cost _ hn, hf]; exact Nat.le_refl _
theorem sfe_len : ∀ (sf : List Nat) (x : Ex), (ptx1 4 (sfe x sf)).length ≤ (ptx1 4 x).length + sf.length
  | [], x => by simp [sfe]
  | k :: sf, x => by
    have h := sfe_len sf (.mk (4 + (k : Int)) 0 [x])
    have h1 : ptx1 4 (.mk (4 + (k : Int)) 0 [x]) = ptx1 4 x ++ [sgn (4 + (k : Int))] := by
      unfold ptx1
      rw [if_neg (by rw [par4 (by omega)]; simp only [kind]; omega), txt4 (by simp only [kind]; omega)]
      simp [parts, kind]; rfl
    rw [h1] at h
    show (ptx1 4 (sfe (.mk (4 + (k : Int)) 0 [x]) sf)).length ≤ _
    simp only [List.length_append, List.length_cons, List.length_nil] at h ⊢
    omega
end Ex
namespace It
theorem sev_sum (s : List It) (h : ∀ i ∈ s, (Ex.ptx1 4 i.ev).length ≤ (tx i).length) : Ex.sumL ((sev s).map (Ex.ptx1 2)) ≤ (stx s).length := by
  induction s with
  | nil => simp [sev, Ex.sumL]
  | cons i s ih =>
    have h1 := ih fun j hj => h j (List.mem_cons_of_mem _ hj)
    have h2 := h i List.mem_cons_self
    have h3 := Ex.ptx24 i.ev
    rw [sev, List.map_cons, Ex.sumL_cons, stx, List.length_append]
    omega
theorem sq_len' (s : List It) (h : ∀ i ∈ s, (Ex.ptx1 4 i.ev).length ≤ (tx i).length) : (Ex.txt (sq s)).length ≤ (stx s).length :=
  Nat.le_trans (Ex.tog2_len _) (sev_sum s h)
theorem aev_cost (a : List (List It)) (h : ∀ t ∈ a, (Ex.txt (sq t)).length ≤ (stx t).length) : Ex.cost (aev a) ≤ (atl a).length := by
  induction a with
  | nil => simp [aev, Ex.cost, Ex.sumL]
  | cons t a ih =>
    have h1 := ih fun j hj => h j (List.mem_cons_of_mem _ hj)
    have h2 := h t List.mem_cons_self
    rw [aev, show sq t :: aev a = [sq t] ++ aev a from rfl, Ex.cost_append, atl, List.length_cons, List.length_append]
    simp only [Ex.cost, Ex.sumL, List.map_cons, List.map_nil, List.sum_cons, List.sum_nil, List.length_singleton] at h1 ⊢
    omega
theorem al_len' (s : List It) (a : List (List It)) (hs : oks s) (ha : oka a) (h : (Ex.txt (sq s)).length ≤ (stx s).length) (h' : ∀ t ∈ a, (Ex.txt (sq t)).length ≤ (stx t).length) : (Ex.txt (al s a)).length ≤ (stx s ++ atl a).length := by
  have h1 := Ex.tog3_len (sq s :: aev a) (fun q hq => by
    rcases List.mem_cons.1 hq with rfl | hq
    · exact sq_ok s hs
    · rw [aev_map] at hq
      obtain ⟨t, ht, rfl⟩ := List.mem_map.1 hq
      exact sq_ok t ((oka_iff a).1 ha t ht)) (by simp)
  have h2 := aev_cost a h'
  rw [show sq s :: aev a = [sq s] ++ aev a from rfl, Ex.cost_append] at h1
  rw [List.length_append]
  have h3 : Ex.cost [sq s] = (Ex.txt (sq s)).length + 1 := by simp [Ex.cost, Ex.sumL]
  rw [h3] at h1
  show (Ex.txt (Ex.tog 3 ([sq s] ++ aev a))).length ≤ _
  omega
theorem it_len : ∀ i : It, ok i → (Ex.ptx1 4 i.ev).length ≤ (tx i).length := by
  refine rec' ?_ ?_
  · intro n sf h
    have h1 := Ex.sfe_len sf (.mk 1 n [])
    have h2 : Ex.ptx1 4 (.mk 1 (n : Int) []) = [97 + UInt8.ofNat n] := by
      unfold Ex.ptx1
      rw [if_neg (by rw [Ex.par4 (by omega)]; simp [Ex.kind]), Ex.txt_eq, if_pos (show (Ex.mk 1 (n : Int) []).kind = 1 from rfl)]; simp [Ex.type]
    rw [h2] at h1
    rw [ev, tx]
    simp only [List.length_cons, List.length_map, List.length_nil] at h1 ⊢
    omega
  · intro s a sf h1 h2 h
    simp only [ok] at h
    have hs := (oks_iff s).1 h.1.1
    have ha := (oka_iff a).1 h.1.2
    have h3 := al_len' s a h.1.1 h.1.2 (sq_len' s fun i hi => h1 i hi (hs i hi)) fun t ht => sq_len' t fun i hi => h2 t ht i hi ((oks_iff t).1 (ha t ht) i hi)
    have h4 := Ex.sfe_len sf (al s a)
    have h5 : (Ex.ptx1 4 (al s a)).length ≤ (Ex.txt (al s a)).length + 2 := by unfold Ex.ptx1; split <;> simp
    rw [ev, tx]
    simp only [List.length_cons, List.length_append, List.length_map] at h3 h4 h5 ⊢
    show (Ex.ptx1 4 (Ex.sfe (al s a) sf)).length ≤ _
    omega
theorem al_len (s : List It) (a : List (List It)) (hs : oks s) (ha : oka a) : (Ex.txt (al s a)).length ≤ (stx s ++ atl a).length :=
  al_len' s a hs ha (sq_len' s fun i hi => it_len i ((oks_iff s).1 hs i hi)) fun t ht => sq_len' t fun i hi => it_len i ((oks_iff t).1 ((oka_iff a).1 ha t ht) i hi)
/-- a sign more -/
def adds : It → Nat → It
  | ch n sf, k => ch n (sf ++ [k])
  | gr s a sf, k => gr s a (sf ++ [k])
theorem adds_ev (i : It) (k : Nat) : (adds i k).ev = .mk (4 + (k : Int)) 0 [i.ev] := by
  cases i <;> (rw [adds, ev, ev, Ex.sfe_append]; rfl)
theorem adds_tx (i : It) (k : Nat) : tx (adds i k) = tx i ++ [sg k] := by
  cases i <;> simp [adds, tx]
theorem adds_ok (i : It) (k : Nat) (h : ok i) (hk : k < 3) : ok (adds i k) := by
  cases i <;> (simp only [adds, ok] at h ⊢; exact ⟨h.1, fun j hj => by rcases List.mem_append.1 hj with hj | hj; exact h.2 j hj; rw [List.mem_singleton.1 hj]; exact hk⟩)
theorem exists_its (l : List Ex) (h : ∀ d ∈ l, ∃ i : It, ok i ∧ tx i = Ex.ptx1 4 d ∧ i.ev = d) : ∃ s : List It, oks s ∧ stx s = (l.map (Ex.ptx1 4)).flatten ∧ sev s = l := by
  induction l with
  | nil => exact ⟨[], trivial, rfl, rfl⟩
  | cons d l ih =>
    obtain ⟨s, h1, h2, h3⟩ := ih fun e he => h e (List.mem_cons_of_mem _ he)
    obtain ⟨i, g1, g2, g3⟩ := h d List.mem_cons_self
    exact ⟨i :: s, ⟨g1, h1⟩, by rw [stx, g2, h2]; rfl, by rw [sev, g3, h3]⟩
theorem exists_sqs (l : List Ex) (h : ∀ d ∈ l, ∃ s : List It, oks s ∧ stx s = Ex.txt d ∧ sq s = d) : ∃ a : List (List It), oka a ∧ atl a = (l.map Ex.txt).flatMap (fun t => [124] ++ t) ∧ aev a = l := by
  induction l with
  | nil => exact ⟨[], trivial, rfl, rfl⟩
  | cons d l ih =>
    obtain ⟨a, h1, h2, h3⟩ := ih fun e he => h e (List.mem_cons_of_mem _ he)
    obtain ⟨s, g1, g2, g3⟩ := h d List.mem_cons_self
    exact ⟨s :: a, ⟨g1, h1⟩, by rw [atl, g2, h2]; simp, by rw [aev, h3]; exact congrArg (· :: l) g3⟩
theorem exists_all : ∀ x : Ex, Ex.ok x → (∃ i : It, ok i ∧ tx i = Ex.ptx1 4 x ∧ i.ev = x) ∧ (x.kind ≠ 3 → ∃ s, oks s ∧ stx s = Ex.txt x ∧ sq s = x) ∧ (∃ s a, oks s ∧ oka a ∧ stx s ++ atl a = Ex.txt x ∧ al s a = x) := by
  refine Ex.rec' fun x ih hx => ?_
  obtain ⟨h1, h2⟩ := (Ex.ok_iff x).1 hx
  have hits := exists_its x.parts fun d hd => (ih d hd (h2 d hd)).1
  have alof : ∀ s, oks s → stx s = Ex.txt x → sq s = x → ∃ s a, oks s ∧ oka a ∧ stx s ++ atl a = Ex.txt x ∧ al s a = x := fun s a1 a2 a3 => ⟨s, [], a1, trivial, by simpa [atl] using a2, by simp only [al, aev]; rw [a3]; rfl⟩
  have one : ∀ i : It, ok i → tx i = Ex.txt x → i.ev = x → (∃ s, oks s ∧ stx s = Ex.txt x ∧ sq s = x) := fun i a1 a2 a3 => ⟨[i], ⟨a1, trivial⟩, by rw [stx, stx, a2, List.append_nil], by simp only [sq, sev]; rw [a3]; rfl⟩
  have grp : ∀ s a, oks s → oka a → stx s ++ atl a = Ex.txt x → al s a = x → (x.kind = 3 ∨ x.kind = 2) → ∃ i : It, ok i ∧ tx i = Ex.ptx1 4 x ∧ i.ev = x := fun s a a1 a2 a3 a4 a5 => by
    refine ⟨gr s a [], ⟨⟨a1, a2⟩, by simp⟩, ?_, by rw [ev]; exact a4⟩
    unfold Ex.ptx1
    rw [if_pos ((Ex.par4 (by omega) x).2 a5), tx, ← a3]; simp
  have npar : x.kind ≠ 3 → x.kind ≠ 2 → Ex.ptx1 4 x = Ex.txt x := fun a b => by
    unfold Ex.ptx1
    rw [if_neg (by rw [Ex.par4 (by omega)]; omega)]
  rcases h1 with ⟨k1, k2, k3, k4⟩ | ⟨k1, k2, k3, k4⟩ | ⟨k1, k2, k3, k4⟩ | ⟨k1, k2, k3, k4⟩
  · have ex : (ch x.type.toNat []).ev = x := by
      cases x with | mk k t p =>
        simp only [Ex.kind, Ex.parts, Ex.type] at k1 k2 k3 k4 ⊢
        subst k1 k2
        rw [ev, show ((t.toNat : Nat) : Int) = t from by omega]; rfl
    have et : tx (ch x.type.toNat []) = Ex.txt x := by rw [Ex.txt_eq, if_pos k1, tx]; rfl
    have eo : ok (ch x.type.toNat []) := by simp only [ok]; exact ⟨by omega, by simp⟩
    obtain ⟨s, a1, a2, a3⟩ := one _ eo et ex
    exact ⟨⟨_, eo, by rw [npar (by omega) (by omega), et], ex⟩, fun _ => ⟨s, a1, a2, a3⟩, alof s a1 a2 a3⟩
  · obtain ⟨s, a1, a2, a3⟩ := hits
    have ex : sq s = x := by
      simp only [sq]; rw [a3]
      rcases Ex.tog_cases 2 x.parts with ⟨y, h, _⟩ | ⟨_, y, h, _⟩ | ⟨_, _, h⟩
      · rw [h] at k3; simp at k3
      · rw [Ex.flat_self 2 _ k4] at h; rw [h] at k3; simp at k3
      · rw [h, Ex.flat_self 2 _ k4]
        cases x with | mk k t p => simp only [Ex.kind, Ex.type] at k1 k2; subst k1 k2; rfl
    have et : stx s = Ex.txt x := by
      rw [a2, Ex.txt2 k1]
      congr 1
      refine List.map_congr_left fun q hq => ?_
      have hq2 := k4 q hq
      unfold Ex.ptx1
      by_cases h : q.kind = 3
      · rw [if_pos ((Ex.par2 q).2 h), if_pos ((Ex.par4 (by omega) q).2 (.inl h))]
      · rw [if_neg (show ¬ Ex.par 2 q from by rw [Ex.par2]; exact h), if_neg (show ¬ Ex.par 4 q from by rw [Ex.par4 (by omega)]; omega)]
    obtain ⟨s', a', b1, b2, b3, b4⟩ := alof s a1 et ex
    exact ⟨grp s' a' b1 b2 b3 b4 (.inr k1), fun _ => ⟨s, a1, et, ex⟩, ⟨s', a', b1, b2, b3, b4⟩⟩
  · obtain ⟨p0, pr, hp⟩ : ∃ p0 pr, x.parts = p0 :: pr := List.exists_cons_of_ne_nil (by intro h; rw [h] at k3; simp at k3)
    have hp0 : p0 ∈ x.parts := by rw [hp]; exact List.mem_cons_self
    obtain ⟨s, s1, s2, s3⟩ := (ih p0 hp0 (h2 p0 hp0)).2.1 (k4 p0 hp0)
    obtain ⟨a, a1, a2, a3⟩ := exists_sqs pr fun d hd => by
      have hd' : d ∈ x.parts := by rw [hp]; exact List.mem_cons_of_mem _ hd
      exact (ih d hd' (h2 d hd')).2.1 (k4 d hd')
    have ex : al s a = x := by
      show Ex.tog 3 (sq s :: aev a) = x
      rw [s3, a3, ← hp]
      rcases Ex.tog_cases 3 x.parts with ⟨y, h, _⟩ | ⟨_, y, h, _⟩ | ⟨_, _, h⟩
      · rw [h] at k3; simp at k3
      · rw [Ex.flat_self 3 _ k4] at h; rw [h] at k3; simp at k3
      · rw [h, Ex.flat_self 3 _ k4]
        cases x with | mk k t p => simp only [Ex.kind, Ex.type] at k1 k2; subst k1 k2; rfl
    have et : stx s ++ atl a = Ex.txt x := by
      rw [Ex.txt3 k1, hp, List.map_cons, Ex.joinW_cons, s2, a2]
    exact ⟨grp s a s1 a1 et ex (.inl k1), fun h => absurd k1 h, ⟨s, a, s1, a1, et, ex⟩⟩
  · obtain ⟨q, hp⟩ : ∃ q, x.parts = [q] := by
      match h : x.parts, k4 with
      | [q], _ => exact ⟨q, rfl⟩
    have hq : q ∈ x.parts := by rw [hp]; exact List.mem_cons_self
    obtain ⟨i, i1, i2, i3⟩ := (ih q hq (h2 q hq)).1
    obtain ⟨k, hk, hk3⟩ : ∃ k : Nat, x.kind = 4 + (k : Int) ∧ k < 3 := ⟨(x.kind - 4).toNat, by omega, by omega⟩
    have ex : (adds i k).ev = x := by
      rw [adds_ev, i3]
      cases x with | mk k t p => simp only [Ex.kind, Ex.type, Ex.parts] at hk k3 hp; subst hk k3 hp; rfl
    have et : tx (adds i k) = Ex.txt x := by
      rw [adds_tx, i2, Ex.txt4 k1, hp, hk]
      simp only [List.map_cons, List.map_nil, List.flatten_cons, List.flatten_nil, List.append_nil]
      congr 2
      unfold sg Ex.sgn
      rcases (show k = 0 ∨ k = 1 ∨ k = 2 from by omega) with rfl | rfl | rfl <;> rfl
    have eo := adds_ok i k i1 hk3
    obtain ⟨s, a1, a2, a3⟩ := one _ eo et ex
    exact ⟨⟨_, eo, by rw [npar (by omega) (by omega), et], ex⟩, fun _ => ⟨s, a1, a2, a3⟩, alof s a1 a2 a3⟩
/-- WHAT IS PRINTED IS READ AGAIN. -/
theorem printed (x : Ex) (h : Ex.ok x) : ∃ s a, oks s ∧ oka a ∧ stx s ++ atl a = Ex.txt x ∧ al s a = x := (exists_all x h).2.2
end It

/-! ### which words are meant -/
abbrev Lg := List Int → Prop
namespace Lg
def one (n : Int) : Lg := fun w => w = [n]
def eps : Lg := fun w => w = []
def none : Lg := fun _ => False
def cat (A B : Lg) : Lg := fun w => ∃ u v, w = u ++ v ∧ A u ∧ B v
def alt (A B : Lg) : Lg := fun w => A w ∨ B w
inductive star (A : Lg) : Lg
  | nil : star A []
  | cons (u v : List Int) : A u → star A v → star A (u ++ v)
theorem ext {A B : Lg} (h : ∀ w, A w ↔ B w) : A = B := funext fun w => propext (h w)
theorem star_one {A : Lg} {u : List Int} (h : A u) : star A u := by simpa using star.cons u [] h .nil
theorem star_append {A : Lg} {u v : List Int} (hu : star A u) (hv : star A v) : star A (u ++ v) := by
  induction hu with
  | nil => simpa using hv
  | cons a b ha _ ih => rw [List.append_assoc]; exact .cons a _ ha ih
theorem star_mono {A B : Lg} (h : ∀ w, A w → B w) {w : List Int} (hw : star A w) : star B w := by
  induction hw with
  | nil => exact .nil
  | cons u v hu _ ih => exact .cons u v (h u hu) ih
theorem star_star {A : Lg} {w : List Int} (h : star (star A) w) : star A w := by
  induction h with
  | nil => exact .nil
  | cons u v hu _ ih => exact star_append hu ih
theorem cat_assoc (A B C : Lg) : cat (cat A B) C = cat A (cat B C) := ext fun w => by
  constructor
  · rintro ⟨_, v, rfl, ⟨a, b, rfl, ha, hb⟩, hv⟩; exact ⟨a, b ++ v, by simp, ha, b, v, rfl, hb, hv⟩
  · rintro ⟨a, _, rfl, ha, ⟨b, c, rfl, hb, hc⟩⟩; exact ⟨a ++ b, c, by simp, ⟨a, b, rfl, ha, hb⟩, hc⟩
theorem cat_eps (A : Lg) : cat A eps = A := ext fun w => ⟨by rintro ⟨a, _, rfl, ha, rfl⟩; simpa using ha, fun h => ⟨w, [], by simp, h, rfl⟩⟩
theorem eps_cat (A : Lg) : cat eps A = A := ext fun w => ⟨by rintro ⟨_, a, rfl, rfl, ha⟩; simpa using ha, fun h => ⟨[], w, rfl, rfl, h⟩⟩
theorem alt_none (A : Lg) : alt A none = A := ext fun w => by simp [alt, none]
theorem alt_assoc (A B C : Lg) : alt (alt A B) C = alt A (alt B C) := ext fun w => or_assoc
theorem alt_comm (A B : Lg) : alt A B = alt B A := ext fun w => or_comm
theorem cat_alt (A B C : Lg) : cat A (alt B C) = alt (cat A B) (cat A C) := ext fun w => by
  constructor
  · rintro ⟨u, v, rfl, hu, hv | hv⟩
    · exact .inl ⟨u, v, rfl, hu, hv⟩
    · exact .inr ⟨u, v, rfl, hu, hv⟩
  · rintro (⟨u, v, rfl, hu, hv⟩ | ⟨u, v, rfl, hu, hv⟩)
    · exact ⟨u, v, rfl, hu, .inl hv⟩
    · exact ⟨u, v, rfl, hu, .inr hv⟩
theorem star_unfold (A : Lg) : star A = alt eps (cat A (star A)) := ext fun w => by
  constructor
  · intro h
    cases h with
    | nil => exact .inl rfl
    | cons u v hu hv => exact .inr ⟨u, v, rfl, hu, hv⟩
  · rintro (h | ⟨u, v, rfl, hu, hv⟩)
    · rw [h]; exact .nil
    · exact .cons u v hu hv
/-- one or the other so often as one likes -/
theorem star_alt (A B : Lg) : star (alt A B) = cat (star (cat (star A) B)) (star A) := ext fun w => by
  constructor
  · intro h
    induction h with
    | nil => exact ⟨[], [], rfl, .nil, .nil⟩
    | cons u v hu _ ih =>
      obtain ⟨p, q, rfl, hp, hq⟩ := ih
      rcases hu with hu | hu
      · cases hp with
        | nil => exact ⟨[], u ++ q, by simp, .nil, .cons u q hu hq⟩
        | cons r s hr hs =>
          obtain ⟨a, b, rfl, ha, hb⟩ := hr
          exact ⟨(u ++ a ++ b) ++ s, q, by simp, .cons _ s ⟨u ++ a, b, rfl, .cons u a hu ha, hb⟩ hs, hq⟩
      · exact ⟨u ++ p, q, by simp, .cons u p ⟨[], u, rfl, .nil, hu⟩ hp, hq⟩
  · rintro ⟨p, q, rfl, hp, hq⟩
    refine star_append ?_ (star_mono (fun _ h => .inl h) hq)
    refine star_star (star_mono ?_ hp)
    rintro _ ⟨a, b, rfl, ha, hb⟩
    exact star_append (star_mono (fun _ h => .inl h) ha) (star_one (.inr hb))
end Lg
namespace Ex
mutual
def lg : Ex → Lg
  | mk k t p => if k = 1 then Lg.one t else if k = 2 then seqs p else if k = 3 then alts p else if k = 4 then Lg.star (alts p) else if k = 5 then Lg.cat (alts p) (Lg.star (alts p)) else Lg.alt Lg.eps (alts p)
def seqs : List Ex → Lg
  | [] => Lg.eps
  | q :: l => Lg.cat (lg q) (seqs l)
def alts : List Ex → Lg
  | [] => Lg.none
  | q :: l => Lg.alt (lg q) (alts l)
end
theorem lg_eq (x : Ex) : lg x = if x.kind = 1 then Lg.one x.type else if x.kind = 2 then seqs x.parts else if x.kind = 3 then alts x.parts else if x.kind = 4 then Lg.star (alts x.parts) else if x.kind = 5 then Lg.cat (alts x.parts) (Lg.star (alts x.parts)) else Lg.alt Lg.eps (alts x.parts) := by
  cases x; rw [lg]; rfl
theorem lg2 (t : Int) (p : List Ex) : lg (mk 2 t p) = seqs p := by rw [lg, if_neg (by decide), if_pos rfl]
theorem lg3 (t : Int) (p : List Ex) : lg (mk 3 t p) = alts p := by rw [lg, if_neg (by decide), if_neg (by decide), if_pos rfl]
theorem seqs_append (l m : List Ex) : seqs (l ++ m) = Lg.cat (seqs l) (seqs m) := by
  induction l with
  | nil => rw [List.nil_append, seqs, Lg.eps_cat]
  | cons d l ih => rw [List.cons_append, seqs, seqs, ih, Lg.cat_assoc]
theorem alts_append (l m : List Ex) : alts (l ++ m) = Lg.alt (alts l) (alts m) := by
  induction l with
  | nil => rw [List.nil_append, alts]; exact Lg.ext fun w => by simp [Lg.alt, Lg.none]
  | cons d l ih => rw [List.cons_append, alts, alts, ih, Lg.alt_assoc]
theorem seqs_one (x : Ex) : seqs [x] = lg x := by rw [seqs, seqs, Lg.cat_eps]
theorem alts_one (x : Ex) : alts [x] = lg x := by rw [alts, alts, Lg.alt_none]
theorem seqs_flat (l : List Ex) : seqs (flat 2 l) = seqs l := by
  induction l with
  | nil => rfl
  | cons d l ih =>
    rw [show flat 2 (d :: l) = (if d.kind = 2 then d.parts else [d]) ++ flat 2 l from rfl, seqs_append, ih, seqs]
    congr 1
    split
    · rename_i e; rw [lg_eq, if_neg (by omega), if_pos e]
    · exact seqs_one d
theorem alts_flat (l : List Ex) : alts (flat 3 l) = alts l := by
  induction l with
  | nil => rfl
  | cons d l ih =>
    rw [show flat 3 (d :: l) = (if d.kind = 3 then d.parts else [d]) ++ flat 3 l from rfl, alts_append, ih, alts]
    congr 1
    split
    · rename_i e; rw [lg_eq, if_neg (by omega), if_neg (by omega), if_pos e]
    · exact alts_one d
theorem lg_tog2 (l : List Ex) : lg (tog 2 l) = seqs l := by
  rcases tog_cases 2 l with ⟨x, rfl, e⟩ | ⟨h1, y, h2, e⟩ | ⟨h1, h2, e⟩
  · rw [e, seqs_one]
  · rw [e, ← seqs_flat, h2, seqs_one]
  · rw [e, lg2]; exact seqs_flat l
theorem lg_tog3 (l : List Ex) : lg (tog 3 l) = alts l := by
  rcases tog_cases 3 l with ⟨x, rfl, e⟩ | ⟨h1, y, h2, e⟩ | ⟨h1, h2, e⟩
  · rw [e, alts_one]
  · rw [e, ← alts_flat, h2, alts_one]
  · rw [e, lg3]; exact alts_flat l
end Ex
/-- what a sign makes of words -/
def Lg.sfl (A : Lg) (k : Nat) : Lg := if k = 0 then Lg.star A else if k = 1 then Lg.cat A (Lg.star A) else Lg.alt Lg.eps A
theorem Ex.lg_sfe : ∀ (sf : List Nat) (x : Ex), lg (sfe x sf) = sf.foldl Lg.sfl (lg x)
  | [], x => rfl
  | k :: sf, x => by
    have h := lg_sfe sf (.mk (4 + (k : Int)) 0 [x])
    show lg (sfe (.mk (4 + (k : Int)) 0 [x]) sf) = _
    rw [h, List.foldl_cons]
    congr 1
    rw [lg, if_neg (by omega), if_neg (by omega), if_neg (by omega), alts_one]
    unfold Lg.sfl
    by_cases h0 : k = 0
    · rw [if_pos (by omega), if_pos h0]
    · rw [if_neg (by omega), if_neg h0]
      by_cases h1 : k = 1
      · rw [if_pos (by omega), if_pos h1]
      · rw [if_neg (by omega), if_neg h1]
namespace It
mutual
def lg : It → Lg
  | ch n sf => sf.foldl Lg.sfl (Lg.one n)
  | gr s a sf => sf.foldl Lg.sfl (Lg.alt (slg s) (alg a))
def slg : List It → Lg
  | [] => Lg.eps
  | i :: s => Lg.cat (lg i) (slg s)
def alg : List (List It) → Lg
  | [] => Lg.none
  | s :: a => Lg.alt (slg s) (alg a)
end
theorem slg_append (s t : List It) : slg (s ++ t) = Lg.cat (slg s) (slg t) := by
  induction s with
  | nil => rw [List.nil_append, slg, Lg.eps_cat]
  | cons d l ih => rw [List.cons_append, slg, slg, ih, Lg.cat_assoc]
theorem lg_sq' (s : List It) (h : ∀ i ∈ s, Ex.lg i.ev = lg i) : Ex.lg (sq s) = slg s := by
  simp only [sq]
  rw [Ex.lg_tog2]
  induction s with
  | nil => rfl
  | cons i s ih => rw [sev, Ex.seqs, slg, h i List.mem_cons_self, ih fun j hj => h j (List.mem_cons_of_mem _ hj)]
theorem lg_aev' (a : List (List It)) (h : ∀ t ∈ a, Ex.lg (sq t) = slg t) : Ex.alts (aev a) = alg a := by
  induction a with
  | nil => rfl
  | cons t a ih => rw [aev, Ex.alts, alg, ih fun j hj => h j (List.mem_cons_of_mem _ hj)]; congr 1; exact h t List.mem_cons_self
theorem lg_ev : ∀ i : It, Ex.lg i.ev = lg i := by
  refine rec' ?_ ?_
  · intro n sf
    rw [ev, Ex.lg_sfe, lg, Ex.lg, if_pos rfl]
  · intro s a sf h1 h2
    rw [ev, Ex.lg_sfe, lg, Ex.lg_tog3, Ex.alts]
    congr 2
    · exact lg_sq' s h1
    · exact lg_aev' a fun t ht => lg_sq' t (h2 t ht)
theorem lg_sq (s : List It) : Ex.lg (sq s) = slg s := lg_sq' s fun i _ => lg_ev i
/-- WHAT IS WRITTEN IS MEANT. -/
theorem lg_al (s : List It) (a : List (List It)) : Ex.lg (al s a) = Lg.alt (slg s) (alg a) := by
  simp only [al]
  rw [Ex.lg_tog3, Ex.alts, lg_sq, lg_aev' a fun t _ => lg_sq t]
end It
end Go.Vl
