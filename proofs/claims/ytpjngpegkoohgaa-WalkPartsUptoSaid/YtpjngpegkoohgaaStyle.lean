/-
  Declarations, without a program: each name once, with its last value.
-/
import Derived.Test.YtpjngpegkoohgaaStr
set_option linter.unusedVariables false
set_option linter.unusedSimpArgs false
namespace Go.Vl
abbrev Dc := List UInt8 × List UInt8
abbrev dav (d : Dc) : AV := .agg [.str d.1, .str d.2]
theorem getD_mapG {α : Type} (f : α → AV) (z : α) (l : List α) (i : Nat) (h : i < l.length) : (l.map f)[i]? = some (f (l.getD i z)) := by
  rw [List.getD_eq_getElem?_getD, List.getElem?_map, List.getElem?_eq_getElem h]; rfl
theorem getD_memG {α : Type} (z : α) (l : List α) (i : Nat) (h : i < l.length) : l.getD i z ∈ l := by
  rw [List.getD_eq_getElem?_getD, List.getElem?_eq_getElem h]; exact List.getElem_mem h
theorem take_getDG {α : Type} (z : α) (l : List α) (i : Nat) (h : i < l.length) : l.take (i + 1) = l.take i ++ [l.getD i z] := by
  rw [List.take_add_one, List.getD_eq_getElem?_getD, List.getElem?_eq_getElem h]; rfl
theorem drop_getDG {α : Type} (z : α) (l : List α) (i : Nat) (h : i < l.length) : l.drop i = l.getD i z :: l.drop (i + 1) := by
  rw [List.drop_eq_getElem_cons h, List.getD_eq_getElem?_getD, List.getElem?_eq_getElem h]; rfl
theorem pick_mod (l : List (List UInt8)) (z : Int) (n : Nat) (h : l.length = n) (hn : 0 < n) : ∃ s ∈ l, (l.map AV.str)[(z % (n : Int)).toNat]? = some (.str s) := by
  have h1 := Int.emod_nonneg z (show (n : Int) ≠ 0 by omega)
  have h2 := Int.emod_lt_of_pos z (show (0 : Int) < n by omega)
  exact ⟨_, getD_memG [] l _ (by omega), getD_mapG AV.str [] l _ (by omega)⟩
theorem any_take_false {α : Type} (p : α → Bool) (l : List α) (h : ∀ d ∈ l, p d = false) : l.any p = false := by
  rw [List.any_eq_false]; intro d hd; rw [h d hd]; simp
def only (ns : List (List UInt8)) : List Dc → List Dc
  | [] => []
  | d :: t => if (ns.any fun s => d.1 == s) && !(t.any fun e => e.1 == d.1) then d :: only ns t else only ns t
theorem only_mem (ns : List (List UInt8)) : ∀ (l : List Dc) (e : Dc), e ∈ only ns l → e ∈ l ∧ (ns.any fun s => e.1 == s) = true
  | [], e, h => by simp [only] at h
  | d :: t, e, h => by
    unfold only at h
    split at h
    · rename_i hc
      rcases List.mem_cons.1 h with rfl | h
      · simp only [Bool.and_eq_true] at hc; exact ⟨by simp, hc.1⟩
      · have := only_mem ns t e h; exact ⟨by simp [this.1], this.2⟩
    · have := only_mem ns t e h; exact ⟨by simp [this.1], this.2⟩
theorem only_any (ns : List (List UInt8)) (l : List Dc) (n : List UInt8) (h : (l.any fun e => e.1 == n) = false) : ((only ns l).any fun e => e.1 == n) = false := by
  rw [List.any_eq_false] at h ⊢
  exact fun e he => h e (only_mem ns l e he).1
theorem only_idem (ns : List (List UInt8)) : ∀ l : List Dc, only ns (only ns l) = only ns l
  | [] => rfl
  | d :: t => by
    rw [only]
    split
    · rename_i hc
      simp only [Bool.and_eq_true, Bool.not_eq_true'] at hc
      rw [only, if_pos (by rw [hc.1, only_any ns t d.1 hc.2]; rfl), only_idem ns t]
    · exact only_idem ns t
def lastv (n : List UInt8) (l : List Dc) : List UInt8 := match (l.filter fun d => d.1 == n).getLast? with
  | some d => d.2
  | none => []
theorem only_filter (ns : List (List UInt8)) (n : List UInt8) (hn : (ns.any fun s => n == s) = true) : ∀ l : List Dc, (only ns l).filter (fun d => d.1 == n) = ((l.filter fun d => d.1 == n).getLast?).toList
  | [] => rfl
  | d :: t => by
    have ih := only_filter ns n hn t
    by_cases hd : d.1 = n
    · have hdb : (d.1 == n) = true := by simp [hd]
      rw [List.filter_cons_of_pos (by simpa using hd)]
      by_cases hl : (t.any fun e => e.1 == d.1) = true
      · rw [only, if_neg (by simp [hl]), ih]
        have hne : t.filter (fun d => d.1 == n) ≠ [] := by
          rw [List.any_eq_true] at hl
          obtain ⟨e, he, hee⟩ := hl
          intro h
          have : e ∈ t.filter (fun d => d.1 == n) := List.mem_filter.2 ⟨he, by rw [hd] at hee; exact hee⟩
          rw [h] at this; cases this
        obtain ⟨a, r, har⟩ := List.exists_cons_of_ne_nil hne
        rw [har, List.getLast?_cons_cons]
      · rw [Bool.not_eq_true] at hl
        rw [only, if_pos (by rw [hd, hn, ← hd, hl]; rfl), List.filter_cons_of_pos (by simpa using hd), ih]
        have hnil : t.filter (fun d => d.1 == n) = [] := by
          rw [List.filter_eq_nil_iff]
          rw [List.any_eq_false] at hl
          intro e he
          rw [← hd]; exact hl e he
        rw [hnil]; rfl
    · have hdb : (d.1 == n) = false := by simp [hd]
      rw [List.filter_cons_of_neg (by simpa using hd), only]
      split
      · rw [List.filter_cons_of_neg (by simpa using hd), ih]
      · exact ih
theorem only_once (ns : List (List UInt8)) (n : List UInt8) (hn : (ns.any fun s => n == s) = true) (l : List Dc) : ((only ns l).filter fun d => d.1 == n).length ≤ 1 ∧ lastv n (only ns l) = lastv n l := by
  have h := only_filter ns n hn l
  constructor
  · rw [h]; cases (l.filter fun d => d.1 == n).getLast? <;> simp
  · unfold lastv; rw [h]; cases (l.filter fun d => d.1 == n).getLast? <;> rfl
theorem two_filters (m n : List UInt8) : ∀ l : List Dc, (∀ e ∈ l, e.1 = m ∨ e.1 = n) → l.length ≤ (l.filter fun d => d.1 == m).length + (l.filter fun d => d.1 == n).length
  | [], _ => by simp
  | d :: t, h => by
    have ih := two_filters m n t (fun e he => h e (by simp [he]))
    rcases h d (by simp) with hd | hd
    · rw [List.filter_cons_of_pos (p := fun (d : Dc) => d.1 == m) (by simpa using hd)]
      simp only [List.filter_cons]
      split <;> simp only [List.length_cons] <;> omega
    · rw [List.filter_cons_of_pos (p := fun (d : Dc) => d.1 == n) (by simpa using hd)]
      simp only [List.filter_cons]
      split <;> simp only [List.length_cons] <;> omega
abbrev nmc : List UInt8 := [99, 111, 108, 111, 114]
abbrev nma : List UInt8 := [97, 45, 98]
abbrev nms : List (List UInt8) := [nmc, nma]
theorem only_two (l : List Dc) : (only nms l).length ≤ 2 := by
  have h := two_filters nmc nma (only nms l) (fun e he => by
    have := (only_mem nms l e he).2
    simpa using this)
  have h1 := (only_once nms nmc (by decide) l).1
  have h2 := (only_once nms nma (by decide) l).1
  omega
theorem lastv_hit (n : List UInt8) (l : List Dc) (i : Nat) (h : i < l.length) (hn : (l.getD i ([], [])).1 = n) : lastv n (l.take (i + 1)) = (l.getD i ([], [])).2 := by
  unfold lastv
  rw [take_getDG ([], []) l i h, List.filter_append, List.filter_cons_of_pos (by simpa using hn), List.filter_nil, List.getLast?_concat]
theorem lastv_miss (n : List UInt8) (l : List Dc) (i : Nat) (h : i < l.length) (hn : (l.getD i ([], [])).1 ≠ n) : lastv n (l.take (i + 1)) = lastv n (l.take i) := by
  unfold lastv
  rw [take_getDG ([], []) l i h, List.filter_append, List.filter_cons_of_neg (by simpa using hn), List.filter_nil, List.append_nil]
theorem lastv_first (n : List UInt8) (l : List Dc) (i : Nat) (h : i < l.length) (hn : (l.getD i ([], [])).1 = n) (h1 : (l.filter fun d => d.1 == n).length ≤ 1) : lastv n (l.take i) = [] := by
  have e : l = l.take i ++ l.getD i ([], []) :: l.drop (i + 1) := by rw [← drop_getDG ([], []) l i h, List.take_append_drop]
  have e2 := congrArg (fun l => (List.filter (fun d : Dc => d.1 == n) l).length) e
  simp only [List.filter_append, List.length_append] at e2
  rw [List.filter_cons_of_pos (by simpa using hn), List.length_cons] at e2
  have : (l.take i).filter (fun d => d.1 == n) = [] := List.eq_nil_of_length_eq_zero (by omega)
  unfold lastv
  rw [this]; rfl
theorem dec_list_eq (a b : List Dc) (h : a.length = b.length) (hs : ∀ j, j < a.length → a.getD j ([], []) = b.getD j ([], [])) : a = b := by
  refine List.ext_getElem h (fun j h1 h2 => ?_)
  have := hs j h1
  rw [List.getD_eq_getElem?_getD, List.getD_eq_getElem?_getD, List.getElem?_eq_getElem h1, List.getElem?_eq_getElem h2] at this
  exact this
theorem only_step (ns : List (List UInt8)) (l : List Dc) (i : Nat) (h : i < l.length) : only ns (l.drop i) = (if (ns.any fun s => (l.getD i ([], [])).1 == s) && !((l.drop (i + 1)).any fun e => e.1 == (l.getD i ([], [])).1) then [l.getD i ([], [])] else []) ++ only ns (l.drop (i + 1)) := by
  rw [drop_getDG ([], []) l i h, only]
  split <;> rfl
end Go.Vl
