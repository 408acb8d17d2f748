/-
  Trees as text, without a program.
-/
import Derived.Test.YteepllfbnoaiaaaEmit
set_option linter.unusedVariables false
set_option linter.unusedSimpArgs false
namespace Go.Vl
namespace Nd
abbrev vd4 : List (List UInt8) := [[98, 114], [104, 114], [105, 109, 103], [105, 110, 112, 117, 116]]
abbrev voidB (n : List UInt8) : Bool := vd4.any fun r => n == r
abbrev shutB (n : List UInt8) : Bool := Tk.raws.any fun r => n == r
def sh1 (d : Nd) (sub : List UInt8) : List UInt8 := if d.name = [] then esc false d.text else if voidB d.name = true then tagS d.name d.attrs false else (((tagS d.name d.attrs false ++ sub) ++ [60, 47]) ++ d.name) ++ [62]
mutual
/-- a tree as text -/
def shn : Nd → List UInt8
  | mk _ _ _ q => shs q
def shs : List Nd → List UInt8
  | [] => []
  | d :: l => sh1 d (shn d) ++ shs l
end
theorem shn_eq (d : Nd) : shn d = shs d.parts := by cases d; rfl
theorem shs_append (l m : List Nd) : shs (l ++ m) = shs l ++ shs m := by
  induction l with
  | nil => rfl
  | cons d l ih => rw [List.cons_append, shs, shs, ih, List.append_assoc]
theorem shs_one (d : Nd) : shs [d] = sh1 d (shs d.parts) := by rw [shs, shs, List.append_nil, shn_eq]
theorem shs_snoc (l : List Nd) (i : Nat) (h : i < l.length) : shs (l.take (i + 1)) = shs (l.take i) ++ sh1 (l.getD i dflt) (shs (l.getD i dflt).parts) := by
  rw [take_getDG dflt l i h, shs_append, shs_one]
mutual
/-- what may be shown; k: not deeper than so; p: does a text stand ahead? -/
def sk : Nat → Nd → Prop
  | k, mk n a t q => 1 ≤ k ∧ ((n = [] ∧ a = [] ∧ q = [] ∧ t ≠ [] ∧ t.length ≤ 1000) ∨ (n ≠ [] ∧ nameOk n = true ∧ n.length ≤ 1000 ∧ okAt a ∧ (∀ x ∈ a, x.2.length ≤ 1000) ∧ t = [] ∧ (voidB n = true → q = []) ∧ shutB n = false ∧ sks (k - 1) false q))
def sks : Nat → Bool → List Nd → Prop
  | _, _, [] => True
  | k, p, d :: l => (d.name = [] → p = false) ∧ sk k d ∧ sks k (d.name == []) l
end
theorem sk_eq (k : Nat) (d : Nd) : sk k d ↔ 1 ≤ k ∧ ((d.name = [] ∧ d.attrs = [] ∧ d.parts = [] ∧ d.text ≠ [] ∧ d.text.length ≤ 1000) ∨ (d.name ≠ [] ∧ nameOk d.name = true ∧ d.name.length ≤ 1000 ∧ okAt d.attrs ∧ (∀ x ∈ d.attrs, x.2.length ≤ 1000) ∧ d.text = [] ∧ (voidB d.name = true → d.parts = []) ∧ shutB d.name = false ∧ sks (k - 1) false d.parts)) := by cases d; rfl
theorem sks_append (k : Nat) (l m : List Nd) : ∀ p, sks k p (l ++ m) ↔ sks k p l ∧ sks k (lastT p l) m := by
  induction l with
  | nil => intro p; simp [sks, lastT_nil]
  | cons d l ih => intro p; rw [List.cons_append, sks, sks, ih, lastT_cons, and_assoc, and_assoc]
theorem sks_false {k : Nat} {p : Bool} {l : List Nd} (h : sks k p l) : sks k false l := by
  cases l with
  | nil => trivial
  | cons t l => exact ⟨fun _ => rfl, h.2⟩
theorem sks_take {k : Nat} {l : List Nd} (i : Nat) (h : sks k false l) : sks k false (l.take i) ∧ sks k false (l.drop i) := by
  rw [← List.take_append_drop i l, sks_append] at h
  exact ⟨h.1, sks_false h.2⟩
theorem sks_at {k : Nat} {l : List Nd} (h : sks k false l) (i : Nat) (hi : i < l.length) : sk k (l.getD i dflt) ∧ ((l.getD i dflt).name = [] → (decide ((0 : Int) < (i : Int)) && ((l.getD (i - 1) dflt).name == [])) = false) := by
  rw [← List.take_append_drop i l, drop_getDG dflt l i hi, sks_append] at h
  have h2 := h.2
  rw [lastT_take l i (by omega)] at h2
  exact ⟨h2.2.1, h2.1⟩
theorem vd2_facts : vd2.all (fun s => (nameOk s && decide (s.length ≤ 3)) && (voidB s && !(shutB s))) = true := by kernel_rfl
theorem el6_facts : el6.all (fun s => (nameOk s && decide (s.length ≤ 3)) && (!(voidB s) && !(shutB s))) = true := by kernel_rfl
theorem href_ok : nameOk href = true := by kernel_rfl
theorem okAt_href (v : List UInt8) : okAt [(href, v)] := ⟨by simp, fun a ha => by rw [List.mem_singleton.1 ha]; exact ⟨href_ok, (by decide : href.length ≤ 1000)⟩, fun i hi => by
  have : i = 0 := by simp at hi; omega
  subst this; rfl⟩
theorem sks_of : ∀ (n k : Nat) (p : Bool) (l : List Nd), szs l ≤ n → 1 ≤ k → drs k p l → sks k p l
  | n, k, p, [], _, _, _ => trivial
  | 0, k, p, d :: l, hn, _, _ => by rw [szs, sz_eq] at hn; omega
  | n + 1, k, p, d :: l, hn, hk, h => by
    rw [szs, sz_eq] at hn
    obtain ⟨h1, h2, h3⟩ := h
    refine ⟨h1, ?_, sks_of n k _ l (by omega) hk h3⟩
    rw [dr_eq] at h2
    rw [sk_eq]
    refine ⟨hk, ?_⟩
    rcases h2 with ⟨b1, b2, b3, b4⟩ | ⟨b1, b2, b3, b4⟩ | ⟨b1, b2, b3, b4, b5, b6⟩
    · exact .inl ⟨b1, b2, b4, ne_tx6 _ b3, by have : d.text.length ≤ 5 := (by decide : ∀ t ∈ tx6, t.length ≤ 5) _ b3; omega⟩
    · have hf := List.all_eq_true.1 vd2_facts _ b1
      simp only [Bool.and_eq_true, decide_eq_true_eq, Bool.not_eq_true'] at hf
      exact .inr ⟨ne_vd2 _ b1, hf.1.1, by omega, b2 ▸ okAt_nil, by rw [b2]; simp, b3, fun _ => b4, hf.2.2, by rw [b4]; trivial⟩
    · have hf := List.all_eq_true.1 el6_facts _ b1
      simp only [Bool.and_eq_true, decide_eq_true_eq, Bool.not_eq_true'] at hf
      refine .inr ⟨ne_el6 _ b1, hf.1.1, by omega, ?_, ?_, b3, fun h => (by rw [hf.2.1] at h; cases h), hf.2.2, sks_of n _ _ d.parts (by omega) (by omega) b5⟩
      · rcases b2 with b2 | ⟨v, _, b2⟩
        · rw [b2]; exact okAt_nil
        · rw [b2]; exact okAt_href v
      · rcases b2 with b2 | ⟨v, hv, b2⟩
        · rw [b2]; simp
        · rw [b2]; intro x hx; rw [List.mem_singleton.1 hx]
          have : v.length ≤ 8 := (by decide : ∀ t ∈ vl5, t.length ≤ 8) _ hv
          show v.length ≤ 1000; omega
/-- a part's text is no longer than that of all -/
theorem shs_take_len (l : List Nd) (i : Nat) : (shs (l.take i)).length ≤ (shs l).length := by
  have := congrArg List.length (shs_append (l.take i) (l.drop i))
  rw [List.take_append_drop, List.length_append] at this; omega
theorem tagS_len (n : List UInt8) (a : List Dc) (hn : n.length ≤ 1000) (ha : okAt a) (hv : ∀ x ∈ a, x.2.length ≤ 1000) : (tagS n a false).length ≤ 30000 := by
  have h := Tk.flat_len attrS 7004 a (fun x hx => by
    have h1 := (ha.all x hx).2
    have h2 := hv x hx
    have h3 := esc_len true x.2
    simp only [attrS, List.length_append, List.length_cons, List.length_nil]; omega)
  have h2 := ha.len
  simp only [tagS, List.length_append, List.length_cons, List.length_nil, Bool.false_eq_true, if_false]; omega
theorem sh1_len (k : Nat) (d : Nd) (sub : List UInt8) (h : sk k d) : (sh1 d sub).length ≤ 32000 + sub.length := by
  rw [sk_eq] at h
  unfold sh1
  rcases h.2 with ⟨b1, b2, b3, b4, b5⟩ | ⟨b1, b2, b3, b4, b5, b6, b7, b8, b9⟩
  · rw [if_pos b1]; have := esc_len false d.text; omega
  · have := tagS_len d.name d.attrs b3 b4 b5
    rw [if_neg b1]
    split
    · omega
    · simp only [List.length_append, List.length_cons, List.length_nil]; omega
theorem shs_len : ∀ (n k : Nat) (p : Bool) (l : List Nd), szs l ≤ n → sks k p l → (shs l).length ≤ 32000 * szs l
  | n, k, p, [], _, _ => Nat.zero_le _
  | 0, k, p, d :: l, hn, _ => by rw [szs, sz_eq] at hn; omega
  | n + 1, k, p, d :: l, hn, h => by
    have es := sz_eq d
    rw [szs] at hn
    obtain ⟨h1, h2, h3⟩ := h
    have g1 := shs_len n k _ l (by omega) h3
    have g2 : (shs d.parts).length ≤ 32000 * szs d.parts := by
      rw [sk_eq] at h2
      rcases h2.2 with ⟨b1, b2, b3, b4, b5⟩ | ⟨b1, b2, b3, b4, b5, b6, b7, b8, b9⟩
      · rw [b3]; exact Nat.zero_le _
      · exact shs_len n _ _ d.parts (by omega) b9
    have g3 := sh1_len k d (shs d.parts) h2
    rw [shs, szs, List.length_append, shn_eq]; omega
/-- how many nodes -/
theorem cnts_le4 : ∀ (n k : Nat) (p : Bool) (l : List Nd) (b : Nat), szs l ≤ n → drs k p l → (k = 1 ∧ b = 1 ∨ k = 2 ∧ b = 5 ∨ k = 3 ∧ b = 21) → cnts l ≤ b * l.length
  | n, k, p, [], b, _, _, _ => Nat.zero_le _
  | 0, k, p, d :: l, b, hn, _, _ => by rw [szs, sz_eq] at hn; omega
  | n + 1, k, p, d :: l, b, hn, h, hb => by
    have es := sz_eq d
    rw [szs] at hn
    obtain ⟨h1, h2, h3⟩ := h
    have g1 := cnts_le4 n k _ l b (by omega) h3 hb
    have g2 : cnts d.parts + 1 ≤ b := by
      rw [dr_eq] at h2
      rcases h2 with ⟨b1, b2, b3, b4⟩ | ⟨b1, b2, b3, b4⟩ | ⟨b1, b2, b3, b4, b5, b6⟩
      · rw [b4]; simp only [cnts]; omega
      · rw [b4]; simp only [cnts]; omega
      · rcases hb with ⟨rfl, rfl⟩ | ⟨rfl, rfl⟩ | ⟨rfl, rfl⟩
        · omega
        · have := cnts_le4 n 1 _ d.parts 1 (by omega) b5 (.inl ⟨rfl, rfl⟩); omega
        · have := cnts_le4 n 2 _ d.parts 5 (by omega) b5 (.inr (.inl ⟨rfl, rfl⟩)); omega
    rw [cnts, cnt_eq, List.length_cons, Nat.mul_add]; omega
theorem shs_em (ns : List Nd) : shs [mk [101, 109] [] [] ns] = ([60, 101, 109, 62] ++ shs ns) ++ [60, 47, 101, 109, 62] := by
  have e : tagS (name (mk [101, 109] [] [] ns)) (attrs (mk [101, 109] [] [] ns)) false = [60, 101, 109, 62] := rfl
  rw [shs_one, sh1, if_neg (by simp [name_mk]), if_neg (by rw [name_mk]; decide), e, parts_mk, name_mk]
  simp
theorem sks_em (ns : List Nd) (h : sks 3 false ns) : sks 4 false [mk [101, 109] [] [] ns] := ⟨fun _ => rfl, (sk_eq _ _).2 ⟨by decide, .inr ⟨by simp [name_mk], (by kernel_rfl : nameOk [101, 109] = true), (by decide : ([101, 109] : List UInt8).length ≤ 1000), okAt_nil, fun x hx => (nomatch hx), rfl, fun h => absurd (show voidB [101, 109] = true from h) (by decide), (by decide : shutB [101, 109] = false), h⟩⟩, trivial⟩
theorem sks_br : sks 1 false [mk [98, 114] [] [] []] := ⟨fun _ => rfl, (sk_eq _ _).2 ⟨by decide, .inr ⟨by simp [name_mk], (by kernel_rfl : nameOk [98, 114] = true), (by decide : ([98, 114] : List UInt8).length ≤ 1000), okAt_nil, fun x hx => (nomatch hx), rfl, fun h => rfl, (by decide : shutB [98, 114] = false), trivial⟩⟩, trivial⟩
end Nd
end Go.Vl
