/-
  Tokens as text, without a program.
-/
import Derived.Test.YthhkionhimbekaaDrawn
set_option linter.unusedVariables false
set_option linter.unusedSimpArgs false
namespace Go.Vl
/-- a byte, escaped -/
def esc1 (q : Bool) (c : UInt8) : List UInt8 := if c = 38 then [38, 97, 109, 112, 59] else if c = 60 then [38, 108, 116, 59] else if c = 62 then [38, 103, 116, 59] else if c = 34 ∧ q = true then [38, 113, 117, 111, 116, 59] else [c]
def esc (q : Bool) (s : List UInt8) : List UInt8 := s.flatMap (esc1 q)
theorem esc1_len (q : Bool) (c : UInt8) : 1 ≤ (esc1 q c).length ∧ (esc1 q c).length ≤ 6 := by
  unfold esc1; split; decide; split; decide; split; decide; split; decide; exact ⟨Nat.le_refl _, by simp⟩
theorem esc_len (q : Bool) : ∀ s : List UInt8, s.length ≤ (esc q s).length ∧ (esc q s).length ≤ 6 * s.length
  | [] => by simp [esc]
  | c :: s => by
    have h1 := esc1_len q c
    have h2 := esc_len q s
    have e : esc q (c :: s) = esc1 q c ++ esc q s := by simp [esc]
    rw [e, List.length_append, List.length_cons]; omega
theorem esc_snoc (q : Bool) (s : List UInt8) (i : Nat) (h : i < s.length) : esc q (s.take (i + 1)) = esc q (s.take i) ++ esc1 q (s.getD i 0) := by
  rw [take_getDG 0 s i h, esc, List.flatMap_append]; simp [esc]
theorem esc_append (q : Bool) (s t : List UInt8) : esc q (s ++ t) = esc q s ++ esc q t := by simp [esc]
theorem esc_ne (q : Bool) (s : List UInt8) (h : s ≠ []) : esc q s ≠ [] := by
  intro h0
  have := (esc_len q s).1
  rw [h0] at this
  exact h (List.eq_nil_of_length_eq_zero (by simpa using this))
theorem u8_is (c : UInt8) (n : Nat) (hn : n < 256) (h : (((c.toNat : Nat) : Int) == ((n : Nat) : Int)) = true) : c = UInt8.ofNat n := by
  have h1 : c.toNat = n := by have := beq_iff_eq.1 h; omega
  apply UInt8.toNat_inj.1
  rw [h1]; simp [Nat.mod_eq_of_lt hn]
theorem u8_isnt (c : UInt8) (n : Nat) (hn : n < 256) (h : (((c.toNat : Nat) : Int) == ((n : Nat) : Int)) = false) : c ≠ UInt8.ofNat n := by
  rintro rfl
  simp [Nat.mod_eq_of_lt hn] at h
/-- a token -/
structure Tk where
  kind : Int
  name : List UInt8
  attrs : List Dc
  self : Bool
  text : List UInt8
abbrev tav (t : Tk) : AV := .agg [.int t.kind, .str t.name, .sl 2 (t.attrs.map dav), .bool t.self, .str t.text]
def attrS (a : Dc) : List UInt8 := (([32] ++ a.1) ++ [61, 34] ++ esc true a.2) ++ [34]
def tagS (name : List UInt8) (attrs : List Dc) (self : Bool) : List UInt8 := (([60] ++ name) ++ attrs.flatMap attrS ++ (if self then [47] else [])) ++ [62]
theorem tagS_ne (name : List UInt8) (attrs : List Dc) (self : Bool) : tagS name attrs self ≠ [] := by simp [tagS]
/-- attributes that may be -/
structure okAt (l : List Dc) : Prop where
  len : l.length ≤ 4
  all : ∀ a ∈ l, nameOk a.1 = true ∧ a.1.length ≤ 1000
  one : ∀ i, i < l.length → ((l.take i).any fun b => (l.getD i ([], [])).1 == b.1) = false
theorem okAt_nil : okAt [] := ⟨Nat.zero_le _, by simp, by simp⟩
namespace Tk
abbrev dfl : Tk := ⟨0, [], [], false, []⟩
def txt (t : Tk) : List UInt8 := if t.kind = 1 then tagS t.name t.attrs t.self else if t.kind = 2 then ([60, 47] ++ t.name) ++ [62] else esc false t.text
def txts (l : List Tk) : List UInt8 := l.flatMap txt
abbrev nm5 : List (List UInt8) := [[112], [98], [105], [108, 105], [104, 45, 49]]
abbrev tx7 : List (List UInt8) := [[120], [97, 60, 98], [38, 97, 109, 112, 59], [34, 113, 34], [60, 112, 62], [32, 62, 32], [38, 35, 54, 48, 59]]
abbrev vl6 : List (List UInt8) := [[], [120], [97, 34, 98], [60, 38, 62], [97, 32, 98], [38, 108, 116, 59]]
abbrev at2 : List (List UInt8) := [[99, 108, 97, 115, 115], [104, 114, 101, 102]]
abbrev raws : List (List UInt8) := [[115, 99, 114, 105, 112, 116], [115, 116, 121, 108, 101], [116, 101, 120, 116, 97, 114, 101, 97], [116, 105, 116, 108, 101]]
theorem nm5_ok : nm5.all (fun s => nameOk s && decide (s.length ≤ 3)) = true := by kernel_rfl
theorem at2_ok : at2.all (fun s => nameOk s && decide (s.length ≤ 5)) = true := by kernel_rfl
theorem nm5_raw : ∀ s ∈ nm5, (raws.any fun r => s == r) = false := by decide
/-- a token that is drawn -/
def drawn (t : Tk) : Prop := (t.kind = 1 ∧ t.name ∈ nm5 ∧ (t.attrs.map (·.1) = at2.take t.attrs.length ∧ ∀ a ∈ t.attrs, a.2 ∈ vl6) ∧ t.text = []) ∨ (t.kind = 2 ∧ t.name ∈ nm5 ∧ t.attrs = [] ∧ t.self = false ∧ t.text = []) ∨ (t.kind = 3 ∧ t.name = [] ∧ t.attrs = [] ∧ t.self = false ∧ t.text ∈ tx7)
def drawns : Bool → List Tk → Prop
  | _, [] => True
  | p, t :: l => (t.kind = 3 → p = false) ∧ drawn t ∧ drawns (t.kind == 3) l
def lastK (p : Bool) (l : List Tk) : Bool := match l.getLast? with
  | none => p
  | some t => t.kind == 3
theorem lastK_snoc (p : Bool) (l : List Tk) (t : Tk) : lastK p (l ++ [t]) = (t.kind == 3) := by simp [lastK]
theorem lastK_cons (p : Bool) (t : Tk) (l : List Tk) : lastK p (t :: l) = lastK (t.kind == 3) l := by
  rcases List.eq_nil_or_concat l with rfl | ⟨m, e, rfl⟩
  · simp [lastK]
  · rw [List.concat_eq_append, ← List.cons_append, lastK_snoc, lastK_snoc]
theorem lastK_take (l : List Tk) (i : Nat) (h : i ≤ l.length) : lastK false (l.take i) = (decide ((0 : Int) < (i : Int)) && ((l.getD (i - 1) dfl).kind == 3)) := by
  rcases Nat.eq_zero_or_pos i with h0 | h0
  · subst h0; simp [lastK]
  · have e : i = (i - 1) + 1 := by omega
    have h1 : decide ((0 : Int) < (i : Int)) = true := decide_eq_true (by omega)
    rw [h1, Bool.true_and]
    conv => lhs; rw [e]
    rw [take_getDG dfl l (i - 1) (by omega), lastK_snoc]
theorem drawns_append (l m : List Tk) : ∀ p, drawns p (l ++ m) ↔ drawns p l ∧ drawns (lastK p l) m := by
  induction l with
  | nil => intro p; simp [drawns, lastK]
  | cons d l ih => intro p; rw [List.cons_append, drawns, drawns, ih, lastK_cons, and_assoc, and_assoc]
theorem drawns_false {p : Bool} {l : List Tk} (h : drawns p l) : drawns false l := by
  cases l with
  | nil => trivial
  | cons t l => exact ⟨fun _ => rfl, h.2⟩
theorem drawns_take {l : List Tk} (k : Nat) (h : drawns false l) : drawns false (l.take k) ∧ drawns false (l.drop k) := by
  rw [← List.take_append_drop k l, drawns_append] at h
  exact ⟨h.1, drawns_false h.2⟩
theorem drawns_at {l : List Tk} (h : drawns false l) (i : Nat) (hi : i < l.length) : drawn (l.getD i dfl) ∧ ((l.getD i dfl).kind = 3 → (decide ((0 : Int) < (i : Int)) && ((l.getD (i - 1) dfl).kind == 3)) = false) := by
  rw [← List.take_append_drop i l, drop_getDG dfl l i hi, drawns_append] at h
  have h2 := h.2
  rw [lastK_take l i (by omega)] at h2
  exact ⟨h2.2.1, h2.1⟩
theorem drawn_at {t : Tk} (h : drawn t) : okAt t.attrs ∧ t.name.length ≤ 3 ∧ (t.kind ≤ 2 → nameOk t.name = true) ∧ (1 ≤ t.kind ∧ t.kind ≤ 4) := by
  rcases h with ⟨h1, h2, ⟨h3, h4⟩, h5⟩ | ⟨h1, h2, h3, h4, h5⟩ | ⟨h1, h2, h3, h4, h5⟩
  · have hn := List.all_eq_true.1 nm5_ok _ h2
    simp only [Bool.and_eq_true, decide_eq_true_eq] at hn
    have hl : t.attrs.length ≤ 2 := by
      have := congrArg List.length h3
      rw [List.length_map, List.length_take] at this
      have : t.attrs.length ≤ at2.length := by omega
      exact this
    refine ⟨⟨by omega, ?_, ?_⟩, hn.2, fun _ => hn.1, by omega⟩
    · intro a ha
      have : a.1 ∈ at2 := List.mem_of_mem_take (h3 ▸ List.mem_map_of_mem ha)
      have hn := List.all_eq_true.1 at2_ok _ this
      simp only [Bool.and_eq_true, decide_eq_true_eq] at hn
      exact ⟨hn.1, by omega⟩
    · intro i hi
      generalize t.attrs = l at h3 hl hi
      match l, hl with
      | [], _ => simp at hi
      | [a], _ => have : i = 0 := by simp at hi; omega
                  subst this; rfl
      | [a, b], _ =>
        simp only [List.map_cons, List.map_nil, List.length_cons, List.length_nil] at h3
        have e1 : a.1 = at2.getD 0 [] := by have := congrArg (fun l => l.getD 0 []) h3; simpa using this
        have e2 : b.1 = at2.getD 1 [] := by have := congrArg (fun l => l.getD 1 []) h3; simpa using this
        have : i = 0 ∨ i = 1 := by simp at hi; omega
        rcases this with rfl | rfl
        · rfl
        · simp only [List.take_succ_cons, List.take_zero, List.any_cons, List.any_nil, Bool.or_false, List.getD_cons_succ, List.getD_cons_zero]
          rw [e1, e2]; decide
  · have hn := List.all_eq_true.1 nm5_ok _ h2
    simp only [Bool.and_eq_true, decide_eq_true_eq] at hn
    exact ⟨h3 ▸ okAt_nil, hn.2, fun _ => hn.1, by omega⟩
  · exact ⟨h3 ▸ okAt_nil, by rw [h2]; decide, fun h => by omega, by omega⟩
theorem flat_len {α : Type} (f : α → List UInt8) (n : Nat) : ∀ l : List α, (∀ a ∈ l, (f a).length ≤ n) → (l.flatMap f).length ≤ n * l.length
  | [], _ => by simp
  | a :: l, h => by
    have h1 := h a (by simp)
    have h2 := flat_len f n l (fun b hb => h b (by simp [hb]))
    rw [List.flatMap_cons, List.length_append, List.length_cons, Nat.mul_add]; omega
theorem attr_len (a : Dc) (h1 : a.1 ∈ at2) (h2 : a.2 ∈ vl6) : (attrS a).length ≤ 22 := by
  have e1 : a.1.length ≤ 5 := (by decide : ∀ s ∈ at2, s.length ≤ 5) _ h1
  have e2 : (esc true a.2).length ≤ 13 := (by decide : ∀ s ∈ vl6, (esc true s).length ≤ 13) _ h2
  simp only [attrS, List.length_append, List.length_cons, List.length_nil]; omega
theorem txt_len {t : Tk} (h : drawn t) : (txt t).length ≤ 50 := by
  have hd := drawn_at h
  rcases h with ⟨h1, h2, ⟨h3, h4⟩, h5⟩ | ⟨h1, h2, h3, h4, h5⟩ | ⟨h1, h2, h3, h4, h5⟩
  · rw [txt, if_pos h1]
    have hl : t.attrs.length ≤ 2 := by
      have := congrArg List.length h3
      rw [List.length_map, List.length_take] at this
      have : t.attrs.length ≤ at2.length := by omega
      exact this
    have := flat_len attrS 22 t.attrs (fun a ha => attr_len a (List.mem_of_mem_take (h3 ▸ List.mem_map_of_mem ha)) (h4 a ha))
    have hs : (if t.self = true then ([47] : List UInt8) else []).length ≤ 1 := by split <;> decide
    simp only [tagS, List.length_append, List.length_cons, List.length_nil]; omega
  · rw [txt, if_neg (by rw [h1]; decide), if_pos h1]
    simp only [List.length_append, List.length_cons, List.length_nil]; omega
  · rw [txt, if_neg (by rw [h1]; decide), if_neg (by rw [h1]; decide)]
    have : (esc false t.text).length ≤ 9 := (by decide : ∀ s ∈ tx7, (esc false s).length ≤ 9) _ h5
    omega
theorem txt_ne {t : Tk} (h : drawn t) : txt t ≠ [] := by
  rcases h with ⟨h1, _⟩ | ⟨h1, _⟩ | ⟨h1, h2, h3, h4, h5⟩
  · rw [txt, if_pos h1]; exact tagS_ne _ _ _
  · rw [txt, if_neg (by rw [h1]; decide), if_pos h1]; simp
  · rw [txt, if_neg (by rw [h1]; decide), if_neg (by rw [h1]; decide)]
    exact esc_ne _ _ ((by decide : ∀ s ∈ tx7, s ≠ []) _ h5)
theorem drawns_mem : ∀ {l : List Tk} {p : Bool}, drawns p l → ∀ t ∈ l, drawn t
  | [], _, _, t, ht => by cases ht
  | e :: l, p, h, t, ht => by
    rcases List.mem_cons.1 ht with rfl | ht
    · exact h.2.1
    · exact drawns_mem h.2.2 t ht
theorem txts_len {l : List Tk} {p : Bool} (h : drawns p l) : (txts l).length ≤ 50 * l.length := flat_len txt 50 l (fun t ht => txt_len (drawns_mem h t ht))
theorem txts_snoc (l : List Tk) (i : Nat) (h : i < l.length) : txts (l.take (i + 1)) = txts (l.take i) ++ txt (l.getD i dfl) := by
  rw [take_getDG dfl l i h, txts, List.flatMap_append]; simp [txts]
theorem txts_append (l m : List Tk) : txts (l ++ m) = txts l ++ txts m := by simp [txts]
theorem odd_no {t : Tk} (h : drawn t) : t.kind = 1 → t.text = [] ∧ (raws.any fun r => t.name == r) = false := by
  intro hk
  rcases h with ⟨h1, h2, h3, h5⟩ | ⟨h1, _⟩ | ⟨h1, _⟩
  · exact ⟨h5, nm5_raw _ h2⟩
  · omega
  · omega
theorem odd_no2 {t : Tk} (h : drawn t) : t.kind = 2 → t.attrs = [] ∧ t.self = false ∧ t.text = [] := by
  intro hk
  rcases h with ⟨h1, _⟩ | ⟨h1, h2, h3, h4, h5⟩ | ⟨h1, _⟩
  · omega
  · exact ⟨h3, h4, h5⟩
  · omega
theorem odd_no3 {t : Tk} (h : drawn t) : t.kind = 3 → t.name = [] ∧ t.attrs = [] ∧ t.self = false ∧ t.text ≠ [] := by
  intro hk
  rcases h with ⟨h1, _⟩ | ⟨h1, _⟩ | ⟨h1, h2, h3, h4, h5⟩
  · omega
  · omega
  · exact ⟨h2, h3, h4, (by decide : ∀ s ∈ tx7, s ≠ []) _ h5⟩
theorem drawn_val {t : Tk} (h : drawn t) : ∀ a ∈ t.attrs, a.2.length ≤ 1048576 := by
  intro a ha
  rcases h with ⟨h1, h2, ⟨h3, h4⟩, h5⟩ | ⟨h1, h2, h3, _⟩ | ⟨h1, h2, h3, _⟩
  · have : a.2.length ≤ 4 := (by decide : ∀ s ∈ vl6, s.length ≤ 4) _ (h4 a ha)
    omega
  · rw [h3] at ha; cases ha
  · rw [h3] at ha; cases ha
theorem drawn_txt {t : Tk} (h : drawn t) : t.text.length ≤ 5 := by
  rcases h with ⟨h1, h2, _, h5⟩ | ⟨h1, h2, h3, h4, h5⟩ | ⟨h1, h2, h3, h4, h5⟩
  · rw [h5]; decide
  · rw [h5]; decide
  · exact (by decide : ∀ s ∈ tx7, s.length ≤ 5) _ h5
theorem drawns_snoc {p : Bool} {l : List Tk} {t : Tk} (h : drawns p l) (h1 : t.kind = 3 → lastK p l = false) (h2 : drawn t) : drawns p (l ++ [t]) := (drawns_append l [t] p).2 ⟨h, h1, h2, trivial⟩
theorem lastK_of (out : List Tk) (h : (decide ((0 : Int) < ((out.map tav).length : Int)) && ((out.getD (out.length - 1) dfl).kind == 3)) = false) : lastK false out = false := by
  rw [List.length_map] at h
  have := lastK_take out out.length (Nat.le_refl _)
  rw [List.take_of_length_le (Nat.le_refl _)] at this
  rw [this]; exact h
theorem kind3 {t : Tk} (h : drawn t) : t.kind = 1 ∨ t.kind = 2 ∨ t.kind = 3 := by
  rcases h with ⟨h1, _⟩ | ⟨h1, _⟩ | ⟨h1, _⟩ <;> simp [h1]
end Tk
end Go.Vl
