/-
  What the laws' trees are like, without a program.
-/
import Derived.Test.YtpjngpegkoohgaaRules
set_option linter.unusedVariables false
set_option linter.unusedSimpArgs false
namespace Go.Vl
namespace Nd
theorem tszs_mem {l : List Nd} {d : Nd} (h : d ∈ l) : d.tsz ≤ tszs l := by
  induction l with
  | nil => cases h
  | cons e l ih =>
    rw [tszs]
    rcases List.mem_cons.1 h with rfl | h
    · omega
    · have := ih h; omega
theorem at_tsz (l : List Nd) (i : Nat) (h : i < l.length) : (l.getD i dflt).tsz ≤ tszs l := tszs_mem (getD_memG dflt l i h)
theorem tszs_take (l : List Nd) (i : Nat) : tszs (l.take i) ≤ tszs l := by
  have := tszs_append (l.take i) (l.drop i); rw [List.take_append_drop] at this; omega
theorem szs_take (l : List Nd) (i : Nat) : szs (l.take i) ≤ szs l := by
  have := szs_append (l.take i) (l.drop i); rw [List.take_append_drop] at this; omega
theorem jn_len : ∀ (more out : List Nd), (jn out more).length ≤ out.length + more.length
  | [], out => by simp [jn]
  | n :: more, out => by
    have h1 := jn_len more (jn1 out n)
    have h2 : (jn1 out n).length ≤ out.length + 1 := by
      unfold jn1
      split
      · rename_i h; obtain ⟨m, e, rfl, _, h3, _⟩ := lastT_split h.2; rw [h3]; simp
      · simp
    rw [jn, List.length_cons]; omega
theorem jn1_set (cur : List Nd) (n : Nd) (h : n.name = [] ∧ lastT false cur = true) : (cur.map av).set (cur.length - 1) (.agg [.str (cur.getD (cur.length - 1) dflt).name, .sl 2 ((cur.getD (cur.length - 1) dflt).attrs.map dav), .str ((cur.getD (cur.length - 1) dflt).text ++ n.text), .sl 4 ((cur.getD (cur.length - 1) dflt).parts.map av)]) = (jn1 cur n).map av := by
  obtain ⟨m, e, rfl, he, h1, h2⟩ := lastT_split h.2
  unfold jn1
  rw [if_pos h, h1, h2, List.map_append, List.map_append, List.set_append_right _ _ (by simp)]
  have : (m ++ [e]).length - 1 - (m.map av).length = 0 := by simp
  rw [this, he]
  simp only [List.map_cons, List.map_nil, List.set_cons_zero, av_eq]
  rfl
theorem lastT_not (out : List Nd) (n : Nd) (h : (((n.name == []) && decide ((0 : Int) < ((out.map av).length : Int))) && ((out.getD (out.length - 1) dflt).name == [])) = false) : ¬ (n.name = [] ∧ lastT false out = true) := by
  rintro ⟨h1, h2⟩
  obtain ⟨m, e, rfl, he, _, h4⟩ := lastT_split h2
  rw [h4, h1, he] at h
  simp at h
theorem lastT_yes (out : List Nd) (n : Nd) (h : (((n.name == []) && decide ((0 : Int) < ((out.map av).length : Int))) && ((out.getD (out.length - 1) dflt).name == [])) = true) : n.name = [] ∧ lastT false out = true ∧ 0 < out.length := by
  simp only [Bool.and_eq_true, beq_iff_eq, decide_eq_true_eq, List.length_map] at h
  have h0 : 0 < out.length := by omega
  exact ⟨h.1.1, by rw [lastT_at out h0, h.2]; rfl, h0⟩
theorem lastT_take (l : List Nd) (i : Nat) (h : i ≤ l.length) : lastT false (l.take i) = (decide ((0 : Int) < (i : Int)) && ((l.getD (i - 1) dflt).name == [])) := by
  rcases Nat.eq_zero_or_pos i with h0 | h0
  · subst h0; simp [lastT]
  · have e : i = (i - 1) + 1 := by omega
    have h1 : decide ((0 : Int) < (i : Int)) = true := decide_eq_true (by omega)
    rw [h1, Bool.true_and]
    conv => lhs; rw [e]
    rw [take_getDG dflt l (i - 1) (by omega), lastT_snoc]
/-- what the program asks of a node -/
theorem apt1_prog (d : Nd) (a b : Nat) (p : Bool) (ha : a = d.parts.length) (hb : b = d.attrs.length) :
    (((d.name == []) && ((((d.text == []) || decide ((0 : Int) < (a : Int))) || decide ((0 : Int) < (b : Int))) || p)) = true → apt1 p d = false) ∧
    (((d.name == []) && ((((d.text == []) || decide ((0 : Int) < (a : Int))) || decide ((0 : Int) < (b : Int))) || p)) = false → ((!(d.name == [])) && (!(d.text == []) || !(apts false d.parts))) = false → apt1 p d = true) ∧
    (((!(d.name == [])) && (!(d.text == []) || !(apts false d.parts))) = true → apt1 p d = false) := by
  subst ha; subst hb
  have e1 : decide ((0 : Int) < (d.parts.length : Int)) = !(d.parts.length == 0) := by
    rcases Nat.eq_zero_or_pos d.parts.length with h | h
    · rw [h]; rfl
    · rw [decide_eq_true (by omega), beq_eq_false_iff_ne.2 (by omega)]; rfl
  have e2 : decide ((0 : Int) < (d.attrs.length : Int)) = !(d.attrs.length == 0) := by
    rcases Nat.eq_zero_or_pos d.attrs.length with h | h
    · rw [h]; rfl
    · rw [decide_eq_true (by omega), beq_eq_false_iff_ne.2 (by omega)]; rfl
  rw [e1, e2, apt1]
  by_cases h : d.name = []
  · have h' : (d.name == []) = true := by simpa using h
    rw [if_pos h, h']
    generalize (d.text == []) = x; generalize (d.parts.length == 0) = y; generalize (d.attrs.length == 0) = z; generalize apts false d.parts = w
    revert x y z w p; decide
  · have h' : (d.name == []) = false := by simpa using h
    rw [if_neg h, h']
    generalize (d.text == []) = x; generalize apts false d.parts = w; generalize (d.parts.length == 0) = y; generalize (d.attrs.length == 0) = z
    revert x y z w p; decide
abbrev tx6 : List (List UInt8) := [[120], [97, 60, 98], [38, 97, 109, 112, 59], [121, 32, 122], [32], [60, 112, 62]]
abbrev vd2 : List (List UInt8) := [[98, 114], [105, 109, 103]]
abbrev el6 : List (List UInt8) := [[100, 105, 118], [98], [101, 109], [112], [97], [117, 108]]
abbrev vl5 : List (List UInt8) := [[], [120], [97, 34, 98, 38], [60], [104, 116, 116, 112, 58, 47, 47, 121]]
abbrev href : List UInt8 := [104, 114, 101, 102]
mutual
/-- what is drawn; k: not deeper than so; p: does a text stand ahead? -/
def dr : Nat → Nd → Prop
  | k, mk n a t q => (n = [] ∧ a = [] ∧ t ∈ tx6 ∧ q = []) ∨ (n ∈ vd2 ∧ a = [] ∧ t = [] ∧ q = []) ∨ (n ∈ el6 ∧ (a = [] ∨ ∃ v ∈ vl5, a = [(href, v)]) ∧ t = [] ∧ 2 ≤ k ∧ drs (k - 1) false q ∧ q.length ≤ 4)
def drs : Nat → Bool → List Nd → Prop
  | _, _, [] => True
  | k, p, d :: l => (d.name = [] → p = false) ∧ dr k d ∧ drs k (d.name == []) l
end
theorem dr_eq (k : Nat) (d : Nd) : dr k d ↔ (d.name = [] ∧ d.attrs = [] ∧ d.text ∈ tx6 ∧ d.parts = []) ∨ (d.name ∈ vd2 ∧ d.attrs = [] ∧ d.text = [] ∧ d.parts = []) ∨ (d.name ∈ el6 ∧ (d.attrs = [] ∨ ∃ v ∈ vl5, d.attrs = [(href, v)]) ∧ d.text = [] ∧ 2 ≤ k ∧ drs (k - 1) false d.parts ∧ d.parts.length ≤ 4) := by cases d; rfl
theorem drs_append (k : Nat) (l m : List Nd) : ∀ p, drs k p (l ++ m) ↔ drs k p l ∧ drs k (lastT p l) m := by
  induction l with
  | nil => intro p; simp [drs, lastT_nil]
  | cons d l ih => intro p; rw [List.cons_append, drs, drs, ih, lastT_cons, and_assoc, and_assoc]
theorem drs_snoc {k : Nat} {p : Bool} {l : List Nd} {d : Nd} (h : drs k p l) (h1 : d.name = [] → lastT p l = false) (h2 : dr k d) : drs k p (l ++ [d]) := (drs_append k l [d] p).2 ⟨h, h1, h2, trivial⟩
theorem dr_text (k : Nat) (t : List UInt8) (h : t ∈ tx6) : dr k (mk [] [] t []) := .inl ⟨rfl, rfl, h, rfl⟩
theorem dr_void (k : Nat) (n : List UInt8) (h : n ∈ vd2) : dr k (mk n [] [] []) := .inr (.inl ⟨h, rfl, rfl, rfl⟩)
theorem dr_el (k : Nat) (n : List UInt8) (a : List Dc) (q : List Nd) (h : n ∈ el6) (ha : a = [] ∨ ∃ v ∈ vl5, a = [(href, v)]) (hk : 2 ≤ k) (hq : drs (k - 1) false q) (h4 : q.length ≤ 4) : dr k (mk n a [] q) := .inr (.inr ⟨h, ha, rfl, hk, hq, h4⟩)
theorem ne_tx6 : ∀ t ∈ tx6, t ≠ [] := by decide
theorem ne_vd2 : ∀ t ∈ vd2, t ≠ [] := by decide
theorem ne_el6 : ∀ t ∈ el6, t ≠ [] := by decide
theorem lastT_of (out : List Nd) (h : (decide ((0 : Int) < ((out.map av).length : Int)) && ((out.getD (out.length - 1) dflt).name == [])) = false) : lastT false out = false := by
  rw [List.length_map] at h
  rcases Nat.eq_zero_or_pos out.length with h0 | h0
  · rw [List.eq_nil_of_length_eq_zero h0]; rfl
  · rw [lastT_at out h0 false]
    have : decide ((0 : Int) < (out.length : Int)) = true := decide_eq_true (by omega)
    rw [this, Bool.true_and] at h
    exact h
theorem drs_facts : ∀ (n : Nat) (k : Nat) (p : Bool) (l : List Nd), szs l ≤ n → drs k p l → wfs l ∧ Rl.plains l ∧ apts p l = true ∧ tszs l ≤ 5 * szs l
  | n, k, p, [], _, _ => ⟨trivial, trivial, rfl, Nat.zero_le _⟩
  | 0, k, p, d :: l, hn, _ => by rw [szs, sz_eq] at hn; omega
  | n + 1, k, p, d :: l, hn, h => by
    rw [szs, sz_eq] at hn
    obtain ⟨h1, h2, h3⟩ := h
    obtain ⟨a1, a2, a3, a4⟩ := drs_facts n k _ l (by omega) h3
    rw [dr_eq] at h2
    have et := tsz_eq d
    have es := sz_eq d
    rw [apts_cons, wfs, Rl.plains, wf_eq, Rl.plain_eq, apt1, tszs, szs]
    rcases h2 with ⟨b1, b2, b3, b4⟩ | ⟨b1, b2, b3, b4⟩ | ⟨b1, b2, b3, b4, b5, b6⟩
    · have c := ne_tx6 _ b3
      have c5 : d.text.length ≤ 5 := (by decide : ∀ t ∈ tx6, t.length ≤ 5) _ b3
      rw [b4] at et
      have z : tszs ([] : List Nd) = 0 := rfl
      refine ⟨⟨⟨fun _ => b4, by rw [b4]; trivial⟩, a1⟩, ⟨⟨fun _ => ⟨b4, b2⟩, fun h => absurd b1 h, by rw [b4]; trivial⟩, a2⟩, ?_, by omega⟩
      rw [if_pos b1, a3, h1 b1, b2, b4]; simp [c]
    · have c := ne_vd2 _ b1
      rw [b4, b3] at et
      have z : tszs ([] : List Nd) = 0 := rfl
      have z2 : ([] : List UInt8).length = 0 := rfl
      refine ⟨⟨⟨fun h => absurd h c, by rw [b4]; trivial⟩, a1⟩, ⟨⟨fun h => absurd h c, fun h => b3, by rw [b4]; trivial⟩, a2⟩, ?_, by omega⟩
      rw [if_neg c, a3, b3, b4]; rfl
    · have c := ne_el6 _ b1
      obtain ⟨g1, g2, g3, g4⟩ := drs_facts n _ _ d.parts (by omega) b5
      rw [b3] at et
      have z2 : ([] : List UInt8).length = 0 := rfl
      refine ⟨⟨⟨fun h => absurd h c, g1⟩, a1⟩, ⟨⟨fun h => absurd h c, fun h => b3, g2⟩, a2⟩, ?_, by omega⟩
      rw [if_neg c, a3, b3, g3]; rfl
theorem drs_names (k : Nat) : ∀ (l : List Nd) (p : Bool), drs k p l → ∀ d ∈ l, d.name ≠ [] → d.name ∈ vd2 ∨ d.name ∈ el6
  | [], _, _, d, hd, _ => by cases hd
  | e :: l, p, h, d, hd, hn => by
    obtain ⟨h1, h2, h3⟩ := h
    rcases List.mem_cons.1 hd with rfl | hd
    · rw [dr_eq] at h2
      rcases h2 with h2 | h2 | h2
      · exact absurd h2.1 hn
      · exact .inl h2.1
      · exact .inr h2.1
    · exact drs_names k l _ h3 d hd hn
end Nd
namespace Rl
/-- rules that may be -/
structure ok (r : Rl) : Prop where
  n : nameOk r.name = true
  nl : r.name.length ≤ 1000
  a1 : 1 ≤ r.act
  a3 : r.act ≤ 3
  t : r.act = 1 → nameOk r.to = true
  tl : r.to.length ≤ 1000
  t0 : r.act ≠ 1 → r.to = []
structure oks (l : List Rl) : Prop where
  len : l.length ≤ 12
  all : ∀ r ∈ l, r.ok
  one : ∀ i, i < l.length → ((l.take i).any fun q => q.name == (l.getD i dfl).name) = false
abbrev nm6 : List (List UInt8) := [[100, 105, 118], [98], [101, 109], [112], [97], [117, 108]]
abbrev nm8 : List (List UInt8) := [[100, 105, 118], [98], [101, 109], [112], [97], [117, 108], [98, 114], [105, 109, 103]]
theorem nm6_ok : nm6.all (fun s => nameOk s && decide (s.length ≤ 1000)) = true := by kernel_rfl
theorem nm8_ok : nm8.all (fun s => nameOk s && decide (s.length ≤ 1000)) = true := by kernel_rfl
theorem nameOk_ne {s : List UInt8} (h : nameOk s = true) : s ≠ [] := by
  rintro rfl; simp [nameOk] at h
theorem one_of (ns : List (List UInt8)) (hnd : ns.Nodup) (l : List Rl) (h : l.map (·.name) = ns.take l.length) (i : Nat) (hi : i < l.length) : ((l.take i).any fun q => q.name == (l.getD i dfl).name) = false := by
  rw [List.any_eq_false]
  intro q hq
  obtain ⟨j, hj, hje⟩ := List.getElem_of_mem hq
  rw [List.length_take] at hj
  rw [List.getElem_take] at hje
  intro he
  rw [beq_iff_eq, List.getD_eq_getElem?_getD, List.getElem?_eq_getElem hi, Option.getD_some] at he
  have hl : l.length ≤ ns.length := by
    have := congrArg List.length h
    rw [List.length_map, List.length_take] at this; omega
  have e1 : ∀ k (hk : k < l.length), (l[k]).name = ns[k]'(by omega) := by
    intro k hk
    have := congrArg (·[k]?) h
    simp only [List.getElem?_map, List.getElem?_take, hk, if_true, List.getElem?_eq_getElem hk, Option.map_some, List.getElem?_eq_getElem (show k < ns.length by omega)] at this
    exact Option.some.inj this
  rw [← hje, e1 j (by omega), e1 i hi] at he
  have := (List.getElem_inj hnd).1 he
  omega
/-- rules of the first names -/
structure drawn (l : List Rl) : Prop where
  names : l.map (·.name) = nm6.take l.length
  all : ∀ r ∈ l, r.ok
theorem drawn_len {l : List Rl} (h : drawn l) : l.length ≤ 6 := by
  have := congrArg List.length h.names
  rw [List.length_map, List.length_take] at this
  have : l.length ≤ nm6.length := by omega
  exact this
theorem drawn_oks {l : List Rl} (h : drawn l) : oks l := ⟨by have := drawn_len h; omega, h.all, one_of nm6 (by decide) l h.names⟩
theorem oks_nil : oks [] := ⟨Nat.zero_le _, by simp, by simp⟩
abbrev tn (r : Rl) : Rl := ⟨r.name, r.act, if r.act = 1 then r.name else r.to⟩
theorem drawn_tn {l : List Rl} (h : drawn l) : drawn (l.map tn) := by
  refine ⟨?_, ?_⟩
  · rw [List.map_map, List.length_map, ← h.names]; rfl
  · intro r hr
    obtain ⟨q, hq, rfl⟩ := List.mem_map.1 hr
    have k := h.all q hq
    refine ⟨k.n, k.nl, k.a1, k.a3, fun (ha : q.act = 1) => ?_, ?_, fun (ha : q.act ≠ 1) => ?_⟩
    · show nameOk (if q.act = 1 then q.name else q.to) = true
      rw [if_pos ha]; exact k.n
    · show (if q.act = 1 then q.name else q.to).length ≤ 1000
      split
      · exact k.nl
      · exact k.tl
    · show (if q.act = 1 then q.name else q.to) = []
      rw [if_neg ha]; exact k.t0 ha
/-- all elements left out -/
abbrev lv (l : List (List UInt8)) : List Rl := l.map fun s => ⟨s, 3, []⟩
theorem lv_oks : oks (lv nm8) := by
  refine ⟨by decide, ?_, one_of nm8 (by decide) _ (by decide)⟩
  intro r hr
  obtain ⟨s, hs, rfl⟩ := List.mem_map.1 hr
  have h := List.all_eq_true.1 nm8_ok s hs
  simp only [Bool.and_eq_true, decide_eq_true_eq] at h
  exact ⟨h.1, h.2, (by decide : (1 : Int) ≤ 3), (by decide : (3 : Int) ≤ 3), fun (h : (3 : Int) = 1) => absurd h (by decide), Nat.zero_le _, fun _ => rfl⟩
theorem lv_act (nm : List UInt8) (h : nm ∈ Nd.vd2 ∨ nm ∈ Nd.el6) : (of (lv nm8) nm).act = 3 := by
  have : ∀ nm ∈ nm8, (of (lv nm8) nm).act = 3 := by decide
  refine this nm ?_
  simp only [List.mem_cons, List.not_mem_nil, or_false] at h ⊢
  rcases h with (h | h) | h | h | h | h | h | h <;> simp [h]
/-- names that are kept -/
def kn (l : List Rl) : List (List UInt8) := (l.filter fun r => r.act == 1).map (·.to)
theorem kn_mem (l : List Rl) (h : ∀ r ∈ l, r.ok) : ∀ r ∈ l, r.act = 1 → (r.to = [] → False) ∧ r.to ∈ kn l := by
  intro r hr ha
  refine ⟨fun h0 => nameOk_ne ((h r hr).t ha) h0, ?_⟩
  rw [kn, List.mem_map]
  exact ⟨r, List.mem_filter.2 ⟨hr, by simpa using ha⟩, rfl⟩
theorem kn_len (l : List Rl) : (kn l).length ≤ l.length := by rw [kn, List.length_map]; exact List.length_filter_le _ _
theorem outer_snoc (l : List Nd) (i : Nat) (h : i < l.length) : outer (l.take (i + 1)) = outer (l.take i) ++ (l.getD i Nd.dflt).text := by
  rw [take_getDG Nd.dflt l i h, outer, List.flatMap_append]; simp [outer]
theorem outer_len : ∀ l : List Nd, (outer l).length ≤ Nd.tszs l
  | [] => Nat.le_refl _
  | d :: l => by
    have h := outer_len l
    have e := Nd.tsz_eq d
    have : outer (d :: l) = d.text ++ outer l := by simp [outer]
    rw [this, List.length_append, Nd.tszs]; omega
/-- what the law asks at its end -/
theorem plain_end (X : List Nd) (w : List UInt8) (h : X = [] ∨ ∃ t, t ≠ [] ∧ X = [Nd.mk [] [] t []]) (hw : Nd.wds X = w) :
    ∃ x0 : Nd, (X.length = 1 → 0 ≤ (0 : Int) ∧ (X.map Nd.av)[(0 : Int).toNat]? = some (Nd.avx x0)) ∧ (((w == []) && ((X.length : Int) == 0)) || ((((X.length : Int) == 1) && (x0.name == [])) && (x0.text == w))) = true := by
  rcases h with rfl | ⟨t, ht, rfl⟩
  · refine ⟨Nd.dflt, fun h => absurd h (by decide), ?_⟩
    rw [← hw]; rfl
  · refine ⟨Nd.mk [] [] t [], fun _ => ⟨Int.le_refl _, rfl⟩, ?_⟩
    rw [← hw, Nd.wds_one]
    simp [Nd.text_mk, Nd.parts_mk, Nd.name_mk, Nd.wds]
theorem kn_snoc (l : List Rl) (i : Nat) (h : i < l.length) : kn (l.take (i + 1)) = kn (l.take i) ++ (if (l.getD i dfl).act = 1 then [(l.getD i dfl).to] else []) := by
  rw [take_getDG dfl l i h, kn, List.filter_append, List.map_append]
  congr 1
  by_cases h1 : (l.getD i dfl).act = 1
  · rw [if_pos h1, List.filter_cons_of_pos (by simpa using h1)]; rfl
  · rw [if_neg h1, List.filter_cons_of_neg (by simpa using h1)]; rfl
end Rl
end Go.Vl
