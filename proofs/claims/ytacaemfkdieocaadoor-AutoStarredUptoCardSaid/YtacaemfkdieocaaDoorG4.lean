/-
  Merged: Expr ExprL Auto Wid Moore Pairs Least Row8 Key Raw.
-/
import Derived.Test.YtacaemfkdieocaaDoorG3
import Derived.Sort.OwnSortedInts
import Derived.Lib.LaidTab
import Derived.Lib.ItoaNum

section
set_option linter.unusedVariables false
set_option linter.unusedSimpArgs false
namespace Go.Vl
inductive Ex where
  | mk (kind type : Int) (parts : List Ex)
namespace Ex
def kind : Ex → Int | mk k _ _ => k
def type : Ex → Int | mk _ t _ => t
def parts : Ex → List Ex | mk _ _ p => p
mutual
def av : Ex → AV
  | mk k t p => .agg [.int k, .int t, .sl 3 (avs p)]
def avs : List Ex → List AV
  | [] => []
  | d :: l => av d :: avs l
end
theorem avs_map (l : List Ex) : avs l = l.map av := by
  induction l with
  | nil => rfl
  | cons d l ih => rw [avs, ih]; rfl
abbrev avx (d : Ex) : AV := .agg [.int d.kind, .int d.type, .sl 3 (d.parts.map av)]
theorem av_eq (d : Ex) : d.av = avx d := by
  cases d with | mk n a p => rw [av, avs_map]; rfl
theorem avx_one (k : Int) (x : Ex) : (mk k 0 [x]).avx.cells = [.int k, .int 0, .sl 3 [x.avx]] := by
  show [AV.int k, AV.int 0, AV.sl 3 [x.av]] = _
  rw [av_eq]
def dflt : Ex := mk 0 0 []
theorem at_av (l : List Ex) (i : Nat) (h : i < l.length) : (l.map av)[i]? = some (avx (l.getD i dflt)) := by
  rw [← av_eq]; exact getD_mapG av dflt l i h
theorem map_snoc (l : List Ex) (d : Ex) : (l ++ [d]).map av = l.map av ++ [avx d] := by rw [List.map_append, ← av_eq]; rfl
theorem take_snoc (l : List Ex) (i : Nat) (h : i < l.length) : (l.take (i + 1)).map av = (l.take i).map av ++ [avx (l.getD i dflt)] := by
  rw [take_getDG dflt l i h, map_snoc]
theorem okc_avs (l : List Ex) : ∀ e ∈ l.map av, e.okc = true := by
  intro e he
  obtain ⟨d, _, rfl⟩ := List.mem_map.1 he
  rw [av_eq]; rfl
mutual
def sz : Ex → Nat
  | mk _ _ p => 1 + szs p
def szs : List Ex → Nat
  | [] => 0
  | d :: l => sz d + szs l
end
theorem sz_eq (d : Ex) : d.sz = 1 + szs d.parts := by cases d; rfl
theorem szs_append (l m : List Ex) : szs (l ++ m) = szs l + szs m := by
  induction l with
  | nil => simp [szs]
  | cons d l ih => rw [List.cons_append, szs, szs, ih]; omega
theorem szs_len (l : List Ex) : l.length ≤ szs l := by
  induction l with
  | nil => simp [szs]
  | cons d l ih => rw [szs, List.length_cons, sz_eq]; omega
theorem szs_mem {l : List Ex} {d : Ex} (h : d ∈ l) : d.sz ≤ szs l := by
  induction l with
  | nil => cases h
  | cons e l ih =>
    rw [szs]
    rcases List.mem_cons.1 h with rfl | h
    · omega
    · have := ih h; omega
theorem part_sz {x d : Ex} (h : d ∈ x.parts) : d.sz < x.sz := by
  have := szs_mem h; have := sz_eq x; omega
/-- induction over expressions -/
theorem rec' {P : Ex → Prop} (h : ∀ x, (∀ d ∈ x.parts, P d) → P x) : ∀ x, P x := by
  suffices H : ∀ n x, sz x ≤ n → P x from fun x => H _ x (Nat.le_refl _)
  intro n
  induction n with
  | zero => intro x hx; have := sz_eq x; omega
  | succ n ih => exact fun x hx => h x fun d hd => ih d (by have := part_sz hd; omega)
/-- an expression that may be, but for its parts -/
def ok1 (x : Ex) : Prop :=
  (x.kind = 1 ∧ x.parts = [] ∧ 0 ≤ x.type ∧ x.type < 8) ∨ (x.kind = 2 ∧ x.type = 0 ∧ x.parts.length ≠ 1 ∧ ∀ q ∈ x.parts, q.kind ≠ 2) ∨
  (x.kind = 3 ∧ x.type = 0 ∧ 2 ≤ x.parts.length ∧ ∀ q ∈ x.parts, q.kind ≠ 3) ∨ (4 ≤ x.kind ∧ x.kind ≤ 6 ∧ x.type = 0 ∧ x.parts.length = 1)
mutual
def ok : Ex → Prop
  | mk k t p => ok1 (mk k t p) ∧ oks p
def oks : List Ex → Prop
  | [] => True
  | d :: l => ok d ∧ oks l
end
theorem oks_iff (l : List Ex) : oks l ↔ ∀ d ∈ l, ok d := by
  induction l with
  | nil => simp [oks]
  | cons d l ih => simp [oks, ih]
theorem ok_iff (x : Ex) : ok x ↔ ok1 x ∧ ∀ d ∈ x.parts, ok d := by
  cases x with | mk k t p => rw [ok, oks_iff]; rfl
theorem ok_kind {x : Ex} (h : ok x) : 1 ≤ x.kind ∧ x.kind ≤ 6 := by
  rcases ((ok_iff x).1 h).1 with h | h | h | h <;> omega
/-- the signs behind a part -/
def sgn (k : Int) : UInt8 := if k = 4 then 42 else if k = 5 then 43 else 63
def par (k : Int) (q : Ex) : Prop := (q.kind = 3 ∧ k ≠ 3) ∨ (q.kind = 2 ∧ 4 ≤ k)
instance (k : Int) (q : Ex) : Decidable (par k q) := by unfold par; infer_instance
/-- texts, with a sign between -/
def joinW (sep : List UInt8) : List (List UInt8) → List UInt8
  | [] => []
  | [s] => s
  | s :: t :: l => s ++ (sep ++ joinW sep (t :: l))
mutual
def txt : Ex → List UInt8
  | mk k t p => if k = 1 then [97 + UInt8.ofNat t.toNat] else if k = 2 then joinW [] (ptx k p) else if k = 3 then joinW [124] (ptx k p) else joinW [] (ptx k p) ++ [sgn k]
def ptx (k : Int) : List Ex → List (List UInt8)
  | [] => []
  | q :: l => (if par k q then 40 :: (txt q ++ [41]) else txt q) :: ptx k l
end
def ptx1 (k : Int) (q : Ex) : List UInt8 := if par k q then 40 :: (txt q ++ [41]) else txt q
theorem ptx_map (k : Int) (l : List Ex) : ptx k l = l.map (ptx1 k) := by
  induction l with
  | nil => rfl
  | cons d l ih => rw [ptx, ih]; rfl
theorem txt_eq (x : Ex) : txt x = if x.kind = 1 then [97 + UInt8.ofNat x.type.toNat] else if x.kind = 2 then joinW [] (x.parts.map (ptx1 x.kind)) else if x.kind = 3 then joinW [124] (x.parts.map (ptx1 x.kind)) else joinW [] (x.parts.map (ptx1 x.kind)) ++ [sgn x.kind] := by
  cases x with | mk k t p => rw [txt, ptx_map]; rfl
end Ex

/-! ### what is written -/
inductive It where
  | ch (n : Nat) (sf : List Nat)
  | gr (s : List It) (a : List (List It)) (sf : List Nat)
def sg (k : Nat) : UInt8 := if k = 0 then 42 else if k = 1 then 43 else 63
def Ex.sfe (x : Ex) (sf : List Nat) : Ex := sf.foldl (fun x (k : Nat) => .mk (4 + (k : Int)) 0 [x]) x
def Ex.flat (k : Int) (l : List Ex) : List Ex := l.flatMap fun p => if p.kind = k then p.parts else [p]
def Ex.tog (k : Int) (l : List Ex) : Ex :=
  match l with
  | [x] => x
  | l => match Ex.flat k l with
    | [y] => y
    | ps => .mk k 0 ps
namespace It
def sfs : It → List Nat | ch _ sf => sf | gr _ _ sf => sf
mutual
def tx : It → List UInt8
  | ch n sf => (97 + UInt8.ofNat n) :: sf.map sg
  | gr s a sf => 40 :: (stx s ++ (atl a ++ 41 :: sf.map sg))
def stx : List It → List UInt8
  | [] => []
  | i :: s => tx i ++ stx s
def atl : List (List It) → List UInt8
  | [] => []
  | s :: a => 124 :: (stx s ++ atl a)
end
mutual
def ev : It → Ex
  | ch n sf => Ex.sfe (.mk 1 n []) sf
  | gr s a sf => Ex.sfe (Ex.tog 3 (Ex.tog 2 (sev s) :: aev a)) sf
def sev : List It → List Ex
  | [] => []
  | i :: s => ev i :: sev s
def aev : List (List It) → List Ex
  | [] => []
  | s :: a => Ex.tog 2 (sev s) :: aev a
end
mutual
/-- letters and signs that may be -/
def ok : It → Prop
  | ch n sf => n < 8 ∧ ∀ k ∈ sf, k < 3
  | gr s a sf => (oks s ∧ oka a) ∧ ∀ k ∈ sf, k < 3
def oks : List It → Prop
  | [] => True
  | i :: s => ok i ∧ oks s
def oka : List (List It) → Prop
  | [] => True
  | s :: a => oks s ∧ oka a
end
mutual
def sz : It → Nat
  | ch _ _ => 1
  | gr s a _ => 1 + szs s + sza a
def szs : List It → Nat
  | [] => 0
  | i :: s => sz i + szs s
def sza : List (List It) → Nat
  | [] => 0
  | s :: a => 1 + szs s + sza a
end
abbrev sq (s : List It) : Ex := Ex.tog 2 (sev s)
abbrev al (s : List It) (a : List (List It)) : Ex := Ex.tog 3 (sq s :: aev a)
theorem stx_flat (s : List It) : stx s = s.flatMap tx := by
  induction s with
  | nil => rfl
  | cons i s ih => rw [stx, ih]; rfl
theorem stx_append (s t : List It) : stx (s ++ t) = stx s ++ stx t := by simp [stx_flat]
theorem sev_map (s : List It) : sev s = s.map ev := by
  induction s with
  | nil => rfl
  | cons i s ih => rw [sev, ih]; rfl
theorem aev_map (a : List (List It)) : aev a = a.map sq := by
  induction a with
  | nil => rfl
  | cons s a ih => rw [aev, ih]; rfl
theorem oks_iff (s : List It) : oks s ↔ ∀ i ∈ s, ok i := by
  induction s with
  | nil => simp [oks]
  | cons d l ih => simp [oks, ih]
theorem oka_iff (a : List (List It)) : oka a ↔ ∀ s ∈ a, oks s := by
  induction a with
  | nil => simp [oka]
  | cons d l ih => simp [oka, ih]
theorem sz_mem {s : List It} {i : It} (h : i ∈ s) : sz i ≤ szs s := by
  induction s with
  | nil => cases h
  | cons e l ih =>
    rw [szs]
    rcases List.mem_cons.1 h with rfl | h
    · omega
    · have := ih h; omega
theorem szs_mem {a : List (List It)} {s : List It} (h : s ∈ a) : szs s < sza a := by
  induction a with
  | nil => cases h
  | cons e l ih =>
    rw [sza]
    rcases List.mem_cons.1 h with rfl | h
    · omega
    · have := ih h; omega
/-- induction over what is written -/
theorem rec' {P : It → Prop} (h1 : ∀ n sf, P (ch n sf)) (h2 : ∀ s a sf, (∀ i ∈ s, P i) → (∀ t ∈ a, ∀ i ∈ t, P i) → P (gr s a sf)) : ∀ i, P i := by
  suffices H : ∀ n i, sz i ≤ n → P i from fun i => H _ i (Nat.le_refl _)
  intro n
  induction n with
  | zero => intro i hi; cases i <;> simp only [sz] at hi <;> omega
  | succ n ih =>
    intro i hi
    cases i with
    | ch n sf => exact h1 n sf
    | gr s a sf =>
      simp only [sz] at hi
      exact h2 s a sf (fun i h => ih i (by have := sz_mem h; omega)) (fun t ht i h => ih i (by have := sz_mem h; have := szs_mem ht; omega))
end It

/-! ### together -/
namespace Ex
theorem tog_two (k : Int) (l : List Ex) (h : l.length ≠ 1) : tog k l = (match flat k l with | [y] => y | ps => .mk k 0 ps) := by
  unfold tog
  split
  · simp at h
  · rfl
theorem tog_cases (k : Int) (l : List Ex) : (∃ x, l = [x] ∧ tog k l = x) ∨ (l.length ≠ 1 ∧ ∃ y, flat k l = [y] ∧ tog k l = y) ∨ (l.length ≠ 1 ∧ (flat k l).length ≠ 1 ∧ tog k l = .mk k 0 (flat k l)) := by
  unfold tog
  split
  · exact .inl ⟨_, rfl, rfl⟩
  · rename_i h
    have hl : l.length ≠ 1 := fun h' => by
      match l, h' with
      | [x], _ => exact h x rfl
    split
    · rename_i y hy; exact .inr (.inl ⟨hl, y, hy, rfl⟩)
    · rename_i hy
      refine .inr (.inr ⟨hl, fun h' => ?_, rfl⟩)
      match hf : flat k l, h' with
      | [x], _ => exact hy x hf
theorem tog_y (k : Int) (l : List Ex) (y : Ex) (h : l.length ≠ 1) (hy : flat k l = [y]) : tog k l = y := by
  rw [tog_two k l h, hy]
theorem tog_n (k : Int) (l : List Ex) (h : l.length ≠ 1) (hy : (flat k l).length ≠ 1) : tog k l = .mk k 0 (flat k l) := by
  rcases tog_cases k l with ⟨x, rfl, _⟩ | ⟨_, y, h2, _⟩ | ⟨_, _, e⟩
  · exact absurd rfl h
  · rw [h2] at hy; exact absurd rfl hy
  · exact e
theorem flat_szs (k : Int) (l : List Ex) : szs (flat k l) ≤ szs l := by
  induction l with
  | nil => exact Nat.le_refl _
  | cons d l ih =>
    have h := sz_eq d
    rw [show flat k (d :: l) = (if d.kind = k then d.parts else [d]) ++ flat k l from rfl, szs_append, szs]
    split
    · omega
    · simp only [szs]; omega
theorem flat_append (k : Int) (l m : List Ex) : flat k (l ++ m) = flat k l ++ flat k m := by simp [flat]
theorem flat_snoc (k : Int) (l : List Ex) (i : Nat) (h : i < l.length) : flat k (l.take (i + 1)) = flat k (l.take i) ++ (if (l.getD i dflt).kind = k then (l.getD i dflt).parts else [l.getD i dflt]) := by
  rw [take_getDG dflt l i h, flat_append]; simp [flat]
theorem flat_take (k : Int) (l : List Ex) (i : Nat) : (flat k (l.take i)).length ≤ szs l := by
  have h1 := szs_len (flat k (l.take i))
  have h2 := flat_szs k (l.take i)
  have h3 := szs_append (l.take i) (l.drop i)
  rw [List.take_append_drop] at h3
  omega
theorem flat_ok (k : Int) (hk : k = 2 ∨ k = 3) (l : List Ex) (h : ∀ q ∈ l, ok q) : ∀ q ∈ flat k l, ok q ∧ q.kind ≠ k := by
  intro q hq
  obtain ⟨p, hp, hq⟩ := List.mem_flatMap.1 hq
  obtain ⟨h1, h2⟩ := (ok_iff p).1 (h p hp)
  split at hq
  · rename_i e
    refine ⟨h2 q hq, ?_⟩
    rcases h1 with h1 | ⟨h1, _, _, h3⟩ | ⟨h1, _, _, h3⟩ | h1
    · rcases hk with rfl | rfl <;> omega
    · rw [← e, h1]; exact h3 q hq
    · rw [← e, h1]; exact h3 q hq
    · rcases hk with rfl | rfl <;> omega
  · rename_i e
    rw [List.mem_singleton.1 hq]; exact ⟨h p hp, e⟩
theorem flat3_len (l : List Ex) (h : ∀ q ∈ l, ok q) : l.length ≤ (flat 3 l).length := by
  induction l with
  | nil => simp
  | cons d l ih =>
    have ih := ih fun q hq => h q (List.mem_cons_of_mem _ hq)
    rw [show flat 3 (d :: l) = (if d.kind = 3 then d.parts else [d]) ++ flat 3 l from rfl, List.length_append, List.length_cons]
    split
    · rcases ((ok_iff d).1 (h d List.mem_cons_self)).1 with h1 | h1 | h1 | h1 <;> omega
    · simp only [List.length_singleton]; omega
theorem tog_ok (k : Int) (hk : k = 2 ∨ k = 3) (l : List Ex) (h : ∀ q ∈ l, ok q) (hl : k = 3 → l ≠ []) : ok (tog k l) := by
  rcases tog_cases k l with ⟨x, rfl, e⟩ | ⟨h1, y, h2, e⟩ | ⟨h1, h2, e⟩
  · rw [e]; exact h x List.mem_cons_self
  · rw [e]; exact (flat_ok k hk l h y (by rw [h2]; exact List.mem_cons_self)).1
  · rw [e, ok_iff]
    have hf := flat_ok k hk l h
    refine ⟨?_, fun d hd => (hf d hd).1⟩
    rcases hk with rfl | rfl
    · exact .inr (.inl ⟨rfl, rfl, h2, fun q hq => (hf q hq).2⟩)
    · have h3 := flat3_len l h
      have h4 : l.length ≠ 0 := fun h' => hl rfl (List.eq_nil_of_length_eq_zero h')
      exact .inr (.inr (.inl ⟨rfl, rfl, by show 2 ≤ (flat 3 l).length; omega, fun q hq => (hf q hq).2⟩))
theorem sfe_ok : ∀ (sf : List Nat) (x : Ex), ok x → (∀ k ∈ sf, k < 3) → ok (sfe x sf)
  | [], x, hx, _ => hx
  | k :: sf, x, hx, h => by
    have hk := h k List.mem_cons_self
    refine sfe_ok sf _ ((ok_iff _).2 ⟨.inr (.inr (.inr ⟨?_, ?_, rfl, rfl⟩)), ?_⟩) fun k' h' => h k' (List.mem_cons_of_mem _ h')
    · show 4 ≤ 4 + (k : Int); omega
    · show 4 + (k : Int) ≤ 6; omega
    · intro d hd; rw [List.mem_singleton.1 hd]; exact hx
theorem sfe_append (x : Ex) (a b : List Nat) : sfe x (a ++ b) = sfe (sfe x a) b := by simp [sfe]
theorem sfe_snoc (x : Ex) (sf : List Nat) (i : Nat) (h : i < sf.length) : sfe x (sf.take (i + 1)) = .mk (4 + (sf.getD i 0 : Int)) 0 [sfe x (sf.take i)] := by
  rw [take_getDG 0 sf i h, sfe_append]; rfl
end Ex
namespace It
theorem ev_ok : ∀ i : It, ok i → Ex.ok i.ev := by
  refine rec' ?_ ?_
  · rintro n sf h
    simp only [ok] at h
    rw [ev]
    exact Ex.sfe_ok sf _ ((Ex.ok_iff _).2 ⟨.inl ⟨rfl, rfl, by show 0 ≤ (n : Int); omega, by show (n : Int) < 8; omega⟩, by intro d hd; cases hd⟩) h.2
  · rintro s a sf h1 h2 h
    simp only [ok, oks_iff, oka_iff] at h
    rw [ev, sev_map, aev_map]
    have hs : ∀ t : List It, (∀ i ∈ t, Ex.ok i.ev) → Ex.ok (sq t) := fun t ht => by
      refine Ex.tog_ok 2 (.inl rfl) _ (fun q hq => ?_) (by intro h; cases h)
      rw [sev_map] at hq
      obtain ⟨i, hi, rfl⟩ := List.mem_map.1 hq
      exact ht i hi
    refine Ex.sfe_ok sf _ (Ex.tog_ok 3 (.inr rfl) _ ?_ (by simp)) h.2
    intro q hq
    rcases List.mem_cons.1 hq with rfl | hq
    · rw [← sev_map]; exact hs s fun i hi => h1 i hi (h.1.1 i hi)
    · obtain ⟨t, ht, rfl⟩ := List.mem_map.1 hq
      exact hs t fun i hi => h2 t ht i hi (h.1.2 t ht i hi)
theorem sq_ok (s : List It) (h : oks s) : Ex.ok (sq s) := by
  refine Ex.tog_ok 2 (.inl rfl) _ (fun q hq => ?_) (by intro h; cases h)
  rw [sev_map] at hq
  obtain ⟨i, hi, rfl⟩ := List.mem_map.1 hq
  exact ev_ok i ((oks_iff s).1 h i hi)
theorem al_ok (s : List It) (a : List (List It)) (h : oks s) (ha : oka a) : Ex.ok (al s a) := by
  refine Ex.tog_ok 3 (.inr rfl) _ (fun q hq => ?_) (by simp)
  rcases List.mem_cons.1 hq with rfl | hq
  · exact sq_ok s h
  · rw [aev_map] at hq
    obtain ⟨t, ht, rfl⟩ := List.mem_map.1 hq
    exact sq_ok t ((oka_iff a).1 ha t ht)
end It
end Go.Vl
end

section
set_option linter.unusedVariables false
set_option linter.unusedSimpArgs false
namespace Go.Vl
namespace Ex
def sumL (l : List (List UInt8)) : Nat := (l.map List.length).sum
theorem sumL_append (l m : List (List UInt8)) : sumL (l ++ m) = sumL l + sumL m := by simp [sumL]
theorem sumL_cons (s : List UInt8) (m : List (List UInt8)) : sumL (s :: m) = s.length + sumL m := by simp [sumL]
theorem joinW_len (sep : List UInt8) : ∀ l : List (List UInt8), (joinW sep l).length + sep.length = sumL l + l.length * sep.length + (if l = [] then sep.length else 0)
  | [] => by simp [joinW, sumL]
  | [s] => by simp [joinW, sumL]
  | s :: t :: l => by
    have ih := joinW_len sep (t :: l)
    simp only [joinW, List.length_append, sumL_cons, List.length_cons, reduceCtorEq, if_false, Nat.add_zero, Nat.add_mul] at ih ⊢
    omega
theorem joinW_nil (l : List (List UInt8)) : joinW [] l = l.flatten := by
  induction l with
  | nil => rfl
  | cons s l ih =>
    cases l with
    | nil => simp [joinW]
    | cons t l => rw [joinW, ih]; simp
theorem joinW_cons (sep s : List UInt8) (l : List (List UInt8)) : joinW sep (s :: l) = s ++ l.flatMap (fun t => sep ++ t) := by
  induction l generalizing s with
  | nil => simp [joinW]
  | cons t l ih => rw [joinW, ih]; simp
theorem par2 (q : Ex) : par 2 q ↔ q.kind = 3 := by unfold par; omega
theorem par3 (q : Ex) : ¬ par 3 q := by unfold par; omega
theorem par4 {k : Int} (hk : 4 ≤ k) (q : Ex) : par k q ↔ (q.kind = 3 ∨ q.kind = 2) := by unfold par; omega
theorem ptx1_par4 {k : Int} (hk : 4 ≤ k) (q : Ex) : ptx1 k q = ptx1 4 q := by
  unfold ptx1
  by_cases h : (q.kind = 3 ∨ q.kind = 2)
  · rw [if_pos ((par4 hk q).2 h), if_pos ((par4 (by omega) q).2 h)]
  · rw [if_neg (fun h' => h ((par4 hk q).1 h')), if_neg (fun h' => h ((par4 (by omega) q).1 h'))]
theorem txt_le2 (q : Ex) : (txt q).length ≤ (ptx1 2 q).length := by
  unfold ptx1; split <;> simp <;> omega
theorem ptx24 (q : Ex) : (ptx1 2 q).length ≤ (ptx1 4 q).length := by
  unfold ptx1
  by_cases h : q.kind = 3
  · rw [if_pos ((par2 q).2 h), if_pos ((par4 (by omega) q).2 (.inl h))]; exact Nat.le_refl _
  · rw [if_neg (fun h' => h ((par2 q).1 h'))]; split <;> simp <;> omega
theorem ptx1_3 (q : Ex) : ptx1 3 q = txt q := if_neg (par3 q)
theorem txt2 {q : Ex} (h : q.kind = 2) : txt q = (q.parts.map (ptx1 2)).flatten := by
  rw [txt_eq, if_neg (by omega), if_pos h, h, joinW_nil]
theorem txt3 {q : Ex} (h : q.kind = 3) : txt q = joinW [124] (q.parts.map txt) := by
  rw [txt_eq, if_neg (by omega), if_neg (by omega), if_pos h, h]
  congr 1
  exact List.map_congr_left fun q _ => ptx1_3 q
theorem txt4 {q : Ex} (h : 4 ≤ q.kind) : txt q = (q.parts.map (ptx1 4)).flatten ++ [sgn q.kind] := by
  rw [txt_eq, if_neg (by omega), if_neg (by omega), if_neg (by omega), joinW_nil]
  congr 2
  exact List.map_congr_left fun q _ => ptx1_par4 h q
theorem flat_len2 (l : List Ex) : sumL ((flat 2 l).map (ptx1 2)) = sumL (l.map (ptx1 2)) := by
  induction l with
  | nil => rfl
  | cons d l ih =>
    rw [show flat 2 (d :: l) = (if d.kind = 2 then d.parts else [d]) ++ flat 2 l from rfl, List.map_append, sumL_append, ih, List.map_cons, sumL_cons]
    congr 1
    split
    · rename_i e
      have h : ptx1 2 d = txt d := if_neg (by rw [par2]; omega)
      rw [h, txt2 e, sumL, List.length_flatten]
    · simp [sumL]
theorem tog2_len (l : List Ex) : (txt (tog 2 l)).length ≤ sumL (l.map (ptx1 2)) := by
  have hf := flat_len2 l
  rcases tog_cases 2 l with ⟨x, rfl, e⟩ | ⟨h1, y, h2, e⟩ | ⟨h1, h2, e⟩
  · rw [e]; simpa [sumL] using txt_le2 x
  · rw [e, ← hf, h2]; simpa [sumL] using txt_le2 y
  · rw [e, ← hf, txt2 rfl, List.length_flatten]; exact Nat.le_refl _
def cost (l : List Ex) : Nat := sumL (l.map txt) + l.length
theorem cost_append (l m : List Ex) : cost (l ++ m) = cost l + cost m := by simp [cost, sumL_append]; omega
theorem joinW_cost (l : List Ex) (h : l ≠ []) : (joinW [124] (l.map txt)).length + 1 = cost l := by
  have := joinW_len [124] (l.map txt)
  rw [if_neg (by simpa using h)] at this
  simp only [List.length_map, List.length_singleton, Nat.mul_one, Nat.add_zero] at this
  exact this
theorem flat_cost (l : List Ex) (h : ∀ q ∈ l, ok q) : cost (flat 3 l) = cost l := by
  induction l with
  | nil => rfl
  | cons d l ih =>
    have ih := ih fun q hq => h q (List.mem_cons_of_mem _ hq)
    rw [show flat 3 (d :: l) = (if d.kind = 3 then d.parts else [d]) ++ flat 3 l from rfl, cost_append, ih, show d :: l = [d] ++ l from rfl, cost_append]
    congr 1
    split
    · rename_i e
      have hp : d.parts ≠ [] := by
        rcases ((ok_iff d).1 (h d List.mem_cons_self)).1 with h1 | h1 | h1 | h1
        · omega
        · omega
        · intro h'; rw [h'] at h1; simp at h1
        · omega
      rw [← joinW_cost _ hp, ← txt3 e]; simp [cost, sumL]
    · rfl
theorem tog3_len (l : List Ex) (h : ∀ q ∈ l, ok q) (hl : l ≠ []) : (txt (tog 3 l)).length + 1 ≤ cost l := by
  have hf := flat_cost l h
  rcases tog_cases 3 l with ⟨x, rfl, e⟩ | ⟨h1, y, h2, e⟩ | ⟨h1, h2, e⟩
  · rw [e]; simp [cost, sumL]
  · rw [e, ← hf, h2]; simp [cost, sumL]
  · have hn : flat 3 l ≠ [] := by
      intro h'; have := flat3_len l h; rw [h'] at this
      exact hl (List.eq_nil_of_length_eq_zero (by simpa using this))
    rw [e, txt3 rfl, show (mk 3 0 (flat 3 l)).parts = flat 3 l from rfl, joinW_cost _ hn, hf]; exact Nat.le_refl _
theorem sfe_len : ∀ (sf : List Nat) (x : Ex), (ptx1 4 (sfe x sf)).length ≤ (ptx1 4 x).length + sf.length
  | [], x => by simp [sfe]
  | k :: sf, x => by
    have h := sfe_len sf (.mk (4 + (k : Int)) 0 [x])
    have h1 : ptx1 4 (.mk (4 + (k : Int)) 0 [x]) = ptx1 4 x ++ [sgn (4 + (k : Int))] := by
      unfold ptx1
      rw [if_neg (by rw [par4 (by omega)]; simp only [kind]; omega), txt4 (by simp only [kind]; omega)]
      simp [parts, kind]; rfl
    rw [h1] at h
    show (ptx1 4 (sfe (.mk (4 + (k : Int)) 0 [x]) sf)).length ≤ _
    simp only [List.length_append, List.length_cons, List.length_nil] at h ⊢
    omega
end Ex
namespace It
theorem sev_sum (s : List It) (h : ∀ i ∈ s, (Ex.ptx1 4 i.ev).length ≤ (tx i).length) : Ex.sumL ((sev s).map (Ex.ptx1 2)) ≤ (stx s).length := by
  induction s with
  | nil => simp [sev, Ex.sumL]
  | cons i s ih =>
    have h1 := ih fun j hj => h j (List.mem_cons_of_mem _ hj)
    have h2 := h i List.mem_cons_self
    have h3 := Ex.ptx24 i.ev
    rw [sev, List.map_cons, Ex.sumL_cons, stx, List.length_append]
    omega
theorem sq_len' (s : List It) (h : ∀ i ∈ s, (Ex.ptx1 4 i.ev).length ≤ (tx i).length) : (Ex.txt (sq s)).length ≤ (stx s).length :=
  Nat.le_trans (Ex.tog2_len _) (sev_sum s h)
theorem aev_cost (a : List (List It)) (h : ∀ t ∈ a, (Ex.txt (sq t)).length ≤ (stx t).length) : Ex.cost (aev a) ≤ (atl a).length := by
  induction a with
  | nil => simp [aev, Ex.cost, Ex.sumL]
  | cons t a ih =>
    have h1 := ih fun j hj => h j (List.mem_cons_of_mem _ hj)
    have h2 := h t List.mem_cons_self
    rw [aev, show sq t :: aev a = [sq t] ++ aev a from rfl, Ex.cost_append, atl, List.length_cons, List.length_append]
    simp only [Ex.cost, Ex.sumL, List.map_cons, List.map_nil, List.sum_cons, List.sum_nil, List.length_singleton] at h1 ⊢
    omega
theorem al_len' (s : List It) (a : List (List It)) (hs : oks s) (ha : oka a) (h : (Ex.txt (sq s)).length ≤ (stx s).length) (h' : ∀ t ∈ a, (Ex.txt (sq t)).length ≤ (stx t).length) : (Ex.txt (al s a)).length ≤ (stx s ++ atl a).length := by
  have h1 := Ex.tog3_len (sq s :: aev a) (fun q hq => by
    rcases List.mem_cons.1 hq with rfl | hq
    · exact sq_ok s hs
    · rw [aev_map] at hq
      obtain ⟨t, ht, rfl⟩ := List.mem_map.1 hq
      exact sq_ok t ((oka_iff a).1 ha t ht)) (by simp)
  have h2 := aev_cost a h'
  rw [show sq s :: aev a = [sq s] ++ aev a from rfl, Ex.cost_append] at h1
  rw [List.length_append]
  have h3 : Ex.cost [sq s] = (Ex.txt (sq s)).length + 1 := by simp [Ex.cost, Ex.sumL]
  rw [h3] at h1
  show (Ex.txt (Ex.tog 3 ([sq s] ++ aev a))).length ≤ _
  omega
theorem it_len : ∀ i : It, ok i → (Ex.ptx1 4 i.ev).length ≤ (tx i).length := by
  refine rec' ?_ ?_
  · intro n sf h
    have h1 := Ex.sfe_len sf (.mk 1 n [])
    have h2 : Ex.ptx1 4 (.mk 1 (n : Int) []) = [97 + UInt8.ofNat n] := by
      unfold Ex.ptx1
      rw [if_neg (by rw [Ex.par4 (by omega)]; simp [Ex.kind]), Ex.txt_eq, if_pos (show (Ex.mk 1 (n : Int) []).kind = 1 from rfl)]; simp [Ex.type]
    rw [h2] at h1
    rw [ev, tx]
    simp only [List.length_cons, List.length_map, List.length_nil] at h1 ⊢
    omega
  · intro s a sf h1 h2 h
    simp only [ok] at h
    have hs := (oks_iff s).1 h.1.1
    have ha := (oka_iff a).1 h.1.2
    have h3 := al_len' s a h.1.1 h.1.2 (sq_len' s fun i hi => h1 i hi (hs i hi)) fun t ht => sq_len' t fun i hi => h2 t ht i hi ((oks_iff t).1 (ha t ht) i hi)
    have h4 := Ex.sfe_len sf (al s a)
    have h5 : (Ex.ptx1 4 (al s a)).length ≤ (Ex.txt (al s a)).length + 2 := by unfold Ex.ptx1; split <;> simp
    rw [ev, tx]
    simp only [List.length_cons, List.length_append, List.length_map] at h3 h4 h5 ⊢
    show (Ex.ptx1 4 (Ex.sfe (al s a) sf)).length ≤ _
    omega
theorem al_len (s : List It) (a : List (List It)) (hs : oks s) (ha : oka a) : (Ex.txt (al s a)).length ≤ (stx s ++ atl a).length :=
  al_len' s a hs ha (sq_len' s fun i hi => it_len i ((oks_iff s).1 hs i hi)) fun t ht => sq_len' t fun i hi => it_len i ((oks_iff t).1 ((oka_iff a).1 ha t ht) i hi)
/-- a sign more -/
def adds : It → Nat → It
  | ch n sf, k => ch n (sf ++ [k])
  | gr s a sf, k => gr s a (sf ++ [k])
end It

/-! ### which words are meant -/
abbrev Lg := List Int → Prop
namespace Lg
def one (n : Int) : Lg := fun w => w = [n]
def eps : Lg := fun w => w = []
def none : Lg := fun _ => False
def cat (A B : Lg) : Lg := fun w => ∃ u v, w = u ++ v ∧ A u ∧ B v
def alt (A B : Lg) : Lg := fun w => A w ∨ B w
inductive star (A : Lg) : Lg
  | nil : star A []
  | cons (u v : List Int) : A u → star A v → star A (u ++ v)
theorem ext {A B : Lg} (h : ∀ w, A w ↔ B w) : A = B := funext fun w => propext (h w)
theorem star_one {A : Lg} {u : List Int} (h : A u) : star A u := by simpa using star.cons u [] h .nil
theorem star_append {A : Lg} {u v : List Int} (hu : star A u) (hv : star A v) : star A (u ++ v) := by
  induction hu with
  | nil => simpa using hv
  | cons a b ha _ ih => rw [List.append_assoc]; exact .cons a _ ha ih
theorem star_star {A : Lg} {w : List Int} (h : star (star A) w) : star A w := by
  induction h with
  | nil => exact .nil
  | cons u v hu _ ih => exact star_append hu ih
theorem cat_assoc (A B C : Lg) : cat (cat A B) C = cat A (cat B C) := ext fun w => by
  constructor
  · rintro ⟨_, v, rfl, ⟨a, b, rfl, ha, hb⟩, hv⟩; exact ⟨a, b ++ v, by simp, ha, b, v, rfl, hb, hv⟩
  · rintro ⟨a, _, rfl, ha, ⟨b, c, rfl, hb, hc⟩⟩; exact ⟨a ++ b, c, by simp, ⟨a, b, rfl, ha, hb⟩, hc⟩
theorem cat_eps (A : Lg) : cat A eps = A := ext fun w => ⟨by rintro ⟨a, _, rfl, ha, rfl⟩; simpa using ha, fun h => ⟨w, [], by simp, h, rfl⟩⟩
theorem eps_cat (A : Lg) : cat eps A = A := ext fun w => ⟨by rintro ⟨_, a, rfl, rfl, ha⟩; simpa using ha, fun h => ⟨[], w, rfl, rfl, h⟩⟩
theorem alt_none (A : Lg) : alt A none = A := ext fun w => by simp [alt, none]
theorem alt_assoc (A B C : Lg) : alt (alt A B) C = alt A (alt B C) := ext fun w => or_assoc
theorem alt_comm (A B : Lg) : alt A B = alt B A := ext fun w => or_comm
theorem star_unfold (A : Lg) : star A = alt eps (cat A (star A)) := ext fun w => by
  constructor
  · intro h
    cases h with
    | nil => exact .inl rfl
    | cons u v hu hv => exact .inr ⟨u, v, rfl, hu, hv⟩
  · rintro (h | ⟨u, v, rfl, hu, hv⟩)
    · rw [h]; exact .nil
    · exact .cons u v hu hv
end Lg
namespace Ex
mutual
def lg : Ex → Lg
  | mk k t p => if k = 1 then Lg.one t else if k = 2 then seqs p else if k = 3 then alts p else if k = 4 then Lg.star (alts p) else if k = 5 then Lg.cat (alts p) (Lg.star (alts p)) else Lg.alt Lg.eps (alts p)
def seqs : List Ex → Lg
  | [] => Lg.eps
  | q :: l => Lg.cat (lg q) (seqs l)
def alts : List Ex → Lg
  | [] => Lg.none
  | q :: l => Lg.alt (lg q) (alts l)
end
theorem lg_eq (x : Ex) : lg x = if x.kind = 1 then Lg.one x.type else if x.kind = 2 then seqs x.parts else if x.kind = 3 then alts x.parts else if x.kind = 4 then Lg.star (alts x.parts) else if x.kind = 5 then Lg.cat (alts x.parts) (Lg.star (alts x.parts)) else Lg.alt Lg.eps (alts x.parts) := by
  cases x; rw [lg]; rfl
theorem lg2 (t : Int) (p : List Ex) : lg (mk 2 t p) = seqs p := by rw [lg, if_neg (by decide), if_pos rfl]
theorem lg3 (t : Int) (p : List Ex) : lg (mk 3 t p) = alts p := by rw [lg, if_neg (by decide), if_neg (by decide), if_pos rfl]
theorem seqs_append (l m : List Ex) : seqs (l ++ m) = Lg.cat (seqs l) (seqs m) := by
  induction l with
  | nil => rw [List.nil_append, seqs, Lg.eps_cat]
  | cons d l ih => rw [List.cons_append, seqs, seqs, ih, Lg.cat_assoc]
theorem alts_append (l m : List Ex) : alts (l ++ m) = Lg.alt (alts l) (alts m) := by
  induction l with
  | nil => rw [List.nil_append, alts]; exact Lg.ext fun w => by simp [Lg.alt, Lg.none]
  | cons d l ih => rw [List.cons_append, alts, alts, ih, Lg.alt_assoc]
theorem seqs_one (x : Ex) : seqs [x] = lg x := by rw [seqs, seqs, Lg.cat_eps]
theorem alts_one (x : Ex) : alts [x] = lg x := by rw [alts, alts, Lg.alt_none]
theorem seqs_flat (l : List Ex) : seqs (flat 2 l) = seqs l := by
  induction l with
  | nil => rfl
  | cons d l ih =>
    rw [show flat 2 (d :: l) = (if d.kind = 2 then d.parts else [d]) ++ flat 2 l from rfl, seqs_append, ih, seqs]
    congr 1
    split
    · rename_i e; rw [lg_eq, if_neg (by omega), if_pos e]
    · exact seqs_one d
theorem alts_flat (l : List Ex) : alts (flat 3 l) = alts l := by
  induction l with
  | nil => rfl
  | cons d l ih =>
    rw [show flat 3 (d :: l) = (if d.kind = 3 then d.parts else [d]) ++ flat 3 l from rfl, alts_append, ih, alts]
    congr 1
    split
    · rename_i e; rw [lg_eq, if_neg (by omega), if_neg (by omega), if_pos e]
    · exact alts_one d
theorem lg_tog2 (l : List Ex) : lg (tog 2 l) = seqs l := by
  rcases tog_cases 2 l with ⟨x, rfl, e⟩ | ⟨h1, y, h2, e⟩ | ⟨h1, h2, e⟩
  · rw [e, seqs_one]
  · rw [e, ← seqs_flat, h2, seqs_one]
  · rw [e, lg2]; exact seqs_flat l
theorem lg_tog3 (l : List Ex) : lg (tog 3 l) = alts l := by
  rcases tog_cases 3 l with ⟨x, rfl, e⟩ | ⟨h1, y, h2, e⟩ | ⟨h1, h2, e⟩
  · rw [e, alts_one]
  · rw [e, ← alts_flat, h2, alts_one]
  · rw [e, lg3]; exact alts_flat l
end Ex
/-- what a sign makes of words -/
def Lg.sfl (A : Lg) (k : Nat) : Lg := if k = 0 then Lg.star A else if k = 1 then Lg.cat A (Lg.star A) else Lg.alt Lg.eps A
theorem Ex.lg_sfe : ∀ (sf : List Nat) (x : Ex), lg (sfe x sf) = sf.foldl Lg.sfl (lg x)
  | [], x => rfl
  | k :: sf, x => by
    have h := lg_sfe sf (.mk (4 + (k : Int)) 0 [x])
    show lg (sfe (.mk (4 + (k : Int)) 0 [x]) sf) = _
    rw [h, List.foldl_cons]
    congr 1
    rw [lg, if_neg (by omega), if_neg (by omega), if_neg (by omega), alts_one]
    unfold Lg.sfl
    by_cases h0 : k = 0
    · rw [if_pos (by omega), if_pos h0]
    · rw [if_neg (by omega), if_neg h0]
      by_cases h1 : k = 1
      · rw [if_pos (by omega), if_pos h1]
      · rw [if_neg (by omega), if_neg h1]
namespace It
mutual
def lg : It → Lg
  | ch n sf => sf.foldl Lg.sfl (Lg.one n)
  | gr s a sf => sf.foldl Lg.sfl (Lg.alt (slg s) (alg a))
def slg : List It → Lg
  | [] => Lg.eps
  | i :: s => Lg.cat (lg i) (slg s)
def alg : List (List It) → Lg
  | [] => Lg.none
  | s :: a => Lg.alt (slg s) (alg a)
end
theorem lg_sq' (s : List It) (h : ∀ i ∈ s, Ex.lg i.ev = lg i) : Ex.lg (sq s) = slg s := by
  simp only [sq]
  rw [Ex.lg_tog2]
  induction s with
  | nil => rfl
  | cons i s ih => rw [sev, Ex.seqs, slg, h i List.mem_cons_self, ih fun j hj => h j (List.mem_cons_of_mem _ hj)]
theorem lg_aev' (a : List (List It)) (h : ∀ t ∈ a, Ex.lg (sq t) = slg t) : Ex.alts (aev a) = alg a := by
  induction a with
  | nil => rfl
  | cons t a ih => rw [aev, Ex.alts, alg, ih fun j hj => h j (List.mem_cons_of_mem _ hj)]; congr 1; exact h t List.mem_cons_self
theorem lg_ev : ∀ i : It, Ex.lg i.ev = lg i := by
  refine rec' ?_ ?_
  · intro n sf
    rw [ev, Ex.lg_sfe, lg, Ex.lg, if_pos rfl]
  · intro s a sf h1 h2
    rw [ev, Ex.lg_sfe, lg, Ex.lg_tog3, Ex.alts]
    congr 2
    · exact lg_sq' s h1
    · exact lg_aev' a fun t ht => lg_sq' t (h2 t ht)
theorem lg_sq (s : List It) : Ex.lg (sq s) = slg s := lg_sq' s fun i _ => lg_ev i
/-- WHAT IS WRITTEN IS MEANT. -/
theorem lg_al (s : List It) (a : List (List It)) : Ex.lg (al s a) = Lg.alt (slg s) (alg a) := by
  simp only [al]
  rw [Ex.lg_tog3, Ex.alts, lg_sq, lg_aev' a fun t _ => lg_sq t]
end It
end Go.Vl
end

section
set_option linter.unusedVariables false
set_option linter.unusedSimpArgs false
namespace Go.Vl
structure Au where
  next : List (List Int)
  final : List Bool
namespace Au
/-- where a letter leads -/
def to (a : Au) (i : Int) (c : Int) : Int := (a.next.getD i.toNat []).getD c.toNat (-1)
/-- words from a state on -/
def acc (a : Au) : Int → Lg
  | i, [] => 0 ≤ i ∧ a.final.getD i.toNat false = true
  | i, c :: w => 0 ≤ i ∧ 0 ≤ c ∧ c < 8 ∧ acc a (a.to i c) w
def av (a : Au) : AV := .agg [.sl 1 (a.next.map fun r => .sl 1 (r.map AV.int)), .sl 1 (a.final.map AV.bool)]
/-- as_ many rows as_ finals, rows of eight, that lead somewhere -/
structure Shape (a : Au) : Prop where
  pos : 0 < a.next.length
  fin : a.final.length = a.next.length
  row : ∀ i, i < a.next.length → (a.next.getD i []).length = 8
  ent : ∀ i, i < a.next.length → ∀ c, c < 8 → -1 ≤ (a.next.getD i []).getD c (-1) ∧ (a.next.getD i []).getD c (-1) < a.next.length
theorem to_get (a : Au) (r c : Int) (h : c.toNat < (a.next.getD r.toNat []).length) : (a.next.getD r.toNat []).getD c.toNat 0 = a.to r c := by
  unfold Au.to
  generalize a.next.getD r.toNat [] = l at h
  rw [List.getD_eq_getElem?_getD, List.getD_eq_getElem?_getD, List.getElem?_eq_getElem h]; rfl
theorem Shape.mem_row {a : Au} (h : a.Shape) (p : List Int) (hp : p ∈ a.next) : p.length = 8 := by
  obtain ⟨i, hi, rfl⟩ := List.mem_iff_getElem.1 hp
  have := h.row i hi
  rwa [List.getD_eq_getElem?_getD, List.getElem?_eq_getElem hi] at this
theorem Shape.mem_ent {a : Au} (h : a.Shape) (p : List Int) (hp : p ∈ a.next) (x : Int) (hx : x ∈ p) : -1 ≤ x ∧ x < a.next.length := by
  have h8 := h.mem_row p hp
  obtain ⟨i, hi, rfl⟩ := List.mem_iff_getElem.1 hp
  obtain ⟨c, hc, rfl⟩ := List.mem_iff_getElem.1 hx
  have := h.ent i hi c (by omega)
  rw [List.getD_eq_getElem?_getD (l := a.next), List.getElem?_eq_getElem hi, Option.getD_some, List.getD_eq_getElem?_getD, List.getElem?_eq_getElem hc] at this
  exact this
theorem Shape.any_ok {a : Au} (h : a.Shape) : (a.next.any fun p => (p.length != 8) || p.any fun x => decide (x < -1) || decide ((a.next.length : Int) ≤ x)) = false := by
  rw [List.any_eq_false]
  intro p hp
  rw [h.mem_row p hp]
  simp only [bne_self_eq_false, Bool.false_or, Bool.not_eq_true, List.any_eq_false, Bool.or_eq_false_iff, decide_eq_false_iff_not]
  intro x hx
  have := h.mem_ent p hp x hx
  omega
theorem acc_neg {a : Au} {i : Int} (h : i < 0) (w : List Int) : ¬ a.acc i w := by
  cases w <;> simp only [acc] <;> omega
theorem acc_cons {a : Au} {i c : Int} {w : List Int} (hi : 0 ≤ i) (h0 : 0 ≤ c) (h8 : c < 8) : a.acc i (c :: w) ↔ a.acc (a.to i c) w := by
  simp only [acc]; exact ⟨fun h => h.2.2.2, fun h => ⟨hi, h0, h8, h⟩⟩
theorem acc_over {a : Au} : ∀ {w : List Int} {i : Int}, a.acc i w → ∀ c ∈ w, 0 ≤ c ∧ c < 8
  | [], _, _, c, hc => by cases hc
  | d :: w, i, h, c, hc => by
    simp only [acc] at h
    rcases List.mem_cons.1 hc with rfl | hc
    · exact ⟨h.2.1, h.2.2.1⟩
    · exact acc_over h.2.2.2 c hc
/-- the state behind a word -/
def run (a : Au) (i : Int) (w : List Int) : Int := w.foldl (fun i c => if 0 ≤ i then a.to i c else i) i
theorem run_neg {a : Au} {i : Int} (h : i < 0) : ∀ w : List Int, a.run i w = i
  | [] => rfl
  | c :: w => by
    show a.run (if 0 ≤ i then a.to i c else i) w = i
    rw [if_neg (by omega)]; exact run_neg h w
theorem run_cons (a : Au) (i c : Int) (w : List Int) (hi : 0 ≤ i) : a.run i (c :: w) = a.run (a.to i c) w := by
  show a.run (if 0 ≤ i then a.to i c else i) w = _
  rw [if_pos hi]
theorem run_snoc (a : Au) (i c : Int) (w : List Int) : a.run i (w ++ [c]) = if 0 ≤ a.run i w then a.to (a.run i w) c else a.run i w := by
  rw [run, List.foldl_append]; rfl
theorem acc_run {a : Au} : ∀ (w : List Int) (i : Int), (∀ c ∈ w, 0 ≤ c ∧ c < 8) → (a.acc i w ↔ 0 ≤ a.run i w ∧ a.final.getD (a.run i w).toNat false = true)
  | [], i, _ => Iff.rfl
  | c :: w, i, h => by
    by_cases hi : 0 ≤ i
    · rw [acc_cons hi (h c List.mem_cons_self).1 (h c List.mem_cons_self).2, run_cons a i c w hi]
      exact acc_run w _ fun d hd => h d (List.mem_cons_of_mem _ hd)
    · rw [run_neg (by omega)]
      exact ⟨fun h' => absurd h' (acc_neg (by omega) _), fun h' => absurd h'.1 hi⟩
theorem to_range {a : Au} (h : a.Shape) {i c : Int} (hi0 : 0 ≤ i) (hi : i < a.next.length) (h0 : 0 ≤ c) (h8 : c < 8) : -1 ≤ a.to i c ∧ a.to i c < a.next.length :=
  h.ent i.toNat (by omega) c.toNat (by omega)
theorem run_range {a : Au} (h : a.Shape) : ∀ (w : List Int) (i : Int), -1 ≤ i → i < a.next.length → (∀ c ∈ w, 0 ≤ c ∧ c < 8) → -1 ≤ a.run i w ∧ a.run i w < a.next.length
  | [], i, h1, h2, _ => ⟨h1, h2⟩
  | c :: w, i, h1, h2, hw => by
    by_cases hi : 0 ≤ i
    · rw [run_cons a i c w hi]
      have h3 := to_range h hi h2 (hw c List.mem_cons_self).1 (hw c List.mem_cons_self).2
      exact run_range h w _ h3.1 h3.2 fun d hd => hw d (List.mem_cons_of_mem _ hd)
    · rw [run_neg (by omega)]; exact ⟨h1, h2⟩
/-- a machine in order, each of whose states leads to an end -/
structure Canon (a : Au) : Prop extends Shape a where
  live : ∀ i : Nat, i < a.next.length → ∃ w, a.acc (i : Int) w
  apart : ∀ i j : Nat, i < a.next.length → j < a.next.length → (∀ w, a.acc (i : Int) w ↔ a.acc (j : Int) w) → i = j
  first : ∀ k : Nat, 0 < k → k < a.next.length → ∃ i c : Nat, i < k ∧ c < 8 ∧ a.to (i : Int) (c : Int) = k ∧
    ∀ i' c' : Nat, (i' < i ∨ i' = i ∧ c' < c) → c' < 8 → a.to (i' : Int) (c' : Int) < k
def dead : Au := ⟨[List.replicate 8 (-1)], [false]⟩
theorem dead_to (c : Int) : dead.to 0 c = -1 := by
  simp only [to, dead, Int.toNat_zero, List.getD_cons_zero]
  rw [List.getD_eq_getElem?_getD, List.getElem?_replicate]
  split <;> rfl
theorem dead_acc (w : List Int) : ¬ dead.acc 0 w := by
  cases w with
  | nil => simp [acc, dead]
  | cons c w => simp only [acc, dead_to]; intro h; exact acc_neg (by decide) _ h.2.2.2
/-- a machine that belongs to its words -/
def Ord (a : Au) : Prop := a.Canon ∨ a = dead
theorem Ord.shape {a : Au} (h : a.Ord) : a.Shape := by
  rcases h with h | rfl
  · exact h.toShape
  · refine ⟨by decide, rfl, ?_, ?_⟩ <;> (intro i hi; obtain rfl : i = 0 := by simp [dead] at hi; omega)
    · rfl
    · intro c hc
      have := dead_to (c : Int)
      simp only [to, Int.toNat_zero, Int.toNat_natCast] at this
      rw [this]; decide
private theorem same_upto {a b : Au} (ha : a.Canon) (hb : b.Canon) (h0 : ∀ w, a.acc 0 w ↔ b.acc 0 w) :
    ∀ k, k ≤ a.next.length → (k ≤ b.next.length ∧ ∀ j, j < k → ∀ w, a.acc (j : Int) w ↔ b.acc (j : Int) w) := by
  have lem : ∀ {a b : Au}, a.Canon → b.Canon → ∀ k, 0 < k → k ≤ b.next.length → (∀ j, j < k → ∀ w, a.acc (j : Int) w ↔ b.acc (j : Int) w) →
      ∀ i c : Nat, i < k → c < 8 → a.to (i : Int) (c : Int) = (k : Int) → k < a.next.length →
      (k : Int) ≤ b.to (i : Int) (c : Int) := by
    intro a b ha hb k hk hkb hj i c hi hc he hka
    have hr := to_range hb.toShape (i := (i : Int)) (c := (c : Int)) (by omega) (by omega) (by omega) (by omega)
    rcases Int.lt_or_le (b.to (i : Int) (c : Int)) (k : Int) with h | h
    · exfalso
      have hw : ∀ w, a.acc (k : Int) w ↔ b.acc (b.to (i : Int) (c : Int)) w := fun w => by
        rw [← he, ← acc_cons (by omega) (by omega) (by omega), ← acc_cons (by omega) (by omega) (by omega)]
        exact hj i hi _
      rcases Int.lt_or_le (b.to (i : Int) (c : Int)) 0 with h1 | h1
      · obtain ⟨w, hl⟩ := ha.live k hka
        exact acc_neg h1 w ((hw w).1 hl)
      · obtain ⟨j, hjj⟩ : ∃ j : Nat, b.to (i : Int) (c : Int) = (j : Int) := ⟨_, (Int.toNat_of_nonneg h1).symm⟩
        rw [hjj] at hw h
        have := ha.apart k j hka (by omega) fun w => (hw w).trans (hj j (by omega) w).symm
        omega
    · exact h
  intro k
  induction k with
  | zero => exact fun _ => ⟨Nat.zero_le _, fun j hj => absurd hj (Nat.not_lt_zero _)⟩
  | succ k ih =>
    intro hk
    obtain ⟨h1, h2⟩ := ih (by omega)
    rcases Nat.eq_zero_or_pos k with rfl | hk0
    · refine ⟨hb.pos, fun j hj => ?_⟩
      obtain rfl : j = 0 := by omega
      exact h0
    · obtain ⟨i, c, hi, hc, he, hmin⟩ := ha.first k hk0 (by omega)
      have hge := lem ha hb k hk0 h1 h2 i c hi hc he (by omega)
      have hr := to_range hb.toShape (i := (i : Int)) (c := (c : Int)) (by omega) (by omega) (by omega) (by omega)
      have hkb : k < b.next.length := by omega
      obtain ⟨i2, c2, hi2, hc2, he2, hmin2⟩ := hb.first k hk0 hkb
      have hge2 := lem hb ha k hk0 (by omega) (fun j hj w => (h2 j hj w).symm) i2 c2 hi2 hc2 he2 hkb
      have heq : i = i2 ∧ c = c2 := by
        rcases Nat.lt_trichotomy i i2 with h | h | h
        · have := hmin2 i c (.inl h) hc; omega
        · subst h
          rcases Nat.lt_trichotomy c c2 with h | h | h
          · have := hmin2 i c (.inr ⟨rfl, h⟩) hc; omega
          · exact ⟨rfl, h⟩
          · have := hmin i c2 (.inr ⟨rfl, h⟩) hc2; omega
        · have := hmin i2 c2 (.inl h) hc2; omega
      obtain ⟨rfl, rfl⟩ := heq
      refine ⟨hkb, fun j hj w => ?_⟩
      rcases Nat.lt_or_ge j k with h | h
      · exact h2 j h w
      · obtain rfl : j = k := by omega
        have e1 := acc_cons (a := a) (i := (i : Int)) (c := (c : Int)) (w := w) (by omega) (by omega) (by omega)
        have e2 := acc_cons (a := b) (i := (i : Int)) (c := (c : Int)) (w := w) (by omega) (by omega) (by omega)
        rw [he] at e1
        rw [he2] at e2
        rw [← e1, ← e2]
        exact h2 i hi _
theorem list_ext {α : Type} (z : α) {l m : List α} (h : l.length = m.length) (hs : ∀ i, i < l.length → l.getD i z = m.getD i z) : l = m := by
  refine List.ext_getElem h fun i h1 h2 => ?_
  have := hs i h1
  rwa [List.getD_eq_getElem?_getD, List.getD_eq_getElem?_getD, List.getElem?_eq_getElem h1, List.getElem?_eq_getElem h2] at this
/-- TO EACH SET OF WORDS BELONGS JUST ONE MACHINE IN ORDER. -/
theorem Canon.unique {a b : Au} (ha : a.Canon) (hb : b.Canon) (h0 : ∀ w, a.acc 0 w ↔ b.acc 0 w) : a = b := by
  obtain ⟨h1, h2⟩ := same_upto ha hb h0 _ (Nat.le_refl _)
  obtain ⟨h3, _⟩ := same_upto hb ha (fun w => (h0 w).symm) _ (Nat.le_refl _)
  have hn : a.next.length = b.next.length := by omega
  have hto : ∀ i c : Nat, i < a.next.length → c < 8 → a.to (i : Int) (c : Int) = b.to (i : Int) (c : Int) := by
    intro i c hi hc
    have ra := to_range ha.toShape (i := (i : Int)) (c := (c : Int)) (by omega) (by omega) (by omega) (by omega)
    have rb := to_range hb.toShape (i := (i : Int)) (c := (c : Int)) (by omega) (by omega) (by omega) (by omega)
    have hw : ∀ w, a.acc (a.to (i : Int) (c : Int)) w ↔ b.acc (b.to (i : Int) (c : Int)) w := fun w => by
      rw [← acc_cons (by omega) (by omega) (by omega), ← acc_cons (by omega) (by omega) (by omega)]
      exact h2 i hi _
    rcases Int.lt_or_le (a.to (i : Int) (c : Int)) 0 with g1 | g1
    · rcases Int.lt_or_le (b.to (i : Int) (c : Int)) 0 with g2 | g2
      · omega
      · obtain ⟨j, hj⟩ : ∃ j : Nat, b.to (i : Int) (c : Int) = (j : Int) := ⟨_, (Int.toNat_of_nonneg g2).symm⟩
        obtain ⟨w, hl⟩ := hb.live j (by omega)
        rw [hj] at hw
        exact absurd ((hw w).2 hl) (acc_neg g1 w)
    · obtain ⟨j, hj⟩ : ∃ j : Nat, a.to (i : Int) (c : Int) = (j : Int) := ⟨_, (Int.toNat_of_nonneg g1).symm⟩
      obtain ⟨w, hl⟩ := ha.live j (by omega)
      rcases Int.lt_or_le (b.to (i : Int) (c : Int)) 0 with g2 | g2
      · rw [hj] at hw
        exact absurd ((hw w).1 hl) (acc_neg g2 w)
      · obtain ⟨k, hk⟩ : ∃ k : Nat, b.to (i : Int) (c : Int) = (k : Int) := ⟨_, (Int.toNat_of_nonneg g2).symm⟩
        rw [hj, hk] at hw
        have := hb.apart j k (by omega) (by omega) fun w => (h2 j (by omega) w).symm.trans (hw w)
        omega
  have e1 : a.next = b.next := by
    refine list_ext [] hn fun i hi => ?_
    refine list_ext (-1) ((ha.row i hi).trans (hb.row i (by omega)).symm) fun c hc => ?_
    rw [ha.row i hi] at hc
    have := hto i c hi hc
    simpa only [to, Int.toNat_natCast] using this
  have e2 : a.final = b.final := by
    refine list_ext false (by rw [ha.fin, hb.fin, hn]) fun i hi => ?_
    rw [ha.fin] at hi
    have := h2 i hi []
    simp only [acc, Int.toNat_natCast] at this
    have h4 : (a.final.getD i false = true) ↔ (b.final.getD i false = true) := ⟨fun h => (this.1 ⟨by omega, h⟩).2, fun h => (this.2 ⟨by omega, h⟩).2⟩
    exact Bool.eq_iff_iff.2 h4
  cases a; cases b; simp only at e1 e2; subst e1 e2; rfl
theorem Ord.unique {a b : Au} (ha : a.Ord) (hb : b.Ord) (h0 : ∀ w, a.acc 0 w ↔ b.acc 0 w) : a = b := by
  rcases ha with ha | rfl
  · rcases hb with hb | rfl
    · exact ha.unique hb h0
    · obtain ⟨w, hw⟩ := ha.live 0 ha.pos
      exact absurd ((h0 w).1 hw) (dead_acc w)
  · rcases hb with hb | rfl
    · obtain ⟨w, hw⟩ := hb.live 0 hb.pos
      exact absurd ((h0 w).2 hw) (dead_acc w)
    · rfl
end Au
end Go.Vl
end

section
set_option linter.unusedVariables false
set_option linter.unusedSimpArgs false
namespace Go.Vl
namespace Lg
/-- behind whatever letters words are those of some of m sets -/
def Wid (A : Lg) (m : Nat) : Prop := ∃ l : List Lg, l.length ≤ m ∧ ∀ u : List Int, u ≠ [] → ∃ S : Lg → Prop, ∀ w, A (u ++ w) ↔ ∃ B, B ∈ l ∧ S B ∧ B w
theorem Wid.mono {A : Lg} {m n : Nat} (h : Wid A m) (hn : m ≤ n) : Wid A n := by
  obtain ⟨l, h1, h2⟩ := h; exact ⟨l, by omega, h2⟩
theorem wid_none : Wid none 0 := ⟨[], Nat.le_refl _, fun u hu => ⟨fun _ => False, fun w => by simp [none]⟩⟩
theorem wid_eps : Wid eps 0 := ⟨[], Nat.le_refl _, fun u hu => ⟨fun _ => False, fun w => by simp [eps, hu]⟩⟩
theorem wid_one (n : Int) : Wid (one n) 1 := by
  refine ⟨[eps], Nat.le_refl _, fun u hu => ⟨fun _ => u = [n], fun w => ?_⟩⟩
  simp only [List.mem_singleton, one, eps]
  constructor
  · intro h
    cases u with
    | nil => exact absurd rfl hu
    | cons c u =>
      simp only [List.cons_append, List.cons.injEq, List.append_eq_nil_iff] at h
      obtain ⟨rfl, rfl, rfl⟩ := h
      exact ⟨_, rfl, rfl, rfl⟩
  · rintro ⟨B, rfl, rfl, h⟩
    have h : w = [] := h
    subst h; rfl
theorem Wid.alt {A B : Lg} {m n : Nat} (ha : Wid A m) (hb : Wid B n) : Wid (alt A B) (m + n) := by
  obtain ⟨la, a1, a2⟩ := ha
  obtain ⟨lb, b1, b2⟩ := hb
  refine ⟨la ++ lb, by rw [List.length_append]; omega, fun u hu => ?_⟩
  obtain ⟨SA, hA⟩ := a2 u hu
  obtain ⟨SB, hB⟩ := b2 u hu
  refine ⟨fun E => (E ∈ la ∧ SA E) ∨ (E ∈ lb ∧ SB E), fun w => ?_⟩
  constructor
  · rintro (h | h)
    · obtain ⟨E, h1, h2, h3⟩ := (hA w).1 h
      exact ⟨E, List.mem_append_left _ h1, .inl ⟨h1, h2⟩, h3⟩
    · obtain ⟨E, h1, h2, h3⟩ := (hB w).1 h
      exact ⟨E, List.mem_append_right _ h1, .inr ⟨h1, h2⟩, h3⟩
  · rintro ⟨E, _, ⟨h1, h2⟩ | ⟨h1, h2⟩, h3⟩
    · exact .inl ((hA w).2 ⟨E, h1, h2, h3⟩)
    · exact .inr ((hB w).2 ⟨E, h1, h2, h3⟩)
theorem cat_split {A B : Lg} {u w : List Int} (h : cat A B (u ++ w)) : (∃ p q, w = p ++ q ∧ A (u ++ p) ∧ B q) ∨ (∃ p v, u = p ++ v ∧ v ≠ [] ∧ A p ∧ B (v ++ w)) := by
  obtain ⟨p, q, e, hp, hq⟩ := h
  rcases List.append_eq_append_iff.1 e with ⟨t, h1, h2⟩ | ⟨t, h1, h2⟩
  · subst h1; exact .inl ⟨t, q, h2, hp, hq⟩
  · subst h1 h2
    rcases t with _ | ⟨x, t⟩
    · exact .inl ⟨[], w, rfl, by simpa using hp, by simpa using hq⟩
    · exact .inr ⟨p, x :: t, rfl, by simp, hp, hq⟩
theorem Wid.cat {A B : Lg} {m n : Nat} (ha : Wid A m) (hb : Wid B n) : Wid (cat A B) (m + n) := by
  obtain ⟨la, a1, a2⟩ := ha
  obtain ⟨lb, b1, b2⟩ := hb
  refine ⟨la.map (fun C => Lg.cat C B) ++ lb, by rw [List.length_append, List.length_map]; omega, fun u hu => ?_⟩
  obtain ⟨SA, hA⟩ := a2 u hu
  refine ⟨fun E => (∃ C, C ∈ la ∧ SA C ∧ E = Lg.cat C B) ∨ (∃ p v, u = p ++ v ∧ v ≠ [] ∧ A p ∧ E ∈ lb ∧ ∀ w, E w → B (v ++ w)), fun w => ?_⟩
  constructor
  · intro h
    rcases cat_split h with ⟨p, q, rfl, hp, hq⟩ | ⟨p, v, rfl, hv, hp, hq⟩
    · obtain ⟨C, h1, h2, h3⟩ := (hA p).1 hp
      exact ⟨Lg.cat C B, List.mem_append_left _ (List.mem_map_of_mem h1), .inl ⟨C, h1, h2, rfl⟩, p, q, rfl, h3, hq⟩
    · obtain ⟨SB, hB⟩ := b2 v hv
      obtain ⟨E, h1, h2, h3⟩ := (hB w).1 hq
      exact ⟨E, List.mem_append_right _ h1, .inr ⟨p, v, rfl, hv, hp, h1, fun w' hw' => (hB w').2 ⟨E, h1, h2, hw'⟩⟩, h3⟩
  · rintro ⟨E, _, ⟨C, h1, h2, rfl⟩ | ⟨p, v, rfl, hv, hp, h1, h2⟩, h3⟩
    · obtain ⟨p, q, rfl, hp, hq⟩ := h3
      exact ⟨u ++ p, q, by simp, (hA p).2 ⟨C, h1, h2, hp⟩, hq⟩
    · exact ⟨p, v ++ w, by simp, hp, h2 w h3⟩
theorem star_split {A : Lg} {z : List Int} (h : star A z) : ∀ u w : List Int, u ≠ [] → z = u ++ w → ∃ p v w1 w2, u = p ++ v ∧ v ≠ [] ∧ star A p ∧ w = w1 ++ w2 ∧ A (v ++ w1) ∧ star A w2 := by
  induction h with
  | nil => intro u w hu e; exact absurd (List.append_eq_nil_iff.1 e.symm).1 hu
  | cons a b ha hb ih =>
    intro u w hu e
    rcases List.append_eq_append_iff.1 e with ⟨t, h1, h2⟩ | ⟨t, h1, h2⟩
    · subst h1 h2
      rcases t with _ | ⟨x, t⟩
      · exact ⟨[], a ++ [], [], w, by simp, hu, .nil, rfl, by simpa using ha, by simpa using hb⟩
      · obtain ⟨p, v, w1, w2, h3, h4, h5, h6, h7, h8⟩ := ih (x :: t) w (by simp) rfl
        exact ⟨a ++ p, v, w1, w2, by rw [h3, List.append_assoc], h4, .cons a p ha h5, h6, h7, h8⟩
    · subst h1 h2
      exact ⟨[], u, t, b, rfl, hu, .nil, rfl, ha, hb⟩
theorem Wid.star {A : Lg} {m : Nat} (ha : Wid A m) : Wid (star A) m := by
  obtain ⟨la, a1, a2⟩ := ha
  refine ⟨la.map (fun C => Lg.cat C (Lg.star A)), by rw [List.length_map]; exact a1, fun u hu => ?_⟩
  refine ⟨fun E => ∃ p v C, u = p ++ v ∧ v ≠ [] ∧ Lg.star A p ∧ C ∈ la ∧ (∀ w, C w → A (v ++ w)) ∧ E = Lg.cat C (Lg.star A), fun w => ?_⟩
  constructor
  · intro h
    obtain ⟨p, v, w1, w2, rfl, hv, hp, rfl, h1, h2⟩ := star_split h u w hu rfl
    obtain ⟨S, hS⟩ := a2 v hv
    obtain ⟨C, c1, c2, c3⟩ := (hS w1).1 h1
    exact ⟨_, List.mem_map_of_mem c1, ⟨p, v, C, rfl, hv, hp, c1, fun w hw => (hS w).2 ⟨C, c1, c2, hw⟩, rfl⟩, w1, w2, rfl, c3, h2⟩
  · rintro ⟨E, _, ⟨p, v, C, rfl, hv, hp, c1, c2, rfl⟩, w1, w2, rfl, h1, h2⟩
    rw [List.append_assoc]
    refine star_append hp ?_
    rw [← List.append_assoc]
    exact .cons _ _ (c2 w1 h1) h2
theorem Wid.same {A B : Lg} {m : Nat} (ha : Wid A m) (h : ∀ w, w ≠ [] → (B w ↔ A w)) : Wid B m := by
  obtain ⟨la, a1, a2⟩ := ha
  refine ⟨la, a1, fun u hu => ?_⟩
  obtain ⟨S, hS⟩ := a2 u hu
  exact ⟨S, fun w => (h (u ++ w) (fun e => hu (List.append_eq_nil_iff.1 e).1)).trans (hS w)⟩
theorem Wid.sfl {A : Lg} {m : Nat} (ha : Wid A m) (k : Nat) : Wid (sfl A k) m := by
  unfold Lg.sfl
  split
  · exact ha.star
  · split
    · refine ha.star.same fun w hw => ?_
      have e : Lg.star A w ↔ Lg.alt eps (Lg.cat A (Lg.star A)) w := by rw [← star_unfold A]
      rw [e]
      exact ⟨.inr, fun h => h.resolve_left hw⟩
    · exact ha.same fun w hw => ⟨fun h => h.resolve_left hw, .inr⟩
theorem Wid.foldl : ∀ (sf : List Nat) {A : Lg} {m : Nat}, Wid A m → Wid (sf.foldl Lg.sfl A) m
  | [], _, _, h => h
  | k :: sf, _, _, h => Wid.foldl sf (h.sfl k)
end Lg
namespace It
mutual
/-- how many letters -/
def nl : It → Nat
  | ch _ _ => 1
  | gr s a _ => snl s + anl a
def snl : List It → Nat
  | [] => 0
  | i :: s => nl i + snl s
def anl : List (List It) → Nat
  | [] => 0
  | s :: a => snl s + anl a
end
theorem snl_append (s t : List It) : snl (s ++ t) = snl s + snl t := by
  induction s with
  | nil => simp [snl]
  | cons d l ih => rw [List.cons_append, snl, snl, ih]; omega
theorem slg_wid' (s : List It) (h : ∀ i ∈ s, Lg.Wid (lg i) (nl i)) : Lg.Wid (slg s) (snl s) := by
  induction s with
  | nil => exact Lg.wid_eps
  | cons i s ih => rw [slg, snl]; exact (h i List.mem_cons_self).cat (ih fun j hj => h j (List.mem_cons_of_mem _ hj))
theorem alg_wid' (a : List (List It)) (h : ∀ t ∈ a, Lg.Wid (slg t) (snl t)) : Lg.Wid (alg a) (anl a) := by
  induction a with
  | nil => exact Lg.wid_none
  | cons t a ih => rw [alg, anl]; exact (h t List.mem_cons_self).alt (ih fun j hj => h j (List.mem_cons_of_mem _ hj))
theorem lg_wid : ∀ i : It, Lg.Wid (lg i) (nl i) := by
  refine rec' ?_ ?_
  · intro n sf
    rw [lg, nl]; exact (Lg.wid_one _).foldl sf
  · intro s a sf h1 h2
    rw [lg, nl]
    exact ((slg_wid' s h1).alt (alg_wid' a fun t ht => slg_wid' t (h2 t ht))).foldl sf
theorem slg_wid (s : List It) : Lg.Wid (slg s) (snl s) := slg_wid' s fun i _ => lg_wid i
end It
/-- what is parted into fewer places has two in one place -/
theorem pigeon : ∀ (N n : Nat) (f : Nat → Nat), (∀ i, i < n → f i < N) → (∀ i j, i < n → j < n → f i = f j → i = j) → n ≤ N
  | 0, n, f, h1, _ => by
    rcases Nat.eq_zero_or_pos n with h | h
    · omega
    · exact absurd (h1 0 h) (Nat.not_lt_zero _)
  | N + 1, n, f, h1, h2 => by
    by_cases h : ∃ i, i < n ∧ f i = N
    · obtain ⟨i0, h3, h4⟩ := h
      have := pigeon N (n - 1) (fun i => f (if i < i0 then i else i + 1)) (fun i hi => by
        have h5 := h1 (if i < i0 then i else i + 1) (by split <;> omega)
        have h6 : f (if i < i0 then i else i + 1) ≠ N := fun e => by
          have := h2 _ i0 (by split <;> omega) h3 (e.trans h4.symm)
          split at this <;> omega
        show f (if i < i0 then i else i + 1) < N
        omega) (fun i j hi hj e => by
          have := h2 _ _ (by split <;> omega) (by split <;> omega) e
          split at this <;> split at this <;> omega)
      omega
    · have := pigeon N n f (fun i hi => by have := h1 i hi; have : f i ≠ N := fun e => h ⟨i, hi, e⟩; omega) h2
      omega
/-- a row of bools as_ a number -/
def bval : List Bool → Nat
  | [] => 0
  | b :: l => (if b then 1 else 0) + 2 * bval l
theorem bval_lt : ∀ l : List Bool, bval l < 2 ^ l.length
  | [] => by simp [bval]
  | b :: l => by
    have := bval_lt l
    rw [bval, List.length_cons, Nat.pow_succ]; split <;> omega
theorem bval_inj : ∀ l m : List Bool, l.length = m.length → bval l = bval m → l = m
  | [], [], _, _ => rfl
  | a :: l, b :: m, h, e => by
    simp only [List.length_cons, bval] at h e
    have hab : a = b := by cases a <;> cases b <;> simp at e ⊢ <;> omega
    subst hab
    rw [bval_inj l m (by omega) (by omega)]
  | [], b :: m, h, _ => by simp at h
  | a :: l, [], h, _ => by simp at h
namespace Au
/-- each state is behind a word -/
theorem Canon.word {a : Au} (h : a.Canon) : ∀ k : Nat, k < a.next.length → ∃ u, (0 < k → u ≠ []) ∧ ∀ w, a.acc 0 (u ++ w) ↔ a.acc (k : Int) w := by
  intro k
  induction k using Nat.strongRecOn with
  | _ k ih =>
    intro hk
    rcases Nat.eq_zero_or_pos k with rfl | h0
    · exact ⟨[], fun h => absurd h (Nat.lt_irrefl _), fun w => Iff.rfl⟩
    · obtain ⟨i, c, hi, hc, he, _⟩ := h.first k h0 hk
      obtain ⟨u, _, hu⟩ := ih i hi (by omega)
      refine ⟨u ++ [(c : Int)], fun _ => by simp, fun w => ?_⟩
      rw [List.append_assoc, hu, List.singleton_append, acc_cons (by omega) (by omega) (by omega), he]
theorem Canon.size {a : Au} (h : a.Canon) {m : Nat} (hw : Lg.Wid (a.acc 0) m) : a.next.length ≤ 2 ^ m := by
  classical
  obtain ⟨l, hl, hS⟩ := hw
  have key : ∀ k : Nat, k < a.next.length → ∃ S : Lg → Prop, (0 < k → ∀ w, a.acc (k : Int) w ↔ ∃ B, B ∈ l ∧ S B ∧ B w) ∧ (k = 0 → ∀ B, ¬ S B) := by
    intro k hk
    obtain ⟨u, hu, hw⟩ := h.word k hk
    rcases Nat.eq_zero_or_pos k with h0 | h0
    · exact ⟨fun _ => False, fun h => by omega, fun _ B h => h⟩
    · obtain ⟨S, hS⟩ := hS u (hu h0)
      exact ⟨S, fun _ w => (hw w).symm.trans (hS w), fun h => by omega⟩
  let F : Nat → Lg → Prop := fun k => if hk : k < a.next.length then Classical.choose (key k hk) else fun _ => False
  have hF : ∀ k, k < a.next.length → (0 < k → ∀ w, a.acc (k : Int) w ↔ ∃ B, B ∈ l ∧ F k B ∧ B w) ∧ (k = 0 → ∀ B, ¬ F k B) := by
    intro k hk
    have := Classical.choose_spec (key k hk)
    simp only [F, dif_pos hk]
    exact this
  let f : Nat → Nat := fun k => bval (l.map fun B => decide (F k B))
  refine Nat.le_trans (pigeon (2 ^ l.length) a.next.length f (fun i hi => ?_) (fun i j hi hj e => ?_)) (Nat.pow_le_pow_right (by decide) hl)
  · have := bval_lt (l.map fun B => decide (F i B))
    rwa [List.length_map] at this
  · have e := bval_inj _ _ (by rw [List.length_map, List.length_map]) e
    have e2 : ∀ B ∈ l, (F i B ↔ F j B) := fun B hB => by
      have := List.map_inj_left.1 e B hB
      simpa using this
    obtain ⟨i1, i2⟩ := hF i hi
    obtain ⟨j1, j2⟩ := hF j hj
    have emp : ∀ i j : Nat, i < a.next.length → i = 0 → 0 < j → j < a.next.length → (∀ B ∈ l, (F i B ↔ F j B)) → False := fun i j hi h0 hj0 hj e2 => by
      obtain ⟨w, hw⟩ := h.live j hj
      obtain ⟨B, hB, hs, _⟩ := ((hF j hj).1 hj0 w).1 hw
      exact (hF i hi).2 h0 B ((e2 B hB).2 hs)
    rcases Nat.eq_zero_or_pos i with hi0 | hi0
    · rcases Nat.eq_zero_or_pos j with hj0 | hj0
      · omega
      · exact (emp i j hi hi0 hj0 hj e2).elim
    · rcases Nat.eq_zero_or_pos j with hj0 | hj0
      · exact (emp j i hj hj0 hi0 hi fun B hB => (e2 B hB).symm).elim
      · refine h.apart i j hi hj fun w => ?_
        rw [i1 hi0 w, j1 hj0 w]
        exact ⟨fun ⟨B, hB, hs, hw⟩ => ⟨B, hB, (e2 B hB).1 hs, hw⟩, fun ⟨B, hB, hs, hw⟩ => ⟨B, hB, (e2 B hB).2 hs, hw⟩⟩
theorem Ord.size {a : Au} (h : a.Ord) {m : Nat} (hw : Lg.Wid (a.acc 0) m) : a.next.length ≤ 2 ^ m := by
  rcases h with h | rfl
  · exact h.size hw
  · exact Nat.one_le_two_pow
end Au
end Go.Vl
end

section
set_option linter.unusedVariables false
set_option linter.unusedSimpArgs false
namespace Go.Vl
namespace Au
def lives (w : Au) (i : Nat) : Prop := ∃ u, w.acc (i : Int) u
/-- the class that a letter leads to -/
def cto (w : Au) (out : Nat → Int) (i c : Nat) : Int := if 0 ≤ w.to (i : Int) (c : Int) then out (w.to (i : Int) (c : Int)).toNat else -1
/-- classes that are yet to be divided: so many -/
structure Moore (w : Au) (out : Nat → Int) (many : Nat) : Prop where
  neg : ∀ i, i < w.next.length → (out i < 0 ↔ ¬ w.lives i)
  same : ∀ i j, i < w.next.length → j < w.next.length → w.lives i → (∀ u, w.acc (i : Int) u ↔ w.acc (j : Int) u) → out i = out j
  fin : ∀ i j, i < w.next.length → j < w.next.length → 0 ≤ out i → out i = out j → w.final.getD i false = w.final.getD j false
  cnt : many ≠ 0 → (∀ i, i < w.next.length → out i < (many : Int)) ∧ ∀ v : Nat, v < many → ∃ i, i < w.next.length ∧ out i = (v : Int)
/-- they are divided once more, into m -/
structure Div (w : Au) (out next : Nat → Int) (m : Nat) : Prop where
  neg : ∀ i, i < w.next.length → (next i < 0 ↔ out i < 0)
  eq : ∀ i j, i < w.next.length → j < w.next.length → 0 ≤ out i → 0 ≤ out j → (next i = next j ↔ (out i = out j ∧ ∀ c : Nat, c < 8 → w.cto out i c = w.cto out j c))
  lt : ∀ i, i < w.next.length → next i < (m : Int)
  hit : ∀ v : Nat, v < m → ∃ i, i < w.next.length ∧ next i = (v : Int)
theorem to_state {w : Au} (hs : w.Shape) {i c : Nat} (hi : i < w.next.length) (hc : c < 8) : w.to (i : Int) (c : Int) < 0 ∨ ∃ j : Nat, j < w.next.length ∧ w.to (i : Int) (c : Int) = (j : Int) := by
  have := to_range hs (i := (i : Int)) (c := (c : Int)) (by omega) (by omega) (by omega) (by omega)
  rcases Int.lt_or_le (w.to (i : Int) (c : Int)) 0 with h | h
  · exact .inl h
  · exact .inr ⟨(w.to (i : Int) (c : Int)).toNat, by omega, by omega⟩
theorem cto_neg {w : Au} {out : Nat → Int} {i c : Nat} (h : w.to (i : Int) (c : Int) < 0) : w.cto out i c = -1 := by
  unfold cto; rw [if_neg (by omega)]
theorem cto_nat {w : Au} {out : Nat → Int} {i c j : Nat} (h : w.to (i : Int) (c : Int) = (j : Int)) : w.cto out i c = out j := by
  unfold cto; rw [h, if_pos (by omega)]; rfl
theorem acc_step {w : Au} (i : Nat) (c : Nat) (hc : c < 8) (u : List Int) : w.acc (i : Int) ((c : Int) :: u) ↔ w.acc (w.to (i : Int) (c : Int)) u := acc_cons (by omega) (by omega) (by omega)
section div
variable {w : Au} {out next : Nat → Int} {many m : Nat}
/-- what means the same leads to the same class -/
theorem Moore.step (hs : w.Shape) (h : w.Moore out many) {i j : Nat} (hi : i < w.next.length) (hj : j < w.next.length) (hl : ∀ u, w.acc (i : Int) u ↔ w.acc (j : Int) u) {c : Nat} (hc : c < 8) (hneg1 : ∀ k, k < w.next.length → out k < 0 → out k = -1) : w.cto out i c = w.cto out j c := by
  have hl2 : ∀ u, w.acc (w.to (i : Int) (c : Int)) u ↔ w.acc (w.to (j : Int) (c : Int)) u := fun u => by
    rw [← acc_step i c hc, ← acc_step j c hc]; exact hl _
  rcases to_state hs hi hc with h1 | ⟨a, ha, h1⟩ <;> rcases to_state hs hj hc with h2 | ⟨b, hb, h2⟩
  · rw [cto_neg h1, cto_neg h2]
  · rw [cto_neg h1, cto_nat h2]
    rw [h2] at hl2
    have : out b < 0 := (h.neg b hb).2 fun ⟨u, hu⟩ => acc_neg h1 u ((hl2 u).2 hu)
    rw [hneg1 b hb this]
  · rw [cto_nat h1, cto_neg h2]
    rw [h1] at hl2
    have : out a < 0 := (h.neg a ha).2 fun ⟨u, hu⟩ => acc_neg h2 u ((hl2 u).1 hu)
    rw [hneg1 a ha this]
  · rw [cto_nat h1, cto_nat h2]
    rw [h1, h2] at hl2
    by_cases hlv : w.lives a
    · exact h.same a b ha hb hlv hl2
    · have h3 := (h.neg a ha).2 hlv
      have h4 : out b < 0 := (h.neg b hb).2 fun ⟨u, hu⟩ => hlv ⟨u, (hl2 u).2 hu⟩
      rw [hneg1 a ha h3, hneg1 b hb h4]
theorem Moore.div (hs : w.Shape) (h : w.Moore out many) (hn : ∀ k, k < w.next.length → out k < 0 → out k = -1) (hd : w.Div out next m) : w.Moore next m := by
  refine ⟨fun i hi => (hd.neg i hi).trans (h.neg i hi), fun i j hi hj hl he => ?_, fun i j hi hj h0 he => ?_, fun _ => ⟨hd.lt, hd.hit⟩⟩
  · have hi0 : 0 ≤ out i := Int.not_lt.1 fun h' => ((h.neg i hi).1 h') hl
    have hlj : w.lives j := by obtain ⟨u, hu⟩ := hl; exact ⟨u, (he u).1 hu⟩
    have hj0 : 0 ≤ out j := Int.not_lt.1 fun h' => ((h.neg j hj).1 h') hlj
    exact (hd.eq i j hi hj hi0 hj0).2 ⟨h.same i j hi hj hl he, fun c hc => h.step hs hi hj he hc hn⟩
  · have hi0 : 0 ≤ out i := Int.not_lt.1 fun h' => by have := (hd.neg i hi).2 h'; omega
    have hj0 : 0 ≤ out j := Int.not_lt.1 fun h' => by have := (hd.neg j hj).2 h'; omega
    exact h.fin i j hi hj hi0 ((hd.eq i j hi hj hi0 hj0).1 he).1
/-- not fewer than there were -/
theorem Moore.grows (h : w.Moore out many) (hd : w.Div out next m) : many ≤ m := by
  classical
  rcases Nat.eq_zero_or_pos many with h0 | h0
  · omega
  · obtain ⟨_, hh⟩ := h.cnt (by omega)
    let g : Nat → Nat := fun v => if hv : v < many then (next (Classical.choose (hh v hv))).toNat else 0
    refine pigeon m many g (fun v hv => ?_) (fun v u hv hu e => ?_)
    · simp only [g, dif_pos hv]
      obtain ⟨h1, h2⟩ := Classical.choose_spec (hh v hv)
      have h3 := hd.lt _ h1
      have h4 : ¬ next (Classical.choose (hh v hv)) < 0 := fun h' => by have := (hd.neg _ h1).1 h'; omega
      omega
    · simp only [g, dif_pos hv, dif_pos hu] at e
      obtain ⟨h1, h2⟩ := Classical.choose_spec (hh v hv)
      obtain ⟨h3, h4⟩ := Classical.choose_spec (hh u hu)
      have h5 : ¬ next (Classical.choose (hh v hv)) < 0 := fun h' => by have := (hd.neg _ h1).1 h'; omega
      have h6 : ¬ next (Classical.choose (hh u hu)) < 0 := fun h' => by have := (hd.neg _ h3).1 h'; omega
      have := ((hd.eq _ _ h1 h3 (by omega) (by omega)).1 (by omega)).1
      omega
/-- not more than there are states -/
theorem Div.most (hd : w.Div out next m) : m ≤ w.next.length := by
  classical
  let g : Nat → Nat := fun v => if hv : v < m then Classical.choose (hd.hit v hv) else 0
  refine pigeon w.next.length m g (fun v hv => ?_) (fun v u hv hu e => ?_)
  · simp only [g, dif_pos hv]; exact (Classical.choose_spec (hd.hit v hv)).1
  · simp only [g, dif_pos hv, dif_pos hu] at e
    have h1 := (Classical.choose_spec (hd.hit v hv)).2
    have h2 := (Classical.choose_spec (hd.hit u hu)).2
    rw [e] at h1
    omega
/-- as_ many as_ before: the same ones -/
theorem Moore.still (h : w.Moore out many) (hd : w.Div out next many) {i j : Nat} (hi : i < w.next.length) (hj : j < w.next.length) (hi0 : 0 ≤ out i) (he : out i = out j) : next i = next j := by
  classical
  by_cases hne : next i = next j
  · exact hne
  exfalso
  have hj0 : 0 ≤ out j := by omega
  have ni : 0 ≤ next i := Int.not_lt.1 fun h' => by have := (hd.neg i hi).1 h'; omega
  have nj : 0 ≤ next j := Int.not_lt.1 fun h' => by have := (hd.neg j hj).1 h'; omega
  have hm : many ≠ 0 := fun h0 => by have := hd.lt i hi; omega
  obtain ⟨hlt, hh⟩ := h.cnt hm
  -- a state of each class; that of i's class is i
  let rep : Nat → Nat := fun v => if (v : Int) = out i then i else if hv : v < many then Classical.choose (hh v hv) else 0
  have hrep : ∀ v, v < many → rep v < w.next.length ∧ out (rep v) = (v : Int) := fun v hv => by
    by_cases e : (v : Int) = out i
    · have : rep v = i := if_pos e
      rw [this]; exact ⟨hi, e.symm⟩
    · have : rep v = Classical.choose (hh v hv) := by simp only [rep]; rw [if_neg e, dif_pos hv]
      rw [this]; exact Classical.choose_spec (hh v hv)
  have hnot : ∀ v, v < many → next (rep v) ≠ next j := fun v hv e => by
    obtain ⟨h1, h2⟩ := hrep v hv
    have h3 : out (rep v) = out j := ((hd.eq _ _ h1 hj (by omega) hj0).1 e).1
    have h4 : rep v = i := by simp only [rep]; rw [if_pos (by omega)]
    rw [h4] at e
    exact hne e
  have hpos : ∀ v, v < many → 0 ≤ next (rep v) := fun v hv => by
    obtain ⟨h1, h2⟩ := hrep v hv
    exact Int.not_lt.1 fun h' => by have := (hd.neg _ h1).1 h'; omega
  have := pigeon (many - 1) many (fun v => if next (rep v) < next j then (next (rep v)).toNat else (next (rep v)).toNat - 1) (fun v hv => by
      have h1 := hnot v hv; have h2 := hpos v hv; have h3 := hd.lt _ (hrep v hv).1; have h4 := hd.lt j hj
      show (if next (rep v) < next j then (next (rep v)).toNat else (next (rep v)).toNat - 1) < many - 1
      split <;> omega) (fun v u hv hu e => by
      have h1 := hnot v hv; have h2 := hpos v hv
      have g1 := hnot u hu; have g2 := hpos u hu
      have e : next (rep v) = next (rep u) := by
        have e : (if next (rep v) < next j then (next (rep v)).toNat else (next (rep v)).toNat - 1) = (if next (rep u) < next j then (next (rep u)).toNat else (next (rep u)).toNat - 1) := e
        split at e <;> split at e <;> omega
      obtain ⟨a1, a2⟩ := hrep v hv
      obtain ⟨b1, b2⟩ := hrep u hu
      have := ((hd.eq _ _ a1 b1 (by omega) (by omega)).1 e).1
      omega)
  omega
/-- as_ many as_ before: those of one class mean the same -/
theorem Moore.done (hs : w.Shape) (h : w.Moore out many) (hd : w.Div out next many) (hn : ∀ k, k < w.next.length → out k < 0 → out k = -1) :
    ∀ (u : List Int) (i j : Nat), i < w.next.length → j < w.next.length → 0 ≤ next i → next i = next j → (w.acc (i : Int) u ↔ w.acc (j : Int) u) := by
  intro u
  induction u with
  | nil =>
    intro i j hi hj h0 he
    have hi0 : 0 ≤ out i := Int.not_lt.1 fun h' => by have := (hd.neg i hi).2 h'; omega
    have hj0 : 0 ≤ out j := Int.not_lt.1 fun h' => by have := (hd.neg j hj).2 h'; omega
    have := h.fin i j hi hj hi0 ((hd.eq i j hi hj hi0 hj0).1 he).1
    simp only [acc, Int.toNat_natCast, this]
    exact ⟨fun h => ⟨by omega, h.2⟩, fun h => ⟨by omega, h.2⟩⟩
  | cons c u ih =>
    intro i j hi hj h0 he
    have hi0 : 0 ≤ out i := Int.not_lt.1 fun h' => by have := (hd.neg i hi).2 h'; omega
    have hj0 : 0 ≤ out j := Int.not_lt.1 fun h' => by have := (hd.neg j hj).2 h'; omega
    by_cases hc : 0 ≤ c ∧ c < 8
    · obtain ⟨c, rfl⟩ : ∃ k : Nat, c = (k : Int) := ⟨c.toNat, by omega⟩
      rw [acc_step i c (by omega), acc_step j c (by omega)]
      have hct := ((hd.eq i j hi hj hi0 hj0).1 he).2 c (by omega)
      rcases to_state hs hi (c := c) (by omega) with h1 | ⟨a, ha, h1⟩ <;> rcases to_state hs hj (c := c) (by omega) with h2 | ⟨b, hb, h2⟩
      · exact ⟨fun h => absurd h (acc_neg h1 _), fun h => absurd h (acc_neg h2 _)⟩
      · rw [cto_neg h1, cto_nat h2] at hct
        have hnl := (h.neg b hb).1 (by omega)
        rw [h2]
        exact ⟨fun h => absurd h (acc_neg h1 _), fun h => absurd ⟨u, h⟩ hnl⟩
      · rw [cto_nat h1, cto_neg h2] at hct
        have hnl := (h.neg a ha).1 (by omega)
        rw [h1]
        exact ⟨fun h => absurd ⟨u, h⟩ hnl, fun h => absurd h (acc_neg h2 _)⟩
      · rw [cto_nat h1, cto_nat h2] at hct
        rw [h1, h2]
        rcases Int.lt_or_le (out a) 0 with h3 | h3
        · have n1 := (h.neg a ha).1 h3
          have n2 := (h.neg b hb).1 (by omega)
          exact ⟨fun h => absurd ⟨u, h⟩ n1, fun h => absurd ⟨u, h⟩ n2⟩
        · have h4 := h.still hd ha hb h3 hct
          refine ih a b ha hb (Int.not_lt.1 fun h' => by have := (hd.neg a ha).1 h'; omega) h4
    · simp only [acc]
      exact ⟨fun h => absurd ⟨h.2.1, h.2.2.1⟩ hc, fun h => absurd ⟨h.2.1, h.2.2.1⟩ hc⟩
end div
/-- CLASSES OF STATES: those of one class mean the same; -1: they lead nowhere. -/
structure Cls (w : Au) (cl : Nat → Int) : Prop where
  neg : ∀ i, i < w.next.length → (cl i < 0 ↔ ¬ w.lives i)
  eq : ∀ i j, i < w.next.length → j < w.next.length → 0 ≤ cl i → (cl i = cl j ↔ ∀ u, w.acc (i : Int) u ↔ w.acc (j : Int) u)
theorem Moore.cls {w : Au} {out next : Nat → Int} {many : Nat} (hs : w.Shape) (h : w.Moore out many) (hn : ∀ k, k < w.next.length → out k < 0 → out k = -1) (hd : w.Div out next many) : w.Cls next := by
  have h2 := h.div hs hn hd
  refine ⟨h2.neg, fun i j hi hj h0 => ⟨fun he u => h.done hs hd hn u i j hi hj h0 he, fun he => h2.same i j hi hj ?_ he⟩⟩
  exact Classical.byContradiction fun h' => by have := (h2.neg i hi).2 h'; omega

/-! ### a machine in order -/
/-- states (of the wide machine) that are met, and rows: all entries ahead of (i, c) -/
structure Bfs (w : Au) (cl : Nat → Int) (S : List Nat) (T : Nat → Nat → Int) (i c : Nat) : Prop where
  zero : S.getD 0 0 = 0 ∧ 0 < S.length
  lt : ∀ k, k < S.length → S.getD k 0 < w.next.length ∧ 0 ≤ cl (S.getD k 0)
  apart : ∀ j k, j < S.length → k < S.length → cl (S.getD j 0) = cl (S.getD k 0) → j = k
  ent : ∀ i' c', (i' < i ∨ i' = i ∧ c' < c) → c' < 8 → i' < S.length → (T i' c' = -1 ∧ w.cto cl (S.getD i' 0) c' < 0) ∨ ∃ k : Nat, k < S.length ∧ T i' c' = (k : Int) ∧ cl (S.getD k 0) = w.cto cl (S.getD i' 0) c'
  first : ∀ k, 0 < k → k < S.length → ∃ i' c', (i' < i ∨ i' = i ∧ c' < c) ∧ i' < k ∧ c' < 8 ∧ T i' c' = (k : Int) ∧ ∀ i2 c2, (i2 < i' ∨ i2 = i' ∧ c2 < c') → c2 < 8 → T i2 c2 < (k : Int)
theorem Bfs.congr {w : Au} {cl : Nat → Int} {S : List Nat} {T T' : Nat → Nat → Int} {i c : Nat} (h : Bfs w cl S T i c) (hT : ∀ i' c', (i' < i ∨ i' = i ∧ c' < c) → c' < 8 → T' i' c' = T i' c') : Bfs w cl S T' i c := by
  refine ⟨h.zero, h.lt, h.apart, fun i' c' hp hc hi => ?_, fun k h0 hk => ?_⟩
  · rw [hT i' c' hp hc]; exact h.ent i' c' hp hc hi
  · obtain ⟨i', c', hp, h1, h2, h3, h4⟩ := h.first k h0 hk
    refine ⟨i', c', hp, h1, h2, by rw [hT i' c' hp h2]; exact h3, fun i2 c2 hp2 hc2 => ?_⟩
    rw [hT i2 c2 (by omega) hc2]; exact h4 i2 c2 hp2 hc2
theorem Bfs.start {w : Au} {cl : Nat → Int} (T : Nat → Nat → Int) (hs : w.Shape) (h : 0 ≤ cl 0) : Bfs w cl [0] T 0 0 := by
  refine ⟨⟨rfl, by simp⟩, fun k hk => ?_, fun j k hj hk _ => ?_, fun i' c' hp _ _ => by omega, fun k h0 hk => ?_⟩
  · obtain rfl : k = 0 := by simpa using hk
    exact ⟨hs.pos, h⟩
  · simp only [List.length_singleton] at hj hk; omega
  · simp only [List.length_singleton] at hk; omega
/-- a row is done -/
theorem Bfs.row {w : Au} {cl : Nat → Int} {S : List Nat} {T : Nat → Nat → Int} {i : Nat} (h : Bfs w cl S T i 8) : Bfs w cl S T (i + 1) 0 := by
  refine ⟨h.zero, h.lt, h.apart, fun i' c' hp hc hi => h.ent i' c' (by omega) hc hi, fun k h0 hk => ?_⟩
  obtain ⟨i', c', hp, h1, h2, h3, h4⟩ := h.first k h0 hk
  exact ⟨i', c', by omega, h1, h2, h3, h4⟩
section bfs
variable {w : Au} {cl : Nat → Int} {S : List Nat} {T : Nat → Nat → Int} {i c : Nat}
/-- a letter that leads nowhere -/
theorem Bfs.none (h : Bfs w cl S T i c) (hT : T i c = -1) (hn : w.cto cl (S.getD i 0) c < 0) : Bfs w cl S T i (c + 1) := by
  refine ⟨h.zero, h.lt, h.apart, fun i' c' hp hc hi => ?_, fun k h0 hk => ?_⟩
  · by_cases hh : i' < i ∨ i' = i ∧ c' < c
    · exact h.ent i' c' hh hc hi
    · obtain ⟨rfl, rfl⟩ : i' = i ∧ c' = c := by omega
      exact .inl ⟨hT, hn⟩
  · obtain ⟨i', c', hp, h1, h2, h3, h4⟩ := h.first k h0 hk
    exact ⟨i', c', by omega, h1, h2, h3, h4⟩
/-- to a state that was met -/
theorem Bfs.old (h : Bfs w cl S T i c) {k : Nat} (hT : T i c = (k : Int)) (hk : k < S.length) (he : cl (S.getD k 0) = w.cto cl (S.getD i 0) c) : Bfs w cl S T i (c + 1) := by
  refine ⟨h.zero, h.lt, h.apart, fun i' c' hp hc hi => ?_, fun k h0 hk => ?_⟩
  · by_cases hh : i' < i ∨ i' = i ∧ c' < c
    · exact h.ent i' c' hh hc hi
    · obtain ⟨rfl, rfl⟩ : i' = i ∧ c' = c := by omega
      exact .inr ⟨k, hk, hT, he⟩
  · obtain ⟨i', c', hp, h1, h2, h3, h4⟩ := h.first k h0 hk
    exact ⟨i', c', by omega, h1, h2, h3, h4⟩
theorem getD_snoc_lt {α : Type} (z : α) (l : List α) (x : α) (k : Nat) (h : k < l.length) : (l ++ [x]).getD k z = l.getD k z := by
  rw [List.getD_eq_getElem?_getD, List.getD_eq_getElem?_getD, List.getElem?_append_left h]
theorem getD_snoc_eq {α : Type} (z : α) (l : List α) (x : α) : (l ++ [x]).getD l.length z = x := by
  rw [List.getD_eq_getElem?_getD, List.getElem?_append_right (Nat.le_refl _)]; simp
/-- to a new one -/
theorem Bfs.new (h : Bfs w cl S T i c) {t : Nat} (hT : T i c = (S.length : Int)) (hi : i < S.length) (hc : c < 8) (ht : t < w.next.length) (hto : w.to ((S.getD i 0 : Nat) : Int) (c : Int) = (t : Int)) (h0 : 0 ≤ cl t) (hnew : ∀ k, k < S.length → cl (S.getD k 0) ≠ cl t) :
    Bfs w cl (S ++ [t]) T i (c + 1) := by
  have hl : (S ++ [t]).length = S.length + 1 := by simp
  refine ⟨⟨by rw [getD_snoc_lt 0 S t 0 h.zero.2]; exact h.zero.1, by omega⟩, fun k hk => ?_, fun j k hj hk e => ?_, fun i' c' hp hc' hi' => ?_, fun k hk0 hk => ?_⟩
  · rcases Nat.lt_or_ge k S.length with h1 | h1
    · rw [getD_snoc_lt 0 S t k h1]; exact h.lt k h1
    · obtain rfl : k = S.length := by omega
      rw [getD_snoc_eq]; exact ⟨ht, h0⟩
  · rcases Nat.lt_or_ge k S.length with h1 | h1 <;> rcases Nat.lt_or_ge j S.length with h2 | h2
    · rw [getD_snoc_lt 0 S t k h1, getD_snoc_lt 0 S t j h2] at e; exact h.apart j k h2 h1 e
    · obtain rfl : j = S.length := by omega
      rw [getD_snoc_lt 0 S t k h1, getD_snoc_eq] at e; exact absurd e.symm (hnew k h1)
    · obtain rfl : k = S.length := by omega
      rw [getD_snoc_lt 0 S t j h2, getD_snoc_eq] at e; exact absurd e (hnew j h2)
    · omega
  · by_cases hh : i' < i ∨ i' = i ∧ c' < c
    · have hi2 : i' < S.length := by omega
      rw [getD_snoc_lt 0 S t i' hi2]
      rcases h.ent i' c' hh hc' hi2 with h1 | ⟨k, h1, h2, h3⟩
      · exact .inl h1
      · exact .inr ⟨k, by omega, h2, by rw [getD_snoc_lt 0 S t k h1]; exact h3⟩
    · obtain ⟨rfl, rfl⟩ : i' = i ∧ c' = c := by omega
      refine .inr ⟨S.length, by omega, hT, ?_⟩
      rw [getD_snoc_eq, getD_snoc_lt 0 S t i' hi, cto_nat hto]
  · rcases Nat.lt_or_ge k S.length with h1 | h1
    · obtain ⟨i', c', hp, h2, h3, h4, h5⟩ := h.first k hk0 h1
      exact ⟨i', c', by omega, h2, h3, h4, h5⟩
    · obtain rfl : k = S.length := by omega
      refine ⟨i, c, by omega, hi, hc, hT, fun i2 c2 hp2 hc2 => ?_⟩
      rcases h.ent i2 c2 (by omega) hc2 (by omega) with ⟨h2, _⟩ | ⟨k, h2, h3, _⟩ <;> omega
/-- A MACHINE IN ORDER that means what the wide one means. -/
theorem Bfs.canon {a : Au} (hs : w.Shape) (hc : w.Cls cl) (h : Bfs w cl S T S.length 0) (hn : a.next.length = S.length) (hf : a.final = S.map fun k => w.final.getD k false)
    (hrow : ∀ k, k < S.length → (a.next.getD k []).length = 8) (ha : ∀ k c : Nat, k < S.length → c < 8 → a.to (k : Int) (c : Int) = T k c) : a.Canon ∧ ∀ u, a.acc 0 u ↔ w.acc 0 u := by
  have hfin : ∀ k, k < S.length → a.final.getD k false = w.final.getD (S.getD k 0) false := fun k hk => by
    rw [hf, List.getD_eq_getElem?_getD, List.getElem?_map, List.getD_eq_getElem?_getD (l := S), List.getElem?_eq_getElem hk]; rfl
  have hent : ∀ k c, k < S.length → c < 8 → (T k c = -1 ∧ w.cto cl (S.getD k 0) c < 0) ∨ ∃ j : Nat, j < S.length ∧ T k c = (j : Int) ∧ cl (S.getD j 0) = w.cto cl (S.getD k 0) c := fun k c hk hc => h.ent k c (.inl hk) hc hk
  have hacc : ∀ (u : List Int) (k : Nat), k < S.length → (a.acc (k : Int) u ↔ w.acc ((S.getD k 0 : Nat) : Int) u) := by
    intro u
    induction u with
    | nil =>
      intro k hk
      simp only [acc, Int.toNat_natCast, hfin k hk]
      exact ⟨fun h => ⟨by omega, h.2⟩, fun h => ⟨by omega, h.2⟩⟩
    | cons c u ih =>
      intro k hk
      by_cases hcc : 0 ≤ c ∧ c < 8
      · obtain ⟨c, rfl⟩ : ∃ k : Nat, c = (k : Int) := ⟨c.toNat, by omega⟩
        rw [acc_step k c (by omega), acc_step _ c (by omega), ha k c hk (by omega)]
        obtain ⟨hlt, hcl⟩ := h.lt k hk
        rcases hent k c hk (by omega) with ⟨h1, h2⟩ | ⟨j, h1, h2, h3⟩
        · rw [h1]
          refine ⟨fun h => absurd h (acc_neg (by decide) _), fun h => ?_⟩
          rcases to_state hs hlt (c := c) (by omega) with h4 | ⟨b, hb, h4⟩
          · exact absurd h (acc_neg h4 _)
          · rw [cto_nat h4] at h2
            rw [h4] at h
            exact absurd ⟨u, h⟩ ((hc.neg b hb).1 h2)
        · rw [h2, ih j h1]
          obtain ⟨jlt, jcl⟩ := h.lt j h1
          rcases to_state hs hlt (c := c) (by omega) with h4 | ⟨b, hb, h4⟩
          · rw [cto_neg h4] at h3; omega
          · rw [cto_nat h4] at h3
            rw [h4]
            exact (hc.eq _ b jlt hb jcl).1 h3 u
      · simp only [acc]
        exact ⟨fun h => absurd ⟨h.2.1, h.2.2.1⟩ hcc, fun h => absurd ⟨h.2.1, h.2.2.1⟩ hcc⟩
  have hz : ((S.getD 0 0 : Nat) : Int) = 0 := by rw [h.zero.1]; rfl
  refine ⟨⟨⟨by rw [hn]; exact h.zero.2, by rw [hf, List.length_map, hn], fun k hk => hrow k (by omega), fun k hk c hc8 => ?_⟩, fun k hk => ?_, fun j k hj hk he => ?_, fun k hk0 hk => ?_⟩, fun u => ?_⟩
  · have h1 := ha k c (by omega) hc8
    simp only [to, Int.toNat_natCast] at h1
    rw [h1, hn]
    rcases hent k c (by omega) hc8 with ⟨h2, _⟩ | ⟨j, h2, h3, _⟩ <;> omega
  · obtain ⟨hlt, hcl⟩ := h.lt k (by omega)
    have : w.lives (S.getD k 0) := Classical.byContradiction fun h' => by have := (hc.neg _ hlt).2 h'; omega
    obtain ⟨u, hu⟩ := this
    exact ⟨u, (hacc u k (by omega)).2 hu⟩
  · obtain ⟨jlt, jcl⟩ := h.lt j (by omega)
    obtain ⟨klt, kcl⟩ := h.lt k (by omega)
    exact h.apart j k (by omega) (by omega) ((hc.eq _ _ jlt klt jcl).2 fun u => (hacc u j (by omega)).symm.trans ((he u).trans (hacc u k (by omega))))
  · obtain ⟨i', c', hp, h1, h2, h3, h4⟩ := h.first k hk0 (by omega)
    refine ⟨i', c', h1, h2, by rw [ha i' c' (by omega) h2]; exact h3, fun i2 c2 hp2 hc2 => ?_⟩
    rw [ha i2 c2 (by omega) hc2]; exact h4 i2 c2 hp2 hc2
  · have := hacc u 0 h.zero.2
    rw [hz] at this
    exact this
end bfs
end Au
end Go.Vl
end

section
set_option linter.unusedVariables false
set_option linter.unusedSimpArgs false
namespace Go.Vl
namespace Au
/-- is a state an end? -/
def fin (a : Au) (i : Int) : Bool := decide (0 ≤ i) && a.final.getD i.toNat false
theorem acc_nil (a : Au) (i : Int) : a.acc i [] ↔ a.fin i = true := by simp [acc, fin]
def stp (a b : Au) (p : Int × Int) (c : Nat) : Int × Int := (if 0 ≤ p.1 then a.to p.1 (c : Int) else -1, if 0 ≤ p.2 then b.to p.2 (c : Int) else -1)
structure PIn (a b : Au) (p : Int × Int) : Prop where
  l1 : -1 ≤ p.1
  u1 : p.1 < a.next.length
  l2 : -1 ≤ p.2
  u2 : p.2 < b.next.length
theorem PIn.stp {a b : Au} (ha : a.Shape) (hb : b.Shape) {p : Int × Int} (h : PIn a b p) {c : Nat} (hc : c < 8) : PIn a b (stp a b p c) := by
  have pa := ha.pos
  have pb := hb.pos
  refine ⟨?_, ?_, ?_, ?_⟩ <;> simp only [Au.stp]
  · split
    · rename_i h0; exact (to_range ha h0 h.u1 (by omega) (by omega)).1
    · omega
  · split
    · rename_i h0; exact (to_range ha h0 h.u1 (by omega) (by omega)).2
    · omega
  · split
    · rename_i h0; exact (to_range hb h0 h.u2 (by omega) (by omega)).1
    · omega
  · split
    · rename_i h0; exact (to_range hb h0 h.u2 (by omega) (by omega)).2
    · omega
/-- both read the words behind a pair -/
theorem acc_stp1 {a b : Au} {p : Int × Int} {c : Nat} (hc : c < 8) (u : List Int) : a.acc p.1 ((c : Int) :: u) ↔ a.acc (stp a b p c).1 u := by
  simp only [stp]
  split
  · rename_i h; exact acc_cons h (by omega) (by omega)
  · rename_i h; exact ⟨fun h' => absurd h' (acc_neg (by omega) _), fun h' => absurd h' (acc_neg (by decide) _)⟩
theorem acc_stp2 {a b : Au} {p : Int × Int} {c : Nat} (hc : c < 8) (u : List Int) : b.acc p.2 ((c : Int) :: u) ↔ b.acc (stp a b p c).2 u := by
  simp only [stp]
  split
  · rename_i h; exact acc_cons h (by omega) (by omega)
  · rename_i h; exact ⟨fun h' => absurd h' (acc_neg (by omega) _), fun h' => absurd h' (acc_neg (by decide) _)⟩
/-- all pairs that are met -/
structure Prs (a b : Au) (all : List (Int × Int)) (T : Nat → Nat → Nat) : Prop where
  zero : all.getD 0 (0, 0) = (0, 0) ∧ 0 < all.length
  rng : ∀ p ∈ all, PIn a b p
  ent : ∀ k c, k < all.length → c < 8 → T k c < all.length ∧ all.getD (T k c) (0, 0) = stp a b (all.getD k (0, 0)) c
  met : ∀ p ∈ all, ∃ u : List Nat, (∀ c ∈ u, c < 8) ∧ p = u.foldl (stp a b) (0, 0)
/-- the same words are read from a pair -/
def psame (a b : Au) (p : Int × Int) : Prop := ∀ u, a.acc p.1 u ↔ b.acc p.2 u
theorem foldl_same {a b : Au} : ∀ (u : List Nat) (p : Int × Int), (∀ c ∈ u, c < 8) → psame a b p → psame a b (u.foldl (stp a b) p)
  | [], p, _, h => h
  | c :: u, p, hu, h => by
    refine foldl_same u _ (fun d hd => hu d (List.mem_cons_of_mem _ hd)) fun v => ?_
    have hc := hu c List.mem_cons_self
    rw [← acc_stp1 hc, ← acc_stp2 hc]; exact h _
theorem Prs.same {a b : Au} {all : List (Int × Int)} {T : Nat → Nat → Nat} (h : Prs a b all T) : (∀ p ∈ all, a.fin p.1 = b.fin p.2) ↔ ∀ u, a.acc 0 u ↔ b.acc 0 u := by
  constructor
  · intro hf
    have key : ∀ (u : List Int) (k : Nat), k < all.length → (a.acc (all.getD k (0, 0)).1 u ↔ b.acc (all.getD k (0, 0)).2 u) := by
      intro u
      induction u with
      | nil =>
        intro k hk
        rw [acc_nil, acc_nil, hf _ (getD_memG (0, 0) all k hk)]
      | cons c u ih =>
        intro k hk
        by_cases hc : 0 ≤ c ∧ c < 8
        · obtain ⟨c, rfl⟩ : ∃ k : Nat, c = (k : Int) := ⟨c.toNat, by omega⟩
          have h1 := h.ent k c hk (by omega)
          rw [acc_stp1 (b := b) (by omega), acc_stp2 (a := a) (by omega), ← h1.2]
          exact ih _ h1.1
        · simp only [acc]
          exact ⟨fun h => absurd ⟨h.2.1, h.2.2.1⟩ hc, fun h => absurd ⟨h.2.1, h.2.2.1⟩ hc⟩
    intro u
    have := key u 0 h.zero.2
    rw [h.zero.1] at this
    exact this
  · intro hs p hp
    obtain ⟨u, hu, rfl⟩ := h.met p hp
    have := foldl_same u (0, 0) hu hs []
    rw [acc_nil, acc_nil] at this
    exact Bool.eq_iff_iff.2 this
/-- THE MACHINE OF BOTH. -/
theorem Prs.both {a b w : Au} {all : List (Int × Int)} {T : Nat → Nat → Nat} (h : Prs a b all T) (hn : w.next.length = all.length) (hf : w.final = all.map fun p => a.fin p.1 && b.fin p.2)
    (hrow : ∀ k, k < all.length → (w.next.getD k []).length = 8) (hw : ∀ k c : Nat, k < all.length → c < 8 → w.to (k : Int) (c : Int) = (T k c : Int)) : w.Shape ∧ ∀ u, w.acc 0 u ↔ a.acc 0 u ∧ b.acc 0 u := by
  refine ⟨⟨by rw [hn]; exact h.zero.2, by rw [hf, List.length_map, hn], fun k hk => hrow k (by omega), fun k hk c hc => ?_⟩, ?_⟩
  · have h1 := hw k c (by omega) hc
    simp only [to, Int.toNat_natCast] at h1
    have := (h.ent k c (by omega) hc).1
    rw [h1]; omega
  · have key : ∀ (u : List Int) (k : Nat), k < all.length → (w.acc (k : Int) u ↔ a.acc (all.getD k (0, 0)).1 u ∧ b.acc (all.getD k (0, 0)).2 u) := by
      intro u
      induction u with
      | nil =>
        intro k hk
        rw [acc_nil, acc_nil, acc_nil]
        have : w.fin (k : Int) = (a.fin (all.getD k (0, 0)).1 && b.fin (all.getD k (0, 0)).2) := by
          rw [fin, hf]
          simp only [Int.toNat_natCast, List.getD_eq_getElem?_getD, List.getElem?_map, List.getElem?_eq_getElem hk]
          simp
        rw [this, Bool.and_eq_true]
      | cons c u ih =>
        intro k hk
        by_cases hc : 0 ≤ c ∧ c < 8
        · obtain ⟨c, rfl⟩ : ∃ k : Nat, c = (k : Int) := ⟨c.toNat, by omega⟩
          have h1 := h.ent k c hk (by omega)
          rw [acc_step k c (by omega), hw k c hk (by omega), acc_stp1 (b := b) (by omega), acc_stp2 (a := a) (by omega), ← h1.2]
          exact ih _ h1.1
        · simp only [acc]
          exact ⟨fun h => absurd ⟨h.2.1, h.2.2.1⟩ hc, fun h => absurd ⟨h.1.2.1, h.1.2.2.1⟩ hc⟩
    intro u
    have := key u 0 h.zero.2
    rw [h.zero.1] at this
    exact this

/-! ### how many words -/
def sum8 (f : Nat → Nat) : Nat := f 0 + f 1 + f 2 + f 3 + f 4 + f 5 + f 6 + f 7
/-- how many words of so many letters are read from a state on -/
def cnt (a : Au) : Nat → Int → Nat
  | 0, i => if a.fin i = true then 1 else 0
  | n + 1, i => if 0 ≤ i then sum8 fun c => cnt a n (a.to i (c : Int)) else 0
theorem sum8_le {f g : Nat → Nat} (h : ∀ c, c < 8 → f c ≤ g c) : sum8 f ≤ sum8 g := by
  have h0 := h 0 (by decide); have h1 := h 1 (by decide); have h2 := h 2 (by decide); have h3 := h 3 (by decide)
  have h4 := h 4 (by decide); have h5 := h 5 (by decide); have h6 := h 6 (by decide); have h7 := h 7 (by decide)
  simp only [sum8]; omega
theorem cnt_neg {a : Au} {i : Int} (h : i < 0) (n : Nat) : cnt a n i = 0 := by
  cases n with
  | zero => rw [cnt, if_neg]; simp [fin]; omega
  | succ n => rw [cnt, if_neg (by omega)]
theorem cnt_le (a : Au) : ∀ (n : Nat) (i : Int), cnt a n i ≤ 8 ^ n
  | 0, i => by rw [cnt]; split <;> simp
  | n + 1, i => by
    rw [cnt]
    split
    · have h : sum8 (fun c => cnt a n (a.to i (c : Int))) ≤ sum8 (fun _ => 8 ^ n) := sum8_le fun c _ => cnt_le a n _
      have h2 : sum8 (fun _ => 8 ^ n) = 8 * 8 ^ n := by simp only [sum8]; omega
      rw [Nat.pow_succ]; omega
    · exact Nat.zero_le _
/-- words of three letters, one by one -/
def dig : Nat → Nat → List Int
  | 0, _ => []
  | n + 1, x => ((x % 3 : Nat) : Int) :: dig n (x / 3)
def found (a : Au) (n : Nat) (i : Int) (m : Nat) : Nat := ((List.range m).filter fun x => a.fin (a.run i (dig n x))).length
/-- pairs that are known while rows are made: rows ahead of i are done, and of row i the letters ahead of c -/
structure Prb (a b : Au) (all : List (Int × Int)) (T : Nat → Nat → Nat) (i c : Nat) : Prop where
  zero : all.getD 0 (0, 0) = (0, 0) ∧ 0 < all.length
  nodup : all.Nodup
  rng : ∀ p ∈ all, PIn a b p
  ent : ∀ k d, k < all.length → d < 8 → (k < i ∨ (k = i ∧ d < c)) → T k d < all.length ∧ all.getD (T k d) (0, 0) = stp a b (all.getD k (0, 0)) d
  met : ∀ p ∈ all, ∃ u : List Nat, (∀ d ∈ u, d < 8) ∧ p = u.foldl (stp a b) (0, 0)
theorem Prb.start {a b : Au} (ha : a.Shape) (hb : b.Shape) (T : Nat → Nat → Nat) : Prb a b [(0, 0)] T 0 0 := by
  have pa := ha.pos
  have pb := hb.pos
  refine ⟨⟨rfl, by simp⟩, by simp, fun p hp => ?_, fun k d _ _ h => by rcases h with h | ⟨_, h⟩ <;> exact absurd h (Nat.not_lt_zero _), fun p hp => ?_⟩
  · rw [List.mem_singleton.1 hp]
    exact ⟨by show (-1 : Int) ≤ 0; omega, by show (0 : Int) < _; omega, by show (-1 : Int) ≤ 0; omega, by show (0 : Int) < _; omega⟩
  · rw [List.mem_singleton.1 hp]
    exact ⟨[], by simp, rfl⟩
theorem Prb.row {a b : Au} {all : List (Int × Int)} {T : Nat → Nat → Nat} {i : Nat} (h : Prb a b all T i 8) : Prb a b all T (i + 1) 0 :=
  ⟨h.zero, h.nodup, h.rng, fun k d hk hd he => h.ent k d hk hd (by omega), h.met⟩
theorem Prb.congr {a b : Au} {all : List (Int × Int)} {T T' : Nat → Nat → Nat} {i c : Nat} (h : Prb a b all T i c) (hT : ∀ k d, (k < i ∨ (k = i ∧ d < c)) → T' k d = T k d) : Prb a b all T' i c :=
  ⟨h.zero, h.nodup, h.rng, fun k d hk hd he => by rw [hT k d he]; exact h.ent k d hk hd he, h.met⟩
theorem Prb.old {a b : Au} {all : List (Int × Int)} {T : Nat → Nat → Nat} {i c : Nat} (h : Prb a b all T i c) (hk : T i c < all.length) (he : all.getD (T i c) (0, 0) = stp a b (all.getD i (0, 0)) c) : Prb a b all T i (c + 1) := by
  refine ⟨h.zero, h.nodup, h.rng, fun k d hk' hd hx => ?_, h.met⟩
  by_cases h1 : k < i ∨ (k = i ∧ d < c)
  · exact h.ent k d hk' hd h1
  · obtain ⟨rfl, rfl⟩ : k = i ∧ d = c := by omega
    exact ⟨hk, he⟩
theorem Prb.new {a b : Au} (ha : a.Shape) (hb : b.Shape) {all : List (Int × Int)} {T : Nat → Nat → Nat} {i c : Nat} (h : Prb a b all T i c) (hi : i < all.length) (hc : c < 8) (hT : T i c = all.length) (hn : stp a b (all.getD i (0, 0)) c ∉ all) :
    Prb a b (all ++ [stp a b (all.getD i (0, 0)) c]) T i (c + 1) := by
  have hm : all.getD i (0, 0) ∈ all := getD_memG _ _ _ hi
  have g1 : ∀ k, k < all.length → (all ++ [stp a b (all.getD i (0, 0)) c]).getD k (0, 0) = all.getD k (0, 0) := fun k hk => by
    rw [List.getD_eq_getElem?_getD, List.getElem?_append_left hk, List.getD_eq_getElem?_getD]
  have g2 : (all ++ [stp a b (all.getD i (0, 0)) c]).getD all.length (0, 0) = stp a b (all.getD i (0, 0)) c := by
    rw [List.getD_eq_getElem?_getD, List.getElem?_append_right (Nat.le_refl _), Nat.sub_self]; rfl
  refine ⟨⟨by rw [g1 0 h.zero.2]; exact h.zero.1, by rw [List.length_append]; have := h.zero.2; omega⟩, ?_, ?_, ?_, ?_⟩
  · rw [List.nodup_append]
    exact ⟨h.nodup, by simp, fun p hp q hq e => hn (by rw [← List.mem_singleton.1 hq, ← e]; exact hp)⟩
  · intro p hp
    rcases List.mem_append.1 hp with hp | hp
    · exact h.rng p hp
    · rw [List.mem_singleton.1 hp]; exact (h.rng _ hm).stp ha hb hc
  · intro k d hk hd hx
    rw [List.length_append, List.length_singleton] at hk ⊢
    by_cases h1 : k < i ∨ (k = i ∧ d < c)
    · obtain ⟨h2, h3⟩ := h.ent k d (by omega) hd h1
      exact ⟨by omega, by rw [g1 _ h2, g1 k (by omega)]; exact h3⟩
    · obtain ⟨rfl, rfl⟩ : k = i ∧ d = c := by omega
      rw [hT, g2, g1 k hi]
      exact ⟨by omega, rfl⟩
  · intro p hp
    rcases List.mem_append.1 hp with hp | hp
    · exact h.met p hp
    · obtain ⟨u, h1, h2⟩ := h.met _ hm
      refine ⟨u ++ [c], fun d hd => ?_, ?_⟩
      · rcases List.mem_append.1 hd with hd | hd
        · exact h1 d hd
        · rw [List.mem_singleton.1 hd]; exact hc
      · rw [List.mem_singleton.1 hp, List.foldl_append, ← h2]; rfl
theorem Prb.done {a b : Au} {all : List (Int × Int)} {T : Nat → Nat → Nat} {i c : Nat} (h : Prb a b all T i c) (hi : all.length ≤ i) : Prs a b all T :=
  ⟨h.zero, h.rng, fun k d hk hd => h.ent k d hk hd (.inl (by omega)), h.met⟩
end Au
end Go.Vl
end

section
set_option linter.unusedVariables false
set_option linter.unusedSimpArgs false
namespace Go.Vl
namespace Au
abbrev Qe := Nat × List Int
/-- the queue: words of h letters, then those of h + 1; D: what was looked at; letters ahead of c of the first one are done -/
structure Lst (a : Au) (sn : Nat → Bool) (Q1 Q2 : List Qe) (D : Nat → Prop) (h c : Nat) : Prop where
  ne : Q1 ≠ []
  seen : ∀ s, s < a.next.length → (sn s = true ↔ D s ∨ ∃ q, q ∈ Q1 ++ Q2 ∧ q.1 = s)
  ok : ∀ q ∈ Q1 ++ Q2, q.1 < a.next.length ∧ a.run 0 q.2 = (q.1 : Int) ∧ ∀ x ∈ q.2, 0 ≤ x ∧ x < 8
  l1 : ∀ q ∈ Q1, q.2.length = h
  l2 : ∀ q ∈ Q2, q.2.length = h + 1
  less : ∀ (u : List Int) (s : Nat), (∀ x ∈ u, 0 ≤ x ∧ x < 8) → a.run 0 u = (s : Int) → u.length < h → D s
  eq : ∀ (u : List Int) (s : Nat), (∀ x ∈ u, 0 ≤ x ∧ x < 8) → a.run 0 u = (s : Int) → u.length = h → D s ∨ ∃ q, q ∈ Q1 ∧ q.1 = s
  done : ∀ s, D s → a.fin (s : Int) = false ∧ ∀ x t : Nat, x < 8 → a.to (s : Int) (x : Int) = (t : Int) → sn t = true
  head : ∀ x t : Nat, x < c → a.to (((Q1.getD 0 (0, [])).1 : Nat) : Int) (x : Int) = (t : Int) → sn t = true
variable {a : Au} {seen : Nat → Bool} {Q1 Q2 : List Qe} {D : Nat → Prop} {h c : Nat}
theorem Lst.start (hs : a.Shape) : Lst a (fun s => decide (s = 0)) [(0, [])] [] (fun _ => False) 0 0 := by
  refine ⟨by simp, fun s _ => ?_, fun q hq => ?_, fun q hq => ?_, fun q hq => (by cases hq), fun u s _ _ h => absurd h (Nat.not_lt_zero _), fun u s _ he hl => ?_, fun s h => False.elim h, fun x t hx => absurd hx (Nat.not_lt_zero _)⟩
  · simp only [decide_eq_true_eq, List.append_nil, List.mem_singleton, false_or]
    exact ⟨fun h => ⟨_, rfl, h.symm⟩, by rintro ⟨q, rfl, h⟩; exact h.symm⟩
  · obtain rfl : q = (0, []) := by simpa using hq
    exact ⟨hs.pos, rfl, by simp⟩
  · obtain rfl : q = (0, []) := by simpa using hq
    rfl
  · obtain rfl : u = [] := List.eq_nil_of_length_eq_zero hl
    have : (0 : Int) = (s : Int) := he
    exact .inr ⟨(0, []), List.mem_singleton.2 rfl, by show 0 = s; omega⟩
/-- the first one is an end: no word is shorter -/
theorem Lst.found (hs : a.Shape) (H : Lst a seen Q1 Q2 D h c) (hf : a.fin (((Q1.getD 0 (0, [])).1 : Nat) : Int) = true) : a.acc 0 (Q1.getD 0 (0, [])).2 ∧ ∀ u, u.length < (Q1.getD 0 (0, [])).2.length → ¬ a.acc 0 u := by
  have hm : Q1.getD 0 (0, []) ∈ Q1 := getD_memG _ _ _ (List.length_pos_iff.2 H.ne)
  obtain ⟨h1, h2, h3⟩ := H.ok _ (List.mem_append_left _ hm)
  refine ⟨?_, fun u hu hacc => ?_⟩
  · rw [acc_run _ _ h3, h2]
    simpa [fin] using hf
  · have ho := acc_over hacc
    obtain ⟨h4, h5⟩ := (acc_run u 0 ho).1 hacc
    rw [H.l1 _ hm] at hu
    have h6 := (H.done _ (H.less u (a.run 0 u).toNat ho (by omega) hu)).1
    rw [show (((a.run 0 u).toNat : Nat) : Int) = a.run 0 u from by omega] at h6
    simp only [fin, h4, h5, decide_true, Bool.and_self, Bool.true_and, Bool.true_eq_false] at h6
/-- a letter that leads to nothing new -/
theorem Lst.skip (H : Lst a seen Q1 Q2 D h c) (hn : ∀ t : Nat, a.to (((Q1.getD 0 (0, [])).1 : Nat) : Int) (c : Int) = (t : Int) → seen t = true) : Lst a seen Q1 Q2 D h (c + 1) := by
  refine ⟨H.ne, H.seen, H.ok, H.l1, H.l2, H.less, H.eq, H.done, fun x t hx e => ?_⟩
  rcases Nat.lt_or_ge x c with h1 | h1
  · exact H.head x t h1 e
  · obtain rfl : x = c := by omega
    exact hn t e
/-- a new one -/
theorem Lst.push (H : Lst a seen Q1 Q2 D h c) (hc : c < 8) {t : Nat} (ht : t < a.next.length) (he : a.to (((Q1.getD 0 (0, [])).1 : Nat) : Int) (c : Int) = (t : Int)) :
    Lst a (fun s => if s = t then true else seen s) Q1 (Q2 ++ [(t, (Q1.getD 0 (0, [])).2 ++ [(c : Int)])]) D h (c + 1) := by
  have hm : Q1.getD 0 (0, []) ∈ Q1 := getD_memG _ _ _ (List.length_pos_iff.2 H.ne)
  obtain ⟨h1, h2, h3⟩ := H.ok _ (List.mem_append_left _ hm)
  have hup : ∀ s, seen s = true → (if s = t then true else seen s) = true := fun s hs => by split <;> simp_all
  refine ⟨H.ne, fun s hs => ?_, fun q hq => ?_, H.l1, fun q hq => ?_, H.less, H.eq, fun s hs => ⟨(H.done s hs).1, fun x t' hx e => hup _ ((H.done s hs).2 x t' hx e)⟩, fun x t' hx e => ?_⟩
  · by_cases hst : s = t
    · subst hst
      rw [if_pos rfl]
      exact ⟨fun _ => .inr ⟨_, List.mem_append_right _ (List.mem_append_right _ (List.mem_singleton.2 rfl)), rfl⟩, fun _ => rfl⟩
    · rw [if_neg hst, H.seen s hs]
      constructor
      · rintro (h' | ⟨q, hq, e⟩)
        · exact .inl h'
        · rw [← List.append_assoc]; exact .inr ⟨q, List.mem_append_left _ hq, e⟩
      · rintro (h' | ⟨q, hq, e⟩)
        · exact .inl h'
        · rw [← List.append_assoc] at hq
          rcases List.mem_append.1 hq with hq | hq
          · exact .inr ⟨q, hq, e⟩
          · rw [List.mem_singleton.1 hq] at e
            exact absurd e.symm hst
  · rw [← List.append_assoc] at hq
    rcases List.mem_append.1 hq with hq | hq
    · exact H.ok q hq
    · rw [List.mem_singleton.1 hq]
      refine ⟨ht, ?_, fun x hx => ?_⟩
      · show a.run 0 (_ ++ _) = _
        rw [run_snoc, h2, if_pos (by omega)]; exact he
      · rcases List.mem_append.1 hx with hx | hx
        · exact h3 x hx
        · rw [List.mem_singleton.1 hx]; omega
  · rcases List.mem_append.1 hq with hq | hq
    · exact H.l2 q hq
    · rw [List.mem_singleton.1 hq]
      show (_ ++ _ : List Int).length = _
      rw [List.length_append, H.l1 _ hm]; rfl
  · rcases Nat.lt_or_ge x c with h4 | h4
    · exact hup _ (H.head x t' h4 e)
    · obtain rfl : x = c := by omega
      rw [he] at e
      have : t = t' := by omega
      subst this
      show (if t = t then true else seen t) = true
      rw [if_pos rfl]
end Au
end Go.Vl
end

section
set_option linter.unusedVariables false
set_option linter.unusedSimpArgs false
namespace Go.Vl
def row8 (f : Nat → Int) : List AV := [.int (f 0), .int (f 1), .int (f 2), .int (f 3), .int (f 4), .int (f 5), .int (f 6), .int (f 7)]
theorem row8_congr {f g : Nat → Int} (h : ∀ c, c < 8 → f c = g c) : row8 f = row8 g := by
  unfold row8
  rw [h 0 (by decide), h 1 (by decide), h 2 (by decide), h 3 (by decide), h 4 (by decide), h 5 (by decide), h 6 (by decide), h 7 (by decide)]
theorem row8_splice (f : Nat → Int) (c : Nat) (hc : c < 8) (x : Int) : splice (row8 f) c [.int x] = row8 (fun d => if d = c then x else f d) := by
  rcases (show c = 0 ∨ c = 1 ∨ c = 2 ∨ c = 3 ∨ c = 4 ∨ c = 5 ∨ c = 6 ∨ c = 7 from by omega) with rfl | rfl | rfl | rfl | rfl | rfl | rfl | rfl <;> rfl
theorem row8_get (f : Nat → Int) (c : Nat) (hc : c < 8) : (row8 f)[c]? = some (.int (f c)) := by
  rcases (show c = 0 ∨ c = 1 ∨ c = 2 ∨ c = 3 ∨ c = 4 ∨ c = 5 ∨ c = 6 ∨ c = 7 from by omega) with rfl | rfl | rfl | rfl | rfl | rfl | rfl | rfl <;> rfl
abbrev r8av (f : Nat → Int) : AV := .agg (row8 f)
theorem rows_snoc (n : Nat) (T : Nat → Nat → Int) : ((List.range n).map fun k => r8av (T k)) ++ [r8av (T n)] = (List.range (n + 1)).map fun k => r8av (T k) := by
  rw [List.range_succ, List.map_append]; rfl
theorem rows_congr (n : Nat) {T T' : Nat → Nat → Int} (h : ∀ k, k < n → ∀ c, c < 8 → T k c = T' k c) : ((List.range n).map fun k => r8av (T k)) = (List.range n).map fun k => r8av (T' k) :=
  List.map_congr_left fun k hk => congrArg AV.agg (row8_congr (h k (List.mem_range.1 hk)))
abbrev prav (p : Int × Int) : AV := .agg [.int p.1, .int p.2]
namespace Au
/-- not more pairs than there are -/
theorem Prb.len {a b : Au} {all : List (Int × Int)} {T : Nat → Nat → Nat} {i c : Nat} (h : Prb a b all T i c) : all.length ≤ (a.next.length + 1) * (b.next.length + 1) := by
  refine pigeon _ all.length (fun k => ((all.getD k (0, 0)).1 + 1).toNat * (b.next.length + 1) + ((all.getD k (0, 0)).2 + 1).toNat) (fun k hk => ?_) (fun j k hj hk e => ?_)
  · have hr := h.rng _ (getD_memG (0, 0) all k hk)
    have h1 := hr.l1; have h2 := hr.u1; have h3 := hr.l2; have h4 := hr.u2
    have h5 : ((all.getD k (0, 0)).1 + 1).toNat ≤ a.next.length := by omega
    have h6 : ((all.getD k (0, 0)).2 + 1).toNat < b.next.length + 1 := by omega
    calc ((all.getD k (0, 0)).1 + 1).toNat * (b.next.length + 1) + ((all.getD k (0, 0)).2 + 1).toNat
        < ((all.getD k (0, 0)).1 + 1).toNat * (b.next.length + 1) + (b.next.length + 1) := by omega
      _ = (((all.getD k (0, 0)).1 + 1).toNat + 1) * (b.next.length + 1) := by rw [Nat.add_mul, Nat.one_mul]
      _ ≤ (a.next.length + 1) * (b.next.length + 1) := Nat.mul_le_mul_right _ (by omega)
  · have rj := h.rng _ (getD_memG (0, 0) all j hj)
    have rk := h.rng _ (getD_memG (0, 0) all k hk)
    have hj6 : ((all.getD j (0, 0)).2 + 1).toNat < b.next.length + 1 := by have := rj.l2; have := rj.u2; omega
    have hk6 : ((all.getD k (0, 0)).2 + 1).toNat < b.next.length + 1 := by have := rk.l2; have := rk.u2; omega
    have hd := congrArg (· / (b.next.length + 1)) e
    have hm := congrArg (· % (b.next.length + 1)) e
    rw [Nat.mul_comm, Nat.mul_add_div (by omega), Nat.div_eq_of_lt hj6, Nat.mul_comm, Nat.mul_add_div (by omega), Nat.div_eq_of_lt hk6] at hd
    rw [Nat.mul_comm, Nat.mul_add_mod, Nat.mod_eq_of_lt hj6, Nat.mul_comm, Nat.mul_add_mod, Nat.mod_eq_of_lt hk6] at hm
    have e2 : all.getD j (0, 0) = all.getD k (0, 0) := by
      have := rj.l1; have := rk.l1; have := rj.l2; have := rk.l2
      exact Prod.ext (by omega) (by omega)
    rw [List.getD_eq_getElem?_getD, List.getD_eq_getElem?_getD, List.getElem?_eq_getElem hj, List.getElem?_eq_getElem hk] at e2
    exact (List.getElem_inj h.nodup).1 e2
/-- an entry is written -/
def setT (T : Nat → Nat → Nat) (i c x : Nat) : Nat → Nat → Nat := fun k d => if k = i ∧ d = c then x else T k d
/-- a row's cells, so far -/
def rowU (T : Nat → Nat → Nat) (i c : Nat) : List AV := row8 fun d => if d < c then (T i d : Int) else 0
end Au
end Go.Vl
end

section
set_option linter.unusedVariables false
set_option linter.unusedSimpArgs false
namespace Go.Vl
/-- a number's digits: -1 .. 99 -/
def dgt (n : Nat) : UInt8 := 48 + UInt8.ofNat n
def itoa (n : Int) : List UInt8 := if n < 0 then [45, 49] else if n < 10 then [dgt n.toNat] else [dgt (n.toNat / 10), dgt (n.toNat % 10)]
def keyL (l : List Int) : List UInt8 := l.flatMap fun n => itoa n ++ [32]
theorem keyL_cons (n : Int) (l : List Int) : keyL (n :: l) = itoa n ++ 32 :: keyL l := by simp [keyL]
theorem keyL_append (l m : List Int) : keyL (l ++ m) = keyL l ++ keyL m := by simp [keyL]
theorem keyL_snoc (l : List Int) (i : Nat) (h : i < l.length) : keyL (l.take (i + 1)) = keyL (l.take i) ++ (itoa (l.getD i 0) ++ [32]) := by
  rw [take_getDG 0 l i h, keyL_append]; simp [keyL]
def sml (l : List Int) : Prop := ∀ n ∈ l, -1 ≤ n ∧ n < 100
theorem dgt_ne (n : Nat) (h : n < 10) : dgt n ≠ 32 ∧ dgt n ≠ 45 := by
  unfold dgt
  rcases (show n = 0 ∨ n = 1 ∨ n = 2 ∨ n = 3 ∨ n = 4 ∨ n = 5 ∨ n = 6 ∨ n = 7 ∨ n = 8 ∨ n = 9 from by omega) with rfl | rfl | rfl | rfl | rfl | rfl | rfl | rfl | rfl | rfl <;> decide
theorem dgt_nat (n : Nat) (h : n < 10) : (dgt n).toNat = 48 + n := by
  unfold dgt
  rcases (show n = 0 ∨ n = 1 ∨ n = 2 ∨ n = 3 ∨ n = 4 ∨ n = 5 ∨ n = 6 ∨ n = 7 ∨ n = 8 ∨ n = 9 from by omega) with rfl | rfl | rfl | rfl | rfl | rfl | rfl | rfl | rfl | rfl <;> rfl
theorem dgt_inj {m n : Nat} (hm : m < 10) (hn : n < 10) (h : dgt m = dgt n) : m = n := by
  have := congrArg UInt8.toNat h
  rw [dgt_nat m hm, dgt_nat n hn] at this; omega
/-- a number's text ends where the space stands -/
theorem itoa_split {m n : Int} (hm : -1 ≤ m ∧ m < 100) (hn : -1 ≤ n ∧ n < 100) {r s : List UInt8} (h : itoa m ++ 32 :: r = itoa n ++ 32 :: s) : m = n ∧ r = s := by
  unfold itoa at h
  by_cases m0 : m < 0
  · rw [if_pos m0] at h
    by_cases n0 : n < 0
    · rw [if_pos n0] at h
      exact ⟨by omega, by simpa using h⟩
    · exfalso
      rw [if_neg n0] at h
      by_cases n1 : n < 10
      · rw [if_pos n1] at h
        have := (List.cons.inj h).1
        exact (dgt_ne n.toNat (by omega)).2 this.symm
      · rw [if_neg n1] at h
        have := (List.cons.inj h).1
        exact (dgt_ne (n.toNat / 10) (by omega)).2 this.symm
  · rw [if_neg m0] at h
    by_cases n0 : n < 0
    · exfalso
      rw [if_pos n0] at h
      by_cases m1 : m < 10
      · rw [if_pos m1] at h
        exact (dgt_ne m.toNat (by omega)).2 (List.cons.inj h).1
      · rw [if_neg m1] at h
        exact (dgt_ne (m.toNat / 10) (by omega)).2 (List.cons.inj h).1
    · rw [if_neg n0] at h
      by_cases m1 : m < 10 <;> by_cases n1 : n < 10
      · rw [if_pos m1, if_pos n1] at h
        obtain ⟨h1, h2⟩ := List.cons.inj h
        have := dgt_inj (by omega) (by omega) h1
        exact ⟨by omega, by simpa using h2⟩
      · exfalso
        rw [if_pos m1, if_neg n1] at h
        obtain ⟨h1, h2⟩ := List.cons.inj h
        exact (dgt_ne (n.toNat % 10) (by omega)).1 (List.cons.inj h2).1.symm
      · exfalso
        rw [if_neg m1, if_pos n1] at h
        obtain ⟨h1, h2⟩ := List.cons.inj h
        exact (dgt_ne (m.toNat % 10) (by omega)).1 (List.cons.inj h2).1
      · rw [if_neg m1, if_neg n1] at h
        obtain ⟨h1, h2⟩ := List.cons.inj h
        obtain ⟨h3, h4⟩ := List.cons.inj h2
        have e1 := dgt_inj (by omega) (by omega) h1
        have e2 := dgt_inj (by omega) (by omega) h3
        exact ⟨by omega, by simpa using h4⟩
theorem itoa_head (n : Int) (hn : -1 ≤ n ∧ n < 100) : ∃ c r, itoa n = c :: r ∧ (c.toNat = 45 ∨ (48 ≤ c.toNat ∧ c.toNat ≤ 57)) := by
  unfold itoa
  split
  · exact ⟨_, _, rfl, .inl rfl⟩
  · split
    · exact ⟨_, _, rfl, .inr (by rw [dgt_nat _ (by omega)]; omega)⟩
    · exact ⟨_, _, rfl, .inr (by rw [dgt_nat _ (by omega)]; omega)⟩
/-- rows of numbers, and a text behind that begins with no number -/
theorem keyL_inj : ∀ {l m : List Int} {r s : List UInt8}, sml l → sml m → (∀ c t, r = c :: t → 57 < c.toNat) → (∀ c t, s = c :: t → 57 < c.toNat) → keyL l ++ r = keyL m ++ s → l = m ∧ r = s
  | [], [], r, s, _, _, _, _, h => ⟨rfl, h⟩
  | [], n :: m, r, s, _, hm, hr, _, h => by
    exfalso
    rw [keyL_cons] at h
    obtain ⟨c, t, e, hc⟩ := itoa_head n (hm n List.mem_cons_self)
    rw [e] at h
    have h : r = c :: (t ++ 32 :: keyL m ++ s) := by simpa [keyL] using h
    have := hr _ _ h
    omega
  | n :: l, [], r, s, hl, _, _, hs, h => by
    exfalso
    rw [keyL_cons] at h
    obtain ⟨c, t, e, hc⟩ := itoa_head n (hl n List.mem_cons_self)
    rw [e] at h
    have h : s = c :: (t ++ 32 :: keyL l ++ r) := by simpa [keyL] using h.symm
    have := hs _ _ h
    omega
  | n :: l, k :: m, r, s, hl, hm, hr, hs, h => by
    rw [keyL_cons, keyL_cons, List.append_assoc, List.append_assoc, List.cons_append, List.cons_append] at h
    obtain ⟨e1, e2⟩ := itoa_split (hl n List.mem_cons_self) (hm k List.mem_cons_self) h
    obtain ⟨e3, e4⟩ := keyL_inj (fun x hx => hl x (List.mem_cons_of_mem _ hx)) (fun x hx => hm x (List.mem_cons_of_mem _ hx)) hr hs e2
    exact ⟨by rw [e1, e3], e4⟩
theorem keyL_inj' {l m : List Int} (hl : sml l) (hm : sml m) (h : keyL l = keyL m) : l = m :=
  (keyL_inj (r := []) (s := []) hl hm (by intro c t h; cases h) (by intro c t h; cases h) (by rw [h])).1
theorem itoa_len (n : Int) : 1 ≤ (itoa n).length ∧ (itoa n).length ≤ 2 := by
  unfold itoa; split
  · exact ⟨by decide, by decide⟩
  · split <;> exact ⟨by simp, by simp⟩
theorem keyL_len (l : List Int) : (keyL l).length ≤ 3 * l.length := by
  induction l with
  | nil => exact Nat.le_refl _
  | cons n l ih => rw [keyL_cons, List.length_append, List.length_cons, List.length_cons]; have := itoa_len n; omega
def fmtB (b : Bool) : List UInt8 := if b then [116, 114, 117, 101] else [102, 97, 108, 115, 101]
theorem fmtB_inj {a b : Bool} (h : fmtB a = fmtB b) : a = b := by cases a <;> cases b <;> first | rfl | (simp [fmtB] at h)
theorem fmtB_head (b : Bool) : ∀ c t, fmtB b = c :: t → 57 < c.toNat := by
  intro c t h
  cases b
  · have h : [102, 97, 108, 115, 101] = c :: t := h
    cases h; decide
  · have h : [116, 114, 117, 101] = c :: t := h
    cases h; decide
theorem keyB_inj {l m : List Int} {a b : Bool} (hl : sml l) (hm : sml m) (h : keyL l ++ fmtB a = keyL m ++ fmtB b) : l = m ∧ a = b := by
  obtain ⟨h1, h2⟩ := keyL_inj hl hm (fmtB_head a) (fmtB_head b) h
  exact ⟨h1, fmtB_inj h2⟩
/-- where a key stands: by what it is the key of -/
theorem place_map {α β : Type} [DecidableEq α] [DecidableEq β] {f : α → β} {k : α} : ∀ {ks : List α}, (∀ q ∈ ks, f k = f q → k = q) → place (f k) (ks.map f) = place k ks
  | [], _ => rfl
  | q :: ks, h => by
    simp only [List.map_cons, place]
    by_cases e : k = q
    · rw [if_pos e, if_pos (by rw [e])]
    · rw [if_neg e, if_neg (fun e' => e (h q List.mem_cons_self e')), place_map fun q hq => h q (List.mem_cons_of_mem _ hq)]
end Go.Vl
end

section
set_option linter.unusedVariables false
set_option linter.unusedSimpArgs false
namespace Go.Vl
open Go.RowKit (Below)
open Go.Sort
theorem MOk.below {w w' : World} {M : List ME} {F : List Nat} (h : MOk w M F) (hb : Below w.heap.size w w') (hF : ∀ b ∈ F, b < w.heap.size) : MOk w' M F := by
  refine ⟨h.nodup, h.apart, fun m hm => ME.holds_keep (w := w) (N := bl M ++ F) ?_ (fun b hb' => ?_) (h.holds m hm)⟩
  · intro b c T fr hn hc
    exact ⟨hn, (hb.block b (heap_lt hc)).trans hc⟩
  · exact hb.block b (bl_lt h b (List.mem_flatMap.2 ⟨m, hm, hb'⟩))
theorem Fr.below {w w' : World} {N : List Nat} (h : Below w.heap.size w w') : Fr w N w' N :=
  ⟨h.os, h.tape, h.output, h.size, fun k hk hn => ⟨h.block k hk, hn⟩⟩
/-- nothing that was turns; the result is known -/
theorem FnC.belowM {P : Program} {f : FuncId} {args : List AV} {M0 : List ME} {r : AV} (hc : CallOk P f)
    (h : ∀ (w : World) (F : List Nat) (vs : List Value), MOk w M0 F → RepT w (bl M0 ++ F) args vs → Calls P f vs.toArray w fun e w' => ∃ v, e = .returned v ∧ Rep w' (bl M0 ++ F) r v ∧ Below w.heap.size w w') : FnC P f args M0 (fun r' M => r' = r ∧ M = M0) :=
  ⟨hc, fun w F vs hF hm ha => (h w F vs hm ha).mono fun e w' ⟨v, he, hr, hb⟩ => ⟨v, r, M0, he, ⟨rfl, rfl⟩, hm.below hb hF, hr, Fr.below hb⟩⟩
theorem RepE.ints {w : World} {N : List Nat} : ∀ {l : List Int} {row : List Value}, row.take l.length = l.map (Value.int .i64) → RepE w N 1 (l.map AV.int) row
  | [], row, _ => by simp only [List.map_nil, RepE]
  | n :: l, row, h => by
    cases row with
    | nil => simp at h
    | cons x row =>
      simp only [List.length_cons, List.take_succ_cons, List.map_cons, List.cons.injEq] at h
      simp only [List.map_cons, RepE]
      refine ⟨by simp, ?_, RepE.ints h.2⟩
      rw [h.1]
      simp only [RepC]; rfl
theorem RepE.toInts {w : World} {N : List Nat} : ∀ {l : List Int} {row : List Value}, RepE w N 1 (l.map AV.int) row → row.take l.length = l.map (Value.int .i64)
  | [], row, _ => by simp
  | n :: l, row, h => by
    simp only [List.map_cons, RepE] at h
    obtain ⟨h1, h2, h3⟩ := h
    cases row with
    | nil => simp at h1
    | cons x row =>
      have h2 : [x] = (Value.int .i64 n).cells.toList := by simpa [RepC] using h2
      have hx : x = .int .i64 n := by simpa [Value.cells] using h2
      rw [List.length_cons, List.take_succ_cons, List.map_cons, hx]
      congr 1
      exact RepE.toInts (w := w) (N := N) h3
theorem lit_cell {w : World} {N : List Nat} {v u : Value} (h1 : (AV.lit v).sh = 0) (h3 : RepC w N (.lit v) [u]) : u = v := by
  simp only [RepC] at h3
  have e : v.cells.toList = [v] := by cases v <;> simp_all [AV.sh, shV, Value.cells]
  rw [e] at h3
  exact (List.cons.inj h3).1
/-- a new own row -/
theorem FnC.belowRow {P : Program} {f : FuncId} {args : List AV} {M0 : List ME} {I : TypeId} {l : List Int} (hc : CallOk P f)
    (h : ∀ (w : World) (F : List Nat) (vs : List Value), (∀ b ∈ F, b < w.heap.size) → MOk w M0 F → RepT w (bl M0 ++ F) args vs → Calls P f vs.toArray w fun e w' => ∃ v, e = .returned v ∧ w'.ownsRow w.heap.size I 1 v l.length (l.map (Value.int .i64)) ∧ Below w.heap.size w w') :
    FnC P f args M0 (fun r M => ∃ v, r = .lit v ∧ M = .arr v I 1 (l.map AV.int) :: M0) := by
  refine ⟨hc, fun w F vs hF hm ha => (h w F vs hF hm ha).mono fun e w' ⟨v, he, hr, hb⟩ => ?_⟩
  have hm' := hm.below hb hF
  refine ⟨v, .lit v, .arr v I 1 (l.map AV.int) :: M0, he, ⟨v, rfl, rfl⟩, ?_, Rep.lit v, ?_⟩
  · rcases hr.2 with ⟨rfl, h0⟩ | ⟨g, cap, cur, rfl, hbase, hg, h1, h2, h3, h4⟩
    · have : l = [] := List.eq_nil_of_length_eq_zero h0
      subst this
      refine ⟨hm'.nodup, hm'.apart, fun m hmm => ?_⟩
      rcases List.mem_cons.1 hmm with rfl | hmm
      · exact ⟨none, 0, rfl, Nat.le_refl _, by simp [maxLen], .inl ⟨rfl, rfl⟩⟩
      · exact hm'.holds m hmm
    · have hgn : g ∉ bl M0 ++ F := fun hg' => by
        rcases List.mem_append.1 hg' with h' | h'
        · have := bl_lt hm g h'; omega
        · have := hF g h'; omega
      have hbl : bl (.arr (.slice (some ⟨g, 0, none⟩) l.length cap) I 1 (l.map AV.int) :: M0) = g :: bl M0 := rfl
      refine ⟨?_, ?_, ?_⟩
      · rw [hbl]
        exact List.nodup_cons.2 ⟨fun h' => hgn (List.mem_append_left _ h'), hm'.nodup⟩
      · rw [hbl]
        intro b hb'
        rcases List.mem_cons.1 hb' with rfl | hb'
        · exact fun h' => hgn (List.mem_append_right _ h')
        · exact hm'.apart b hb'
      · intro m hmm
        rw [hbl]
        rcases List.mem_cons.1 hmm with rfl | hmm
        · refine ⟨some ⟨g, 0, none⟩, cap, by rw [List.length_map], by rw [List.length_map]; exact h1, h2, .inr ⟨g, 0, cur, 0, 0, rfl, hg, by omega, .inl (Nat.le_refl _), ?_⟩⟩
          rw [List.drop_zero]
          exact RepE.ints (by rw [Nat.mul_one] at h4; exact h4)
        · have h5 := hm.holds m hmm
          refine ME.holds_keep (w := w) (N := bl M0 ++ F) ?_ (fun b hb' => hb.block b (bl_lt hm b (List.mem_flatMap.2 ⟨m, hmm, hb'⟩))) h5
          intro b c T fr hn hcc
          refine ⟨fun h' => ?_, (hb.block b (heap_lt hcc)).trans hcc⟩
          rcases List.mem_cons.1 h' with rfl | h'
          · have := heap_lt hcc; omega
          · exact hn h'
  · have hF2 := Fr.below (N := bl M0) hb
    refine ⟨hF2.os, hF2.tape, hF2.output, hF2.size, fun k hk hn => ⟨(hF2.block k hk hn).1, fun h' => ?_⟩⟩
    rcases hr.2 with ⟨rfl, h0⟩ | ⟨g, cap, cur, rfl, hbase, _⟩
    · exact hn h'
    · have h' : k ∈ g :: bl M0 := h'
      rcases List.mem_cons.1 h' with rfl | h'
      · omega
      · exact hn h'
theorem take_putCells (cur : Array Value) (off : Nat) (ts : List Int) (h : off + ts.length ≤ cur.size) : ((putCells (Value.int .i64) off ts.toArray cur).toList.drop off).take ts.length = ts.map (Value.int .i64) := by
  apply List.ext_getElem?
  intro j
  by_cases hj : j < ts.length
  · rw [List.getElem?_take_of_lt hj, List.getElem?_drop, Array.getElem?_toList]
    simp [putCells, hj, show off + j < cur.size by omega]
  · rw [List.getElem?_take_eq_none (by omega), List.getElem?_eq_none (by simp; omega)]
/-- an own row is written by the library; the call hands back a value that its place and length fix -/
theorem FnC.row {P : Program} {f : FuncId} {I : TypeId} {v : Value} {l : List Int} (hc : CallOk P f) (new : List Int) (hn : new.length = l.length) (m : Nat) (hm : m ≤ l.length) (rv : Option Addr → Nat → Value)
    (h0 : l = [] → ∀ (ad : Option Addr) (cap : Nat) (w : World), Calls P f #[.slice ad 0 cap] w fun e w' => e = .returned (rv ad cap) ∧ w' = w)
    (h1 : l ≠ [] → ∀ (g off cap : Nat) (w : World), Holds (Value.int .i64) w g off l.toArray → g < w.heap.size → l.length ≤ cap → cap ≤ maxLen → Calls P f #[.slice (some ⟨g, off, none⟩) l.length cap] w fun e w' => e = .returned (rv (some ⟨g, off, none⟩) cap) ∧ ∃ n os, w' = grow (putRow (Value.int .i64) (Sort.ahead w n) g off new.toArray) os) :
    FnC P f [.lit v] [.arr v I 1 (l.map AV.int)] (fun r M => ∃ ad cap, v = .slice ad l.length cap ∧ r = .lit (rv ad cap) ∧ M = [.arr (.slice ad m cap) I 1 ((new.take m).map AV.int)]) := by
  refine ⟨hc, fun w F vs hF hmk ha => ?_⟩
  simp only [RepT] at ha
  obtain ⟨v0, _, rfl, ⟨hs0, hr0⟩, rfl⟩ := ha
  have e0 : v0 = v := Rep.lit_iff.1 (show Rep w (bl [.arr v I 1 (l.map AV.int)] ++ F) (.lit v) v0 from ⟨hs0, hr0⟩)
  subst e0
  obtain ⟨ad, cap, rfl, hl1, hl2, h3⟩ := hmk.holds _ List.mem_cons_self
  rw [List.length_map] at *
  by_cases hl : l = []
  · subst hl
    refine (h0 rfl ad cap w).mono fun e w' ⟨he, hw⟩ => ?_
    subst hw
    obtain rfl : m = 0 := by simpa using hm
    have hnew : new = [] := List.eq_nil_of_length_eq_zero hn
    subst hnew
    exact ⟨_, _, _, he, ⟨ad, cap, rfl, rfl, rfl⟩, hmk, Rep.lit _, Fr.refl _ _⟩
  · rcases h3 with ⟨_, h3⟩ | ⟨g, off, cur, lo, hi, rfl, hg, hsz, hfr, he⟩
    · have : l.length ≠ 0 := fun h => hl (List.eq_nil_of_length_eq_zero h)
      omega
    · have hti := RepE.toInts he
      have hle : off + l.length ≤ cur.size := by omega
      have hH : Holds (Value.int .i64) w g off l.toArray := by
        intro j hj
        have hj' : j < l.length := by simpa using hj
        refine ⟨?_, ?_⟩
        · rw [cell_of hg]
          have h5 : ((cur.toList.drop off).take l.length)[j]? = (l.map (Value.int .i64))[j]? := by rw [hti]
          rw [List.getElem?_take_of_lt hj', List.getElem?_drop, Array.getElem?_toList] at h5
          rw [h5]; simp [hj']
        · simp only [World.frozen?, hg]
          rcases hfr with h5 | h5
          · simp; omega
          · simp; omega
      refine (h1 hl g off cap w hH (heap_lt hg) hl1 hl2).mono fun e w' ⟨he', n, os, hw⟩ => ?_
      subst hw
      have hg' : (grow (putRow (Value.int .i64) (Sort.ahead w n) g off new.toArray) os).heap[g]? = some (.cells (putCells (Value.int .i64) off new.toArray cur) I (lo, hi)) := by
        rw [heap_grow_old _ _ (by simpa using heap_lt hg)]
        simp [putRow, mapBlock, Sort.ahead, Array.getElem?_modify, hg, onCells]
      have hother : ∀ k, k < w.heap.size → k ≠ g → (grow (putRow (Value.int .i64) (Sort.ahead w n) g off new.toArray) os).heap[k]? = w.heap[k]? := fun k hk hne => by
        rw [heap_grow_old _ _ (by simpa using hk)]
        have hne' : ¬ g = k := fun e => hne e.symm
        simp [putRow, mapBlock, Sort.ahead, Array.getElem?_modify, hne']
      have htl : (new.take m).length = m := by rw [List.length_take]; omega
      refine ⟨_, _, [.arr (.slice (some ⟨g, off, none⟩) m cap) I 1 ((new.take m).map AV.int)], he', ⟨_, cap, rfl, rfl, rfl⟩, ⟨?_, ?_, ?_⟩, Rep.lit _, ?_⟩
      · exact hmk.nodup
      · exact hmk.apart
      · intro q hq
        rw [List.mem_singleton.1 hq]
        refine ⟨some ⟨g, off, none⟩, cap, by rw [List.length_map, htl], by rw [List.length_map, htl]; omega, hl2, .inr ⟨g, off, _, lo, hi, rfl, hg', by simpa [putCells] using hsz, hfr, ?_⟩⟩
        refine RepE.ints ?_
        rw [htl]
        have := take_putCells cur off new (by omega)
        have h6 := congrArg (List.take m) this
        rw [List.take_take, Nat.min_eq_left (by omega), ← List.map_take] at h6
        exact h6
      · refine ⟨rfl, rfl, rfl, by simp [grow, Sort.ahead], fun k hk hkn => ?_⟩
        have hne : k ≠ g := fun e => hkn (by rw [e]; exact List.mem_cons_self)
        exact ⟨hother k hk hne, hkn⟩
end Go.Vl
end
