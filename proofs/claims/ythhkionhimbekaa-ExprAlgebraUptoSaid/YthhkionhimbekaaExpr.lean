/-
  Expressions, without a program: values, texts, what is parsed, words that are meant.
-/
import Derived.Test.YthhkionhimbekaaTree
set_option linter.unusedVariables false
set_option linter.unusedSimpArgs false
namespace Go.Vl
inductive Ex where
  | mk (kind type : Int) (parts : List Ex)
namespace Ex
def kind : Ex → Int | mk k _ _ => k
def type : Ex → Int | mk _ t _ => t
def parts : Ex → List Ex | mk _ _ p => p
mutual
def av : Ex → AV
  | mk k t p => .agg [.int k, .int t, .sl 3 (avs p)]
def avs : List Ex → List AV
  | [] => []
  | d :: l => av d :: avs l
end
theorem avs_map (l : List Ex) : avs l = l.map av := by
  induction l with
  | nil => rfl
  | cons d l ih => rw [avs, ih]; rfl
abbrev avx (d : Ex) : AV := .agg [.int d.kind, .int d.type, .sl 3 (d.parts.map av)]
theorem av_eq (d : Ex) : d.av = avx d := by
  cases d with | mk n a p => rw [av, avs_map]; rfl
theorem avx_one (k : Int) (x : Ex) : (mk k 0 [x]).avx.cells = [.int k, .int 0, .sl 3 [x.avx]] := by
  show [AV.int k, AV.int 0, AV.sl 3 [x.av]] = _
  rw [av_eq]
def dflt : Ex := mk 0 0 []
theorem at_av (l : List Ex) (i : Nat) (h : i < l.length) : (l.map av)[i]? = some (avx (l.getD i dflt)) := by
  rw [← av_eq]; exact getD_mapG av dflt l i h
theorem map_snoc (l : List Ex) (d : Ex) : (l ++ [d]).map av = l.map av ++ [avx d] := by rw [List.map_append, ← av_eq]; rfl
theorem take_snoc (l : List Ex) (i : Nat) (h : i < l.length) : (l.take (i + 1)).map av = (l.take i).map av ++ [avx (l.getD i dflt)] := by
  rw [take_getDG dflt l i h, map_snoc]
theorem okc_avs (l : List Ex) : ∀ e ∈ l.map av, e.okc = true := by
  intro e he
  obtain ⟨d, _, rfl⟩ := List.mem_map.1 he
  rw [av_eq]; rfl
mutual
def sz : Ex → Nat
  | mk _ _ p => 1 + szs p
def szs : List Ex → Nat
  | [] => 0
  | d :: l => sz d + szs l
end
theorem sz_eq (d : Ex) : d.sz = 1 + szs d.parts := by cases d; rfl
theorem szs_append (l m : List Ex) : szs (l ++ m) = szs l + szs m := by
  induction l with
  | nil => simp [szs]
  | cons d l ih => rw [List.cons_append, szs, szs, ih]; omega
theorem szs_len (l : List Ex) : l.length ≤ szs l := by
  induction l with
  | nil => simp [szs]
  | cons d l ih => rw [szs, List.length_cons, sz_eq]; omega
theorem szs_mem {l : List Ex} {d : Ex} (h : d ∈ l) : d.sz ≤ szs l := by
  induction l with
  | nil => cases h
  | cons e l ih =>
    rw [szs]
    rcases List.mem_cons.1 h with rfl | h
    · omega
    · have := ih h; omega
theorem part_sz {x d : Ex} (h : d ∈ x.parts) : d.sz < x.sz := by
  have := szs_mem h; have := sz_eq x; omega
/-- induction over expressions -/
theorem rec' {P : Ex → Prop} (h : ∀ x, (∀ d ∈ x.parts, P d) → P x) : ∀ x, P x := by
  suffices H : ∀ n x, sz x ≤ n → P x from fun x => H _ x (Nat.le_refl _)
  intro n
  induction n with
  | zero => intro x hx; have := sz_eq x; omega
  | succ n ih => exact fun x hx => h x fun d hd => ih d (by have := part_sz hd; omega)
/-- an expression that may be, but for its parts -/
def ok1 (x : Ex) : Prop :=
  (x.kind = 1 ∧ x.parts = [] ∧ 0 ≤ x.type ∧ x.type < 8) ∨ (x.kind = 2 ∧ x.type = 0 ∧ x.parts.length ≠ 1 ∧ ∀ q ∈ x.parts, q.kind ≠ 2) ∨
  (x.kind = 3 ∧ x.type = 0 ∧ 2 ≤ x.parts.length ∧ ∀ q ∈ x.parts, q.kind ≠ 3) ∨ (4 ≤ x.kind ∧ x.kind ≤ 6 ∧ x.type = 0 ∧ x.parts.length = 1)
mutual
def ok : Ex → Prop
  | mk k t p => ok1 (mk k t p) ∧ oks p
def oks : List Ex → Prop
  | [] => True
  | d :: l => ok d ∧ oks l
end
theorem oks_iff (l : List Ex) : oks l ↔ ∀ d ∈ l, ok d := by
  induction l with
  | nil => simp [oks]
  | cons d l ih => simp [oks, ih]
theorem ok_iff (x : Ex) : ok x ↔ ok1 x ∧ ∀ d ∈ x.parts, ok d := by
  cases x with | mk k t p => rw [ok, oks_iff]; rfl
theorem ok_kind {x : Ex} (h : ok x) : 1 ≤ x.kind ∧ x.kind ≤ 6 := by
  rcases ((ok_iff x).1 h).1 with h | h | h | h <;> omega
/-- the signs behind a part -/
def sgn (k : Int) : UInt8 := if k = 4 then 42 else if k = 5 then 43 else 63
def par (k : Int) (q : Ex) : Prop := (q.kind = 3 ∧ k ≠ 3) ∨ (q.kind = 2 ∧ 4 ≤ k)
instance (k : Int) (q : Ex) : Decidable (par k q) := by unfold par; infer_instance
/-- texts, with a sign between -/
def joinW (sep : List UInt8) : List (List UInt8) → List UInt8
  | [] => []
  | [s] => s
  | s :: t :: l => s ++ (sep ++ joinW sep (t :: l))
mutual
def txt : Ex → List UInt8
  | mk k t p => if k = 1 then [97 + UInt8.ofNat t.toNat] else if k = 2 then joinW [] (ptx k p) else if k = 3 then joinW [124] (ptx k p) else joinW [] (ptx k p) ++ [sgn k]
def ptx (k : Int) : List Ex → List (List UInt8)
  | [] => []
  | q :: l => (if par k q then 40 :: (txt q ++ [41]) else txt q) :: ptx k l
end
def ptx1 (k : Int) (q : Ex) : List UInt8 := if par k q then 40 :: (txt q ++ [41]) else txt q
theorem ptx_map (k : Int) (l : List Ex) : ptx k l = l.map (ptx1 k) := by
  induction l with
  | nil => rfl
  | cons d l ih => rw [ptx, ih]; rfl
theorem txt_eq (x : Ex) : txt x = if x.kind = 1 then [97 + UInt8.ofNat x.type.toNat] else if x.kind = 2 then joinW [] (x.parts.map (ptx1 x.kind)) else if x.kind = 3 then joinW [124] (x.parts.map (ptx1 x.kind)) else joinW [] (x.parts.map (ptx1 x.kind)) ++ [sgn x.kind] := by
  cases x with | mk k t p => rw [txt, ptx_map]; rfl
end Ex

/-! ### what is written -/
inductive It where
  | ch (n : Nat) (sf : List Nat)
  | gr (s : List It) (a : List (List It)) (sf : List Nat)
def sg (k : Nat) : UInt8 := if k = 0 then 42 else if k = 1 then 43 else 63
def Ex.sfe (x : Ex) (sf : List Nat) : Ex := sf.foldl (fun x (k : Nat) => .mk (4 + (k : Int)) 0 [x]) x
def Ex.flat (k : Int) (l : List Ex) : List Ex := l.flatMap fun p => if p.kind = k then p.parts else [p]
def Ex.tog (k : Int) (l : List Ex) : Ex :=
  match l with
  | [x] => x
  | l => match Ex.flat k l with
    | [y] => y
    | ps => .mk k 0 ps
namespace It
def sfs : It → List Nat | ch _ sf => sf | gr _ _ sf => sf
mutual
def tx : It → List UInt8
  | ch n sf => (97 + UInt8.ofNat n) :: sf.map sg
  | gr s a sf => 40 :: (stx s ++ (atl a ++ 41 :: sf.map sg))
def stx : List It → List UInt8
  | [] => []
  | i :: s => tx i ++ stx s
def atl : List (List It) → List UInt8
  | [] => []
  | s :: a => 124 :: (stx s ++ atl a)
end
mutual
def ev : It → Ex
  | ch n sf => Ex.sfe (.mk 1 n []) sf
  | gr s a sf => Ex.sfe (Ex.tog 3 (Ex.tog 2 (sev s) :: aev a)) sf
def sev : List It → List Ex
  | [] => []
  | i :: s => ev i :: sev s
def aev : List (List It) → List Ex
  | [] => []
  | s :: a => Ex.tog 2 (sev s) :: aev a
end
mutual
/-- letters and signs that may be -/
def ok : It → Prop
  | ch n sf => n < 8 ∧ ∀ k ∈ sf, k < 3
  | gr s a sf => (oks s ∧ oka a) ∧ ∀ k ∈ sf, k < 3
def oks : List It → Prop
  | [] => True
  | i :: s => ok i ∧ oks s
def oka : List (List It) → Prop
  | [] => True
  | s :: a => oks s ∧ oka a
end
mutual
def sz : It → Nat
  | ch _ _ => 1
  | gr s a _ => 1 + szs s + sza a
def szs : List It → Nat
  | [] => 0
  | i :: s => sz i + szs s
def sza : List (List It) → Nat
  | [] => 0
  | s :: a => 1 + szs s + sza a
end
abbrev sq (s : List It) : Ex := Ex.tog 2 (sev s)
abbrev al (s : List It) (a : List (List It)) : Ex := Ex.tog 3 (sq s :: aev a)
theorem stx_flat (s : List It) : stx s = s.flatMap tx := by
  induction s with
  | nil => rfl
  | cons i s ih => rw [stx, ih]; rfl
theorem stx_append (s t : List It) : stx (s ++ t) = stx s ++ stx t := by simp [stx_flat]
theorem sev_map (s : List It) : sev s = s.map ev := by
  induction s with
  | nil => rfl
  | cons i s ih => rw [sev, ih]; rfl
theorem aev_map (a : List (List It)) : aev a = a.map sq := by
  induction a with
  | nil => rfl
  | cons s a ih => rw [aev, ih]; rfl
theorem atl_append (a b : List (List It)) : atl (a ++ b) = atl a ++ atl b := by
  induction a with
  | nil => rfl
  | cons s a ih => rw [List.cons_append, atl, ih, atl]; simp
theorem oks_iff (s : List It) : oks s ↔ ∀ i ∈ s, ok i := by
  induction s with
  | nil => simp [oks]
  | cons d l ih => simp [oks, ih]
theorem oka_iff (a : List (List It)) : oka a ↔ ∀ s ∈ a, oks s := by
  induction a with
  | nil => simp [oka]
  | cons d l ih => simp [oka, ih]
theorem sz_mem {s : List It} {i : It} (h : i ∈ s) : sz i ≤ szs s := by
  induction s with
  | nil => cases h
  | cons e l ih =>
    rw [szs]
    rcases List.mem_cons.1 h with rfl | h
    · omega
    · have := ih h; omega
theorem szs_mem {a : List (List It)} {s : List It} (h : s ∈ a) : szs s < sza a := by
  induction a with
  | nil => cases h
  | cons e l ih =>
    rw [sza]
    rcases List.mem_cons.1 h with rfl | h
    · omega
    · have := ih h; omega
/-- induction over what is written -/
theorem rec' {P : It → Prop} (h1 : ∀ n sf, P (ch n sf)) (h2 : ∀ s a sf, (∀ i ∈ s, P i) → (∀ t ∈ a, ∀ i ∈ t, P i) → P (gr s a sf)) : ∀ i, P i := by
  suffices H : ∀ n i, sz i ≤ n → P i from fun i => H _ i (Nat.le_refl _)
  intro n
  induction n with
  | zero => intro i hi; cases i <;> simp only [sz] at hi <;> omega
  | succ n ih =>
    intro i hi
    cases i with
    | ch n sf => exact h1 n sf
    | gr s a sf =>
      simp only [sz] at hi
      exact h2 s a sf (fun i h => ih i (by have := sz_mem h; omega)) (fun t ht i h => ih i (by have := sz_mem h; have := szs_mem ht; omega))
end It

/-! ### together -/
namespace Ex
theorem tog_two (k : Int) (l : List Ex) (h : l.length ≠ 1) : tog k l = (match flat k l with | [y] => y | ps => .mk k 0 ps) := by
  unfold tog
  split
  · simp at h
  · rfl
theorem tog_cases (k : Int) (l : List Ex) : (∃ x, l = [x] ∧ tog k l = x) ∨ (l.length ≠ 1 ∧ ∃ y, flat k l = [y] ∧ tog k l = y) ∨ (l.length ≠ 1 ∧ (flat k l).length ≠ 1 ∧ tog k l = .mk k 0 (flat k l)) := by
  unfold tog
  split
  · exact .inl ⟨_, rfl, rfl⟩
  · rename_i h
    have hl : l.length ≠ 1 := fun h' => by
      match l, h' with
      | [x], _ => exact h x rfl
    split
    · rename_i y hy; exact .inr (.inl ⟨hl, y, hy, rfl⟩)
    · rename_i hy
      refine .inr (.inr ⟨hl, fun h' => ?_, rfl⟩)
      match hf : flat k l, h' with
      | [x], _ => exact hy x hf
theorem tog_y (k : Int) (l : List Ex) (y : Ex) (h : l.length ≠ 1) (hy : flat k l = [y]) : tog k l = y := by
  rw [tog_two k l h, hy]
theorem tog_n (k : Int) (l : List Ex) (h : l.length ≠ 1) (hy : (flat k l).length ≠ 1) : tog k l = .mk k 0 (flat k l) := by
  rcases tog_cases k l with ⟨x, rfl, _⟩ | ⟨_, y, h2, _⟩ | ⟨_, _, e⟩
  · exact absurd rfl h
  · rw [h2] at hy; exact absurd rfl hy
  · exact e
theorem flat_szs (k : Int) (l : List Ex) : szs (flat k l) ≤ szs l := by
  induction l with
  | nil => exact Nat.le_refl _
  | cons d l ih =>
    have h := sz_eq d
    rw [show flat k (d :: l) = (if d.kind = k then d.parts else [d]) ++ flat k l from rfl, szs_append, szs]
    split
    · omega
    · simp only [szs]; omega
theorem flat_append (k : Int) (l m : List Ex) : flat k (l ++ m) = flat k l ++ flat k m := by simp [flat]
theorem flat_snoc (k : Int) (l : List Ex) (i : Nat) (h : i < l.length) : flat k (l.take (i + 1)) = flat k (l.take i) ++ (if (l.getD i dflt).kind = k then (l.getD i dflt).parts else [l.getD i dflt]) := by
  rw [take_getDG dflt l i h, flat_append]; simp [flat]
theorem flat_take (k : Int) (l : List Ex) (i : Nat) : (flat k (l.take i)).length ≤ szs l := by
  have h1 := szs_len (flat k (l.take i))
  have h2 := flat_szs k (l.take i)
  have h3 := szs_append (l.take i) (l.drop i)
  rw [List.take_append_drop] at h3
  omega
theorem flat_self (k : Int) (l : List Ex) (h : ∀ q ∈ l, q.kind ≠ k) : flat k l = l := by
  induction l with
  | nil => rfl
  | cons d l ih =>
    rw [show flat k (d :: l) = (if d.kind = k then d.parts else [d]) ++ flat k l from rfl, ih fun q hq => h q (List.mem_cons_of_mem _ hq), if_neg (h d List.mem_cons_self)]; rfl
theorem flat_ok (k : Int) (hk : k = 2 ∨ k = 3) (l : List Ex) (h : ∀ q ∈ l, ok q) : ∀ q ∈ flat k l, ok q ∧ q.kind ≠ k := by
  intro q hq
  obtain ⟨p, hp, hq⟩ := List.mem_flatMap.1 hq
  obtain ⟨h1, h2⟩ := (ok_iff p).1 (h p hp)
  split at hq
  · rename_i e
    refine ⟨h2 q hq, ?_⟩
    rcases h1 with h1 | ⟨h1, _, _, h3⟩ | ⟨h1, _, _, h3⟩ | h1
    · rcases hk with rfl | rfl <;> omega
    · rw [← e, h1]; exact h3 q hq
    · rw [← e, h1]; exact h3 q hq
    · rcases hk with rfl | rfl <;> omega
  · rename_i e
    rw [List.mem_singleton.1 hq]; exact ⟨h p hp, e⟩
theorem flat3_len (l : List Ex) (h : ∀ q ∈ l, ok q) : l.length ≤ (flat 3 l).length := by
  induction l with
  | nil => simp
  | cons d l ih =>
    have ih := ih fun q hq => h q (List.mem_cons_of_mem _ hq)
    rw [show flat 3 (d :: l) = (if d.kind = 3 then d.parts else [d]) ++ flat 3 l from rfl, List.length_append, List.length_cons]
    split
    · rcases ((ok_iff d).1 (h d List.mem_cons_self)).1 with h1 | h1 | h1 | h1 <;> omega
    · simp only [List.length_singleton]; omega
theorem tog_ok (k : Int) (hk : k = 2 ∨ k = 3) (l : List Ex) (h : ∀ q ∈ l, ok q) (hl : k = 3 → l ≠ []) : ok (tog k l) := by
  rcases tog_cases k l with ⟨x, rfl, e⟩ | ⟨h1, y, h2, e⟩ | ⟨h1, h2, e⟩
  · rw [e]; exact h x List.mem_cons_self
  · rw [e]; exact (flat_ok k hk l h y (by rw [h2]; exact List.mem_cons_self)).1
  · rw [e, ok_iff]
    have hf := flat_ok k hk l h
    refine ⟨?_, fun d hd => (hf d hd).1⟩
    rcases hk with rfl | rfl
    · exact .inr (.inl ⟨rfl, rfl, h2, fun q hq => (hf q hq).2⟩)
    · have h3 := flat3_len l h
      have h4 : l.length ≠ 0 := fun h' => hl rfl (List.eq_nil_of_length_eq_zero h')
      exact .inr (.inr (.inl ⟨rfl, rfl, by show 2 ≤ (flat 3 l).length; omega, fun q hq => (hf q hq).2⟩))
theorem sfe_ok : ∀ (sf : List Nat) (x : Ex), ok x → (∀ k ∈ sf, k < 3) → ok (sfe x sf)
  | [], x, hx, _ => hx
  | k :: sf, x, hx, h => by
    have hk := h k List.mem_cons_self
    refine sfe_ok sf _ ((ok_iff _).2 ⟨.inr (.inr (.inr ⟨?_, ?_, rfl, rfl⟩)), ?_⟩) fun k' h' => h k' (List.mem_cons_of_mem _ h')
    · show 4 ≤ 4 + (k : Int); omega
    · show 4 + (k : Int) ≤ 6; omega
    · intro d hd; rw [List.mem_singleton.1 hd]; exact hx
theorem sfe_append (x : Ex) (a b : List Nat) : sfe x (a ++ b) = sfe (sfe x a) b := by simp [sfe]
theorem sfe_snoc (x : Ex) (sf : List Nat) (i : Nat) (h : i < sf.length) : sfe x (sf.take (i + 1)) = .mk (4 + (sf.getD i 0 : Int)) 0 [sfe x (sf.take i)] := by
  rw [take_getDG 0 sf i h, sfe_append]; rfl
end Ex
namespace It
theorem ev_ok : ∀ i : It, ok i → Ex.ok i.ev := by
  refine rec' ?_ ?_
  · rintro n sf h
    simp only [ok] at h
    rw [ev]
    exact Ex.sfe_ok sf _ ((Ex.ok_iff _).2 ⟨.inl ⟨rfl, rfl, by show 0 ≤ (n : Int); omega, by show (n : Int) < 8; omega⟩, by intro d hd; cases hd⟩) h.2
  · rintro s a sf h1 h2 h
    simp only [ok, oks_iff, oka_iff] at h
    rw [ev, sev_map, aev_map]
    have hs : ∀ t : List It, (∀ i ∈ t, Ex.ok i.ev) → Ex.ok (sq t) := fun t ht => by
      refine Ex.tog_ok 2 (.inl rfl) _ (fun q hq => ?_) (by intro h; cases h)
      rw [sev_map] at hq
      obtain ⟨i, hi, rfl⟩ := List.mem_map.1 hq
      exact ht i hi
    refine Ex.sfe_ok sf _ (Ex.tog_ok 3 (.inr rfl) _ ?_ (by simp)) h.2
    intro q hq
    rcases List.mem_cons.1 hq with rfl | hq
    · rw [← sev_map]; exact hs s fun i hi => h1 i hi (h.1.1 i hi)
    · obtain ⟨t, ht, rfl⟩ := List.mem_map.1 hq
      exact hs t fun i hi => h2 t ht i hi (h.1.2 t ht i hi)
theorem sq_ok (s : List It) (h : oks s) : Ex.ok (sq s) := by
  refine Ex.tog_ok 2 (.inl rfl) _ (fun q hq => ?_) (by intro h; cases h)
  rw [sev_map] at hq
  obtain ⟨i, hi, rfl⟩ := List.mem_map.1 hq
  exact ev_ok i ((oks_iff s).1 h i hi)
theorem al_ok (s : List It) (a : List (List It)) (h : oks s) (ha : oka a) : Ex.ok (al s a) := by
  refine Ex.tog_ok 3 (.inr rfl) _ (fun q hq => ?_) (by simp)
  rcases List.mem_cons.1 hq with rfl | hq
  · exact sq_ok s h
  · rw [aev_map] at hq
    obtain ⟨t, ht, rfl⟩ := List.mem_map.1 hq
    exact sq_ok t ((oka_iff a).1 ha t ht)
end It
end Go.Vl
