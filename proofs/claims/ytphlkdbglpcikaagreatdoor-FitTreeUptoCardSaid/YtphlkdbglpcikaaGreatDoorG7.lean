/-
  Merged: Norm Sts Shelf WSeq WNorm WBld WStr WKey WFmt WState WHas Pick WLink.
-/
import Derived.Test.YtphlkdbglpcikaaGreatDoorG6
import Derived.Lib.SlicesCompact
import Derived.Shelf.Strings.Builder1
import Derived.Shelf.Strings.Builder2
import Derived.Shelf.Strings.OnBuilder
import Derived.Shelf.Small.Bits
import Derived.Shelf.Small.Strs
import Derived.Shelf.Small.Wraps
import Derived.Shelf.Strconv.Itoa0
import Derived.Shelf.Strconv.Itoa1
import Derived.Shelf.LaysM
import Derived.Shelf.Strconv.Itoa2
import Derived.Shelf.Strconv.Itoa3
import Derived.Shelf.Strings.Search1
import Derived.Shelf.Sort.Plain
import Derived.Shelf.Bits.Mul64
import Derived.Shelf.Slices.Turned
import Derived.Ground.Names2Prog
import Derived.Shelf.Slices.Clone
import Derived.Shelf.Slices.CompactI
import Derived.Shelf.Slices.SearchI
import Derived.Shelf.Slices.Cells
import Derived.Shelf.Slices.In.SortNone
import Derived.Ground.SlgnProg
import Derived.Shelf.SlicesE.Clone
import Derived.Test.YtphlkdbglpcikaaGreatDoorProg
import Derived.RangeFuncNested
import Derived.RangeFuncBox
import Derived.RangeFuncLeaves
import Derived.Shelf.Abstract
import Derived.WalkKit
import Derived.OwnWalkIn
import Derived.TacticsInMore
import Derived.LoopNIn
import Derived.LoopIn
import Derived.Maps.AppendAt
import Derived.Sort.OwnSortedInts
set_option linter.unusedVariables false
set_option linter.unusedSimpArgs false
set_option maxRecDepth 100000

section
namespace Go.Vl
open Go.Lib
def srt (l : List Int) : List Int := l.mergeSort fun x y => decide (x ≤ y)
def norm (l : List Int) : List Int := compact (srt l)
theorem srt_len (l : List Int) : (srt l).length = l.length := by simp [srt]
theorem srt_mem (l : List Int) (x : Int) : x ∈ srt l ↔ x ∈ l := (List.mergeSort_perm l _).mem_iff
theorem srt_asc (l : List Int) : (srt l).Pairwise (· ≤ ·) := by
 have h := List.pairwise_mergeSort (le := fun x y : Int => decide (x ≤ y)) (fun a b c h1 h2 => by simp at h1 h2 ⊢; omega) (fun a b => by simp; omega) l
 exact h.imp fun h => by simpa using h
theorem compact_all' (zs : List Int) (hs : zs.Pairwise (· ≤ ·)) : ∀ m, m ≤ zs.length → (compactUpTo zs.toArray m).Pairwise (· < ·) ∧ (∀ x, x ∈ compactUpTo zs.toArray m ↔ ∃ j, j < m ∧ zs.toArray[j]! = x) ∧ (compactUpTo zs.toArray m).length ≤ m := by
 have hle : ∀ i j, i ≤ j → j < zs.length → zs.toArray[i]! ≤ zs.toArray[j]! := fun i j hij hj => by
  have hi : i < zs.length := by omega
  have e : ∀ k, (hk : k < zs.length) → zs.toArray[k]! = zs[k] := fun k hk => by simp [hk]
  rw [e i hi, e j hj]
  rcases Nat.lt_or_ge i j with h | h
  ·exact List.pairwise_iff_getElem.1 hs i j hi hj h
  ·obtain rfl : i = j := by omega
   exact Int.le_refl _
 intro m
 induction m with
 | zero => intro _; exact ⟨by simp [compactUpTo], by simp [compactUpTo], by simp [compactUpTo]⟩
 | succ m ih =>
  intro hm
  obtain ⟨h1, h2, h3⟩ := ih (by omega)
  rw [compactUpTo_succ]
  by_cases hk : keeps zs.toArray m = true
  ·rw [if_pos hk]
   refine ⟨?_, fun x => ?_, by simp; omega⟩
   ·refine List.pairwise_append.2 ⟨h1, by simp, fun x hx y hy => ?_⟩
    rw [List.mem_singleton.1 hy]
    obtain ⟨j, hj, rfl⟩ := (h2 x).1 hx
    have hkk : m = 0 ∨ zs.toArray[m]! ≠ zs.toArray[m - 1]! := by simpa [keeps] using hk
    have a1 := hle j (m - 1) (by omega) (by omega)
    have a2 := hle (m - 1) m (by omega) (by omega)
    rcases hkk with h | h
    ·omega
    ·have : zs.toArray[m]! ≠ zs.toArray[m - 1]! := h
     omega
   ·rw [List.mem_append, List.mem_singleton, h2]
    constructor
    ·rintro (⟨j, hj, e⟩ | e)
     ·exact ⟨j, by omega, e⟩
     ·exact ⟨m, by omega, e.symm⟩
    ·rintro ⟨j, hj, e⟩
     rcases Nat.lt_or_ge j m with h | h
     ·exact .inl ⟨j, h, e⟩
     ·obtain rfl : j = m := by omega
      exact .inr e.symm
  ·rw [if_neg hk, List.append_nil]
   have hkk : m ≠ 0 ∧ zs.toArray[m]! = zs.toArray[m - 1]! := by
    have : ¬ (m = 0 ∨ zs.toArray[m]! ≠ zs.toArray[m - 1]!) := by simpa [keeps] using hk
    exact ⟨fun h => this (.inl h), Classical.byContradiction fun h => this (.inr h)⟩
   refine ⟨h1, fun x => ?_, by omega⟩
   rw [h2]
   constructor
   ·rintro ⟨j, hj, e⟩; exact ⟨j, by omega, e⟩
   ·rintro ⟨j, hj, e⟩
    rcases Nat.lt_or_ge j m with h | h
    ·exact ⟨j, h, e⟩
    ·obtain rfl : j = m := by omega
     exact ⟨j - 1, by omega, by rw [← hkk.2]; exact e⟩
theorem norm_all (l : List Int) : (norm l).Pairwise (· < ·) ∧ (∀ x, x ∈ norm l ↔ x ∈ l) ∧ (norm l).length ≤ l.length := by
 obtain ⟨h1, h2, h3⟩ := compact_all' (srt l) (srt_asc l) (srt l).length (Nat.le_refl _)
 refine ⟨h1, fun x => ?_, by rw [← srt_len l]; exact h3⟩
 rw [← srt_mem l x]
 refine (h2 x).trans ⟨?_, fun hx => ?_⟩
 ·rintro ⟨j, hj, e⟩
  rw [← e]
  simp [hj]
 ·obtain ⟨j, hj, rfl⟩ := List.mem_iff_getElem.1 hx
  exact ⟨j, hj, by simp [hj]⟩
theorem norm_mem (l : List Int) (x : Int) : x ∈ norm l ↔ x ∈ l := (norm_all l).2.1 x
theorem norm_len (l : List Int) : (norm l).length ≤ l.length := (norm_all l).2.2
theorem compact_len (l : List Int) (hs : l.Pairwise (· ≤ ·)) : (compact l).length ≤ l.length := (compact_all' l hs l.length (Nat.le_refl _)).2.2
theorem asc_ext : ∀ {l m : List Int}, l.Pairwise (· < ·) → m.Pairwise (· < ·) → (∀ x, x ∈ l ↔ x ∈ m) → l = m
 | [], [], _, _, _ => rfl
 | [], b :: m, _, _, h => absurd ((h b).2 List.mem_cons_self) (by simp)
 | a :: l, [], _, _, h => absurd ((h a).1 List.mem_cons_self) (by simp)
 | a :: l, b :: m, hl, hm, h => by
  obtain ⟨l1, l2⟩ := List.pairwise_cons.1 hl
  obtain ⟨m1, m2⟩ := List.pairwise_cons.1 hm
  have hab : a = b := by
   rcases List.mem_cons.1 ((h a).1 List.mem_cons_self) with e | e
   ·exact e
   ·rcases List.mem_cons.1 ((h b).2 List.mem_cons_self) with e' | e'
    ·exact e'.symm
    ·have := m1 a e; have := l1 b e'; omega
  subst hab
  congr 1
  refine asc_ext l2 m2 fun x => ?_
  constructor
  ·intro hx
   rcases List.mem_cons.1 ((h x).1 (List.mem_cons_of_mem _ hx)) with e | e
   ·have := l1 x hx; omega
   ·exact e
  ·intro hx
   rcases List.mem_cons.1 ((h x).2 (List.mem_cons_of_mem _ hx)) with e | e
   ·have := m1 x hx; omega
   ·exact e
theorem norm_ext {l m : List Int} (h : ∀ x, x ∈ l ↔ x ∈ m) : norm l = norm m :=
 asc_ext (norm_all l).1 (norm_all m).1 fun x => (norm_mem l x).trans ((h x).trans (norm_mem m x).symm)
theorem itoa_lib (n : Int) (h0 : -1 ≤ n) (h1 : n < 100) : Lib.itoa n = itoa n := by
 unfold Lib.itoa itoa
 by_cases h : n < 0
 ·obtain rfl : n = -1 := by omega
  rw [if_pos h, if_pos h, Lib.decDigits, dif_pos (by decide)]; rfl
 ·rw [if_neg h, if_neg h]
  by_cases h9 : n < 10
  ·rw [if_pos h9, Lib.decDigits, dif_pos (by omega), dgt]
   congr 1
   rw [UInt8.ofNat_add]; rfl
  ·rw [if_neg h9, Lib.decDigits, dif_neg (by omega), Lib.decDigits, dif_pos (by omega)]
   show [_, _] = [_, _]
   unfold dgt
   rw [UInt8.ofNat_add, UInt8.ofNat_add]; rfl
end Go.Vl
end
section
namespace Go.Vl
abbrev Ss := List Int × Bool
structure Gp where
 tys : List Int
 F : Fol
 fi : List Nat
 la : List Nat
 no : Bool
namespace Gp
def ints (l : List Nat) : List Int := l.map fun n : Nat => (n : Int)
theorem ints_mem (l : List Nat) (x : Int) : x ∈ ints l ↔ ∃ n, n ∈ l ∧ x = (n : Int) := by
 simp only [ints, List.mem_map]
 exact ⟨fun ⟨n, h, e⟩ => ⟨n, h, e.symm⟩, fun ⟨n, h, e⟩ => ⟨n, h, e.symm⟩⟩
theorem ints_av (l : List Nat) : (ints l).map AV.int = l.map natv := by rw [ints, List.map_map]; rfl
def sel (g : Gp) (S : List Int) (c : Nat) : List Int := S.filter fun k => tyOf g.tys k.toNat == (c : Int)
def tos (g : Gp) (P : List Int) : List Int := P.flatMap fun k => ints (g.F.getD k.toNat [])
def fins (g : Gp) (P : List Int) : Bool := P.any fun k => decide (k.toNat ∈ g.la)
def stp (g : Gp) (s : Ss) (c : Nat) : Ss := (norm (g.tos (g.sel s.1 c)), g.fins (g.sel s.1 c))
theorem sel_snoc (g : Gp) (S : List Int) (c i : Nat) (h : i < S.length) : g.sel (S.take (i + 1)) c = g.sel (S.take i) c ++ (if tyOf g.tys (S.getD i 0).toNat == (c : Int) then [S.getD i 0] else []) := by
 rw [take_getDG 0 S i h, sel, List.filter_append]
 congr 1
 simp only [List.filter_cons, List.filter_nil]
theorem tos_snoc (g : Gp) (P : List Int) (k : Int) : g.tos (P ++ [k]) = g.tos P ++ ints (g.F.getD k.toNat []) := by simp [tos]
theorem fins_snoc (g : Gp) (P : List Int) (k : Int) : g.fins (P ++ [k]) = (g.fins P || decide (k.toNat ∈ g.la)) := by simp [fins]
def lgs (g : Gp) (s : Ss) : Lg
 | [] => s.2 = true
 | c :: u => ∃ q : Nat, (q : Int) ∈ s.1 ∧ tyOf g.tys q = c ∧ (glOf 0 g.F g.fi g.la g.no).rd (tyOf g.tys) q u
structure Ok (g : Gp) : Prop where
 len : g.F.length = g.tys.length
 fi : ∀ p ∈ g.fi, p < g.tys.length
 la : ∀ p ∈ g.la, p < g.tys.length
 fol : ∀ p q, q ∈ g.F.getD p [] → q < g.tys.length
 ty : ∀ c ∈ g.tys, 0 ≤ c ∧ c < 8
def In (g : Gp) (s : Ss) : Prop := ∀ x ∈ s.1, 0 ≤ x ∧ x < g.tys.length
theorem stp_in (g : Gp) (h : g.Ok) (s : Ss) (c : Nat) : g.In (g.stp s c) := by
 intro x hx
 have hx := (norm_mem _ x).1 hx
 obtain ⟨k, _, hk⟩ := List.mem_flatMap.1 hx
 obtain ⟨n, hn, rfl⟩ := (ints_mem _ x).1 hk
 have := h.fol _ n hn
 omega
theorem start_in (g : Gp) (h : g.Ok) : g.In (norm (ints g.fi), g.no) := by
 intro x hx
 obtain ⟨n, hn, rfl⟩ := (ints_mem _ x).1 ((norm_mem _ x).1 hx)
 have := h.fi n hn
 omega
theorem lgs_start (g : Gp) : g.lgs (norm (ints g.fi), g.no) = (glOf 0 g.F g.fi g.la g.no).lg (tyOf g.tys) := Lg.ext fun w => by
 cases w with
 | nil => exact Iff.rfl
 | cons c u =>
  simp only [lgs, Gl.lg, norm_mem, ints_mem, glOf]
  constructor
  ·rintro ⟨q, ⟨n, hn, e⟩, h1, h2⟩
   obtain rfl : q = n := by omega
   exact ⟨q, hn, h1, h2⟩
  ·rintro ⟨q, hq, h1, h2⟩
   exact ⟨q, ⟨q, hq, rfl⟩, h1, h2⟩
theorem mem_sel (g : Gp) {s : Ss} (hs : g.In s) (c : Nat) (x : Int) : x ∈ g.sel s.1 c ↔ ∃ q : Nat, x = (q : Int) ∧ (q : Int) ∈ s.1 ∧ tyOf g.tys q = (c : Int) := by
 simp only [sel, List.mem_filter, beq_iff_eq]
 constructor
 ·rintro ⟨h1, h2⟩
  have := hs x h1
  exact ⟨x.toNat, by omega, by rw [Int.toNat_of_nonneg this.1]; exact h1, h2⟩
 ·rintro ⟨q, rfl, h1, h2⟩
  exact ⟨h1, h2⟩
theorem lgs_stp (g : Gp) (h : g.Ok) {s : Ss} (hs : g.In s) (c : Nat) (u : List Int) : g.lgs s ((c : Int) :: u) ↔ g.lgs (g.stp s c) u := by
 cases u with
 | nil =>
  show (∃ q : Nat, (q : Int) ∈ s.1 ∧ tyOf g.tys q = (c : Int) ∧ q ∈ g.la) ↔ g.fins (g.sel s.1 c) = true
  simp only [fins, List.any_eq_true, decide_eq_true_eq]
  constructor
  ·rintro ⟨q, h1, h2, h3⟩
   exact ⟨(q : Int), (g.mem_sel hs c _).2 ⟨q, rfl, h1, h2⟩, by rw [Int.toNat_natCast]; exact h3⟩
  ·rintro ⟨x, h1, h2⟩
   obtain ⟨q, rfl, h3, h4⟩ := (g.mem_sel hs c x).1 h1
   exact ⟨q, h3, h4, by rw [Int.toNat_natCast] at h2; exact h2⟩
 | cons d u =>
  show (∃ q : Nat, (q : Int) ∈ s.1 ∧ tyOf g.tys q = (c : Int) ∧ ∃ r, (0 ≤ q ∧ r ∈ g.F.getD q []) ∧ tyOf g.tys r = d ∧ _) ↔ ∃ r : Nat, (r : Int) ∈ norm (g.tos (g.sel s.1 c)) ∧ tyOf g.tys r = d ∧ _
  simp only [norm_mem, tos, List.mem_flatMap, ints_mem]
  constructor
  ·rintro ⟨q, h1, h2, r, ⟨_, h3⟩, h4, h5⟩
   exact ⟨r, ⟨(q : Int), (g.mem_sel hs c _).2 ⟨q, rfl, h1, h2⟩, r, by rw [Int.toNat_natCast]; exact h3, rfl⟩, h4, h5⟩
  ·rintro ⟨r, ⟨x, h1, n, h2, e⟩, h4, h5⟩
   obtain rfl : r = n := by omega
   obtain ⟨q, rfl, h6, h7⟩ := (g.mem_sel hs c x).1 h1
   exact ⟨q, h6, h7, r, ⟨Nat.zero_le _, by rw [Int.toNat_natCast] at h2; exact h2⟩, h4, h5⟩
theorem lgs_none (g : Gp) {s : Ss} (hs : g.In s) (c : Nat) (hn : g.sel s.1 c = []) (u : List Int) : ¬ g.lgs s ((c : Int) :: u) := by
 rintro ⟨q, h1, h2, _⟩
 have := (g.mem_sel hs c _).2 ⟨q, rfl, h1, h2⟩
 rw [hn] at this; cases this
theorem lgs_over (g : Gp) (h : g.Ok) {s : Ss} (hs : g.In s) {c : Int} (hc : ¬ (0 ≤ c ∧ c < 8)) (u : List Int) : ¬ g.lgs s (c :: u) := by
 rintro ⟨q, h1, h2, _⟩
 have hq := hs _ h1
 have : tyOf g.tys q ∈ g.tys := getD_memG 0 g.tys q (by omega)
 rw [h2] at this
 exact hc (h.ty c this)
end Gp
structure Sts (g : Gp) (SL : List Ss) (T : Nat → Nat → Int) (i c : Nat) : Prop where
 zero : SL.getD 0 ([], false) = (norm (Gp.ints g.fi), g.no) ∧ 0 < SL.length
 nodup : SL.Nodup
 inn : ∀ s ∈ SL, g.In s
 asc : ∀ s ∈ SL, s.1.Pairwise (· < ·)
 ent : ∀ k d, k < SL.length → d < 8 → (k < i ∨ (k = i ∧ d < c)) → (T k d = -1 ∧ g.sel (SL.getD k ([], false)).1 d = []) ∨ ∃ j : Nat, j < SL.length ∧ T k d = (j : Int) ∧ SL.getD j ([], false) = g.stp (SL.getD k ([], false)) d
 src : ∀ k, 0 < k → k < SL.length → ∃ s d, g.In s ∧ g.sel s.1 d ≠ [] ∧ SL.getD k ([], false) = g.stp s d
section sts
variable {g : Gp} {SL : List Ss} {T : Nat → Nat → Int} {i c : Nat}
theorem Sts.start (hg : g.Ok) (T : Nat → Nat → Int) : Sts g [(norm (Gp.ints g.fi), g.no)] T 0 0 :=
 ⟨⟨rfl, by simp⟩, by simp, fun s hs => by rw [List.mem_singleton.1 hs]; exact g.start_in hg, fun s hs => by rw [List.mem_singleton.1 hs]; exact (norm_all _).1, fun k d _ _ h => by omega, fun k h0 hk => by simp only [List.length_singleton] at hk; omega⟩
theorem Sts.row (h : Sts g SL T i 8) : Sts g SL T (i + 1) 0 := ⟨h.zero, h.nodup, h.inn, h.asc, fun k d hk hd hx => h.ent k d hk hd (by omega), h.src⟩
theorem Sts.setI (h : Sts g SL T i c) (x : Int) : Sts g SL (Au.setI T i c x) i c :=
 ⟨h.zero, h.nodup, h.inn, h.asc, fun k d hk hd hx => by rw [Au.setI_ne T i c x (by omega)]; exact h.ent k d hk hd hx, h.src⟩
theorem Sts.none (h : Sts g SL T i c) (hT : T i c = -1) (hn : g.sel (SL.getD i ([], false)).1 c = []) : Sts g SL T i (c + 1) := by
 refine ⟨h.zero, h.nodup, h.inn, h.asc, fun k d hk hd hx => ?_, h.src⟩
 by_cases h1 : k < i ∨ (k = i ∧ d < c)
 ·exact h.ent k d hk hd h1
 ·obtain ⟨rfl, rfl⟩ : k = i ∧ d = c := by omega
  exact .inl ⟨hT, hn⟩
theorem Sts.old (h : Sts g SL T i c) {j : Nat} (hT : T i c = (j : Int)) (hj : j < SL.length) (he : SL.getD j ([], false) = g.stp (SL.getD i ([], false)) c) : Sts g SL T i (c + 1) := by
 refine ⟨h.zero, h.nodup, h.inn, h.asc, fun k d hk hd hx => ?_, h.src⟩
 by_cases h1 : k < i ∨ (k = i ∧ d < c)
 ·exact h.ent k d hk hd h1
 ·obtain ⟨rfl, rfl⟩ : k = i ∧ d = c := by omega
  exact .inr ⟨j, hj, hT, he⟩
theorem Sts.new (hg : g.Ok) (h : Sts g SL T i c) (hi : i < SL.length) (hc : c < 8) (hT : T i c = (SL.length : Int)) (hs : g.sel (SL.getD i ([], false)).1 c ≠ []) (hn : g.stp (SL.getD i ([], false)) c ∉ SL) : Sts g (SL ++ [g.stp (SL.getD i ([], false)) c]) T i (c + 1) := by
 have hl : (SL ++ [g.stp (SL.getD i ([], false)) c]).length = SL.length + 1 := by simp
 have g1 : ∀ k, k < SL.length → (SL ++ [g.stp (SL.getD i ([], false)) c]).getD k ([], false) = SL.getD k ([], false) := fun k hk => getD_app _ _ _ hk
 have g2 : (SL ++ [g.stp (SL.getD i ([], false)) c]).getD SL.length ([], false) = g.stp (SL.getD i ([], false)) c := by
  rw [List.getD_eq_getElem?_getD, List.getElem?_append_right (Nat.le_refl _), Nat.sub_self]; rfl
 have hin := h.inn _ (getD_memG ([], false) SL i hi)
 refine ⟨⟨by rw [g1 0 h.zero.2]; exact h.zero.1, by omega⟩, ?_, ?_, ?_, ?_, ?_⟩
 ·exact List.nodup_append.2 ⟨h.nodup, by simp, fun a ha b hb e => hn (by rw [← List.mem_singleton.1 hb, ← e]; exact ha)⟩
 ·intro s hs
  rcases List.mem_append.1 hs with hs | hs
  ·exact h.inn s hs
  ·rw [List.mem_singleton.1 hs]; exact g.stp_in hg _ _
 ·intro s hs
  rcases List.mem_append.1 hs with hs | hs
  ·exact h.asc s hs
  ·rw [List.mem_singleton.1 hs]; exact (norm_all _).1
 ·intro k d hk hd hx
  by_cases h1 : k < i ∨ (k = i ∧ d < c)
  ·rw [g1 k (by omega)]
   rcases h.ent k d (by omega) hd h1 with h2 | ⟨j, h2, h3, h4⟩
   ·exact .inl h2
   ·exact .inr ⟨j, by omega, h3, by rw [g1 j h2]; exact h4⟩
  ·obtain ⟨rfl, rfl⟩ : k = i ∧ d = c := by omega
   exact .inr ⟨SL.length, by omega, hT, by rw [g2, g1 k hi]⟩
 ·intro k h0 hk
  rcases Nat.lt_or_ge k SL.length with h1 | h1
  ·rw [g1 k h1]; exact h.src k h0 h1
  ·obtain rfl : k = SL.length := by omega
   exact ⟨_, c, hin, hs, g2⟩
theorem Sts.len (h : Sts g SL T i c) : SL.length ≤ 2 ^ g.tys.length := by
 classical
 -- a set of places, not empty, for each state but the first
 have key : ∀ k, k < SL.length → ∃ X : Nat → Bool, (k = 0 → ∀ j, X j = false) ∧ (0 < k → (∃ j, j < g.tys.length ∧ X j = true) ∧ SL.getD k ([], false) = (norm (g.tos (((List.range g.tys.length).filter X).map fun n : Nat => (n : Int))), g.fins (((List.range g.tys.length).filter X).map fun n : Nat => (n : Int)))) := by
  intro k hk
  rcases Nat.eq_zero_or_pos k with h0 | h0
  ·exact ⟨fun _ => false, fun _ _ => rfl, fun h => by omega⟩
  ·obtain ⟨s, d, hs, hne, he⟩ := h.src k h0 hk
   refine ⟨fun j : Nat => decide ((j : Int) ∈ g.sel s.1 d), fun h => by omega, fun _ => ⟨?_, ?_⟩⟩
   ·obtain ⟨x, hx⟩ := List.exists_mem_of_ne_nil _ hne
    obtain ⟨q, rfl, h1, h2⟩ := (g.mem_sel hs d x).1 hx
    have := hs _ h1
    exact ⟨q, by omega, decide_eq_true hx⟩
   ·rw [he, Gp.stp]
    have hm : ∀ x : Int, x ∈ (((List.range g.tys.length).filter fun j : Nat => decide ((j : Int) ∈ g.sel s.1 d)).map fun n : Nat => (n : Int)) ↔ x ∈ g.sel s.1 d := fun x => by
     simp only [List.mem_map, List.mem_filter, List.mem_range, decide_eq_true_eq]
     constructor
     ·rintro ⟨q, ⟨_, h1⟩, rfl⟩; exact h1
     ·intro hx
      obtain ⟨q, rfl, h1, h2⟩ := (g.mem_sel hs d x).1 hx
      have := hs _ h1
      exact ⟨q, ⟨by omega, hx⟩, rfl⟩
    congr 1
    ·refine norm_ext fun x => ?_
     simp only [Gp.tos, List.mem_flatMap]
     exact ⟨fun ⟨k, h1, h2⟩ => ⟨k, (hm k).2 h1, h2⟩, fun ⟨k, h1, h2⟩ => ⟨k, (hm k).1 h1, h2⟩⟩
    ·refine Bool.eq_iff_iff.2 ?_
     simp only [Gp.fins, List.any_eq_true]
     exact ⟨fun ⟨k, h1, h2⟩ => ⟨k, (hm k).2 h1, h2⟩, fun ⟨k, h1, h2⟩ => ⟨k, (hm k).1 h1, h2⟩⟩
 let X : Nat → Nat → Bool := fun k => if hk : k < SL.length then Classical.choose (key k hk) else fun _ => false
 have hX : ∀ k, k < SL.length → (k = 0 → ∀ j, X k j = false) ∧ (0 < k → (∃ j, j < g.tys.length ∧ X k j = true) ∧ SL.getD k ([], false) = (norm (g.tos (((List.range g.tys.length).filter (X k)).map fun n : Nat => (n : Int))), g.fins (((List.range g.tys.length).filter (X k)).map fun n : Nat => (n : Int)))) := fun k hk => by
  have := Classical.choose_spec (key k hk)
  simp only [X, dif_pos hk]; exact this
 have hlen : ∀ k, ((List.range g.tys.length).map (X k)).length = g.tys.length := fun k => by simp
 refine pigeon (2 ^ g.tys.length) SL.length (fun k => bval ((List.range g.tys.length).map (X k))) (fun k hk => ?_) (fun a b ha hb e => ?_)
 ·have := bval_lt ((List.range g.tys.length).map (X k))
  rwa [hlen] at this
 ·have e := bval_inj _ _ (by rw [hlen, hlen]) e
  have e2 : ∀ j, j < g.tys.length → X a j = X b j := fun j hj => by
   have := congrArg (fun l => l[j]?) e
   simpa [hj] using this
  have hne : ∀ a b, a < SL.length → b < SL.length → (∀ j, j < g.tys.length → X a j = X b j) → a = 0 → 0 < b → False := fun a b ha hb e2 h0 h1 => by
   obtain ⟨⟨j, hj, hx⟩, _⟩ := (hX b hb).2 h1
   rw [← e2 j hj, (hX a ha).1 h0 j] at hx; cases hx
  rcases Nat.eq_zero_or_pos a with h0 | h0
  ·rcases Nat.eq_zero_or_pos b with h1 | h1
   ·omega
   ·exact (hne a b ha hb e2 h0 h1).elim
  ·rcases Nat.eq_zero_or_pos b with h1 | h1
   ·exact (hne b a hb ha (fun j hj => (e2 j hj).symm) h1 h0).elim
   ·have ea := ((hX a ha).2 h0).2
    have eb := ((hX b hb).2 h1).2
    have ef : (List.range g.tys.length).filter (X a) = (List.range g.tys.length).filter (X b) := List.filter_congr fun j hj => e2 j (List.mem_range.1 hj)
    rw [ef, ← eb] at ea
    rw [List.getD_eq_getElem?_getD, List.getD_eq_getElem?_getD, List.getElem?_eq_getElem ha, List.getElem?_eq_getElem hb] at ea
    exact (List.getElem_inj h.nodup).1 ea
theorem Sts.done (hg : g.Ok) (h : Sts g SL T SL.length 0) : (Au.auOf SL.length T (SL.map (·.2))).Shape ∧ ∀ u, (Au.auOf SL.length T (SL.map (·.2))).acc 0 u ↔ (glOf 0 g.F g.fi g.la g.no).lg (tyOf g.tys) u := by
 have hto := fun k c hk hc => Au.auOf_to SL.length T (SL.map (·.2)) k c hk hc
 have hshape : (Au.auOf SL.length T (SL.map (·.2))).Shape := by
  refine ⟨by rw [Au.auOf_len]; exact h.zero.2, by rw [Au.auOf_len]; show (SL.map (·.2)).length = _; rw [List.length_map], fun k hk => Au.auOf_row _ _ _ k (by rwa [Au.auOf_len] at hk), fun k hk d hd => ?_⟩
  rw [Au.auOf_len] at hk ⊢
  have h1 := hto k d hk hd
  simp only [Au.to, Int.toNat_natCast] at h1
  rw [h1]
  rcases h.ent k d hk hd (.inl hk) with ⟨h2, _⟩ | ⟨j, h2, h3, _⟩ <;> omega
 have key : ∀ (u : List Int) (k : Nat), k < SL.length → ((Au.auOf SL.length T (SL.map (·.2))).acc (k : Int) u ↔ g.lgs (SL.getD k ([], false)) u) := by
  intro u
  induction u with
  | nil =>
   intro k hk
   rw [Au.acc_nil, Au.fin, Int.toNat_natCast, decide_eq_true (show (0 : Int) ≤ (k : Int) by omega), Bool.true_and]
   show (SL.map (·.2)).getD k false = true ↔ (SL.getD k ([], false)).2 = true
   rw [List.getD_eq_getElem?_getD, List.getElem?_map, List.getD_eq_getElem?_getD, List.getElem?_eq_getElem hk]; rfl
  | cons c u ih =>
   intro k hk
   have hin := h.inn _ (getD_memG ([], false) SL k hk)
   by_cases hc : 0 ≤ c ∧ c < 8
   ·obtain ⟨c, rfl⟩ : ∃ j : Nat, c = (j : Int) := ⟨c.toNat, by omega⟩
    rw [Au.acc_step k c (by omega), hto k c hk (by omega)]
    rcases h.ent k c hk (by omega) (.inl hk) with ⟨h1, h2⟩ | ⟨j, h1, h2, h3⟩
    ·rw [h1]
     exact ⟨fun h => absurd h (Au.acc_neg (by decide) _), fun h' => absurd h' (g.lgs_none hin c h2 u)⟩
    ·rw [h2, ih j h1, h3, g.lgs_stp hg hin c u]
   ·refine ⟨fun h' => ?_, fun h' => absurd h' (g.lgs_over hg hin hc u)⟩
    simp only [Au.acc] at h'
    exact absurd ⟨h'.2.1, h'.2.2.1⟩ hc
 refine ⟨hshape, fun u => ?_⟩
 have h1 := key u 0 h.zero.2
 rw [h.zero.1, g.lgs_start] at h1
 exact h1
end sts
theorem Sts.sle {g : Gp} {SL : List Ss} {T : Nat → Nat → Int} {i c : Nat} (h : Sts g SL T i c) {s : Ss} (hs : s ∈ SL) : s.1.length ≤ g.tys.length := by
 have h1 := h.inn s hs
 have h2 := h.asc s hs
 refine pigeon g.tys.length s.1.length (fun k => (s.1.getD k 0).toNat) (fun k hk => by have := h1 _ (getD_memG 0 s.1 k hk); show (s.1.getD k 0).toNat < _; omega) (fun a b ha hb e => ?_)
 have ea := h1 _ (getD_memG 0 s.1 a ha)
 have eb := h1 _ (getD_memG 0 s.1 b hb)
 have e : (s.1.getD a 0).toNat = (s.1.getD b 0).toNat := e
 have e' : s.1.getD a 0 = s.1.getD b 0 := by omega
 rw [List.getD_eq_getElem?_getD, List.getD_eq_getElem?_getD, List.getElem?_eq_getElem ha, List.getElem?_eq_getElem hb] at e'
 simp only [Option.getD_some] at e'
 rcases Nat.lt_trichotomy a b with h3 | h3 | h3
 ·have := List.pairwise_iff_getElem.1 h2 a b ha hb h3; omega
 ·exact h3
 ·have := List.pairwise_iff_getElem.1 h2 b a hb ha h3; omega
theorem Gp.tos_len (g : Gp) {m : Nat} (hr : ∀ p, (g.F.getD p []).length ≤ m) : ∀ P : List Int, (g.tos P).length ≤ P.length * m
 | [] => by simp [Gp.tos]
 | k :: P => by
  have h1 := Gp.tos_len g hr P
  have h2 := hr k.toNat
  show ((Gp.ints (g.F.getD k.toNat [])) ++ g.tos P).length ≤ _
  rw [List.length_append, Gp.ints, List.length_map, List.length_cons, Nat.add_mul]; omega
theorem Gp.sel_len (g : Gp) (S : List Int) (c : Nat) : (g.sel S c).length ≤ S.length := List.length_filter_le _ _
theorem Pl.gp {tys : List Int} {F : Fol} {fi la : List Nat} {no : Bool} {A : Lg} (h : Pl [] [] tys F fi la no A) (hty : Tys [] tys) : (Gp.mk tys F fi la no).Ok ∧ (glOf 0 F fi la no).lg (tyOf tys) = A ∧ ∀ p, (F.getD p []).length ≤ tys.length := by
 refine ⟨⟨h.len, fun p hp => (h.inn.F p hp).2, fun p hp => (h.inn.L p hp).2, fun p q hq => (h.inn.E p q ⟨Nat.zero_le _, hq⟩).2.2, fun c hc => (hty c hc).resolve_left (by simp)⟩, h.lang, fun p => ?_⟩
 exact nodup_len (h.nodup p (Nat.zero_le _)) fun q hq => (h.inn.E p q ⟨Nat.zero_le _, hq⟩).2.2
theorem Au.rowV_splice (T : Nat → Nat → Int) (i c : Nat) (x : Int) (hc : c < 8) : splice (Au.rowV T i c) c [.int x] = Au.rowV (Au.setI T i c x) i (c + 1) := by
 rw [← Au.rowV_step T i c x hc]
 unfold Au.rowV
 rw [row8_splice _ c hc, row8_set _ c hc]
theorem Au.rowV_splice2 (T : Nat → Nat → Int) (i c : Nat) (y x : Int) (hc : c < 8) : splice (splice (Au.rowV T i c) c [.int y]) c [.int x] = Au.rowV (Au.setI T i c x) i (c + 1) := by
 rw [← Au.rowV_splice T i c x hc]
 unfold Au.rowV
 rw [row8_splice _ c hc, row8_splice _ c hc, row8_splice _ c hc]
 exact row8_congr fun d _ => by by_cases h : d = c <;> simp [h]
theorem rows_setI (T : Nat → Nat → Int) (i c : Nat) (x : Int) : ((List.range i).map fun k => r8av (Au.setI T i c x k)) = (List.range i).map fun k => r8av (T k) :=
 rows_congr i (T := Au.setI T i c x) (T' := T) fun k hk d _ => Au.setI_ne T i c x (by omega)
def keyS (s : Ss) : List UInt8 := keyL s.1 ++ fmtB s.2
theorem keyS_inj {s t : Ss} (hs : sml s.1) (ht : sml t.1) (h : keyS s = keyS t) : s = t := by
 obtain ⟨h1, h2⟩ := keyB_inj hs ht h
 exact Prod.ext h1 h2
theorem keyS_place {s : Ss} {SL : List Ss} (hs : sml s.1) (hL : ∀ t ∈ SL, sml t.1) : place (keyS s) (SL.map keyS) = place s SL := place_map fun t ht e => keyS_inj hs (hL t ht) e
theorem Gp.In.sml {g : Gp} {s : Ss} (h : g.In s) (hn : g.tys.length ≤ 100) : sml s.1 := fun x hx => by have := h x hx; omega
end Go.Vl
end
section
namespace Go.Proofs
open Go.Shelf
def Tryz.lays156_ren : Go.Shelf.Ren := ⟨fun | 156 => 101 | 165 => 120 | 166 => 106 | 169 => 108 | 240 => 125 | 241 => 132 | 276 => 145 | 277 => 148 | n => n, fun | 31 => 26 | 9 => 9 | 3 => 3 | 4 => 4 | 0 => 0 | 20 => 20 | 72 => 177 | 76 => 180 | 70 => 174 | 37 => 175 | 75 => 179 | 127 => 198 | 164 => 217 | 5 => 5 | 80 => 183 | n => n, fun | n => n⟩
theorem Tryz.lays156 : Go.Proofs.Lays.n156 Tryz.prog Tryz.lays156_ren := {
 mixed := by kernel_rfl
 f156 := Tryz.func101.trans (congrArg some (by kernel_rfl))
 f165 := Tryz.func120.trans (congrArg some (by kernel_rfl))
 f166 := Tryz.func106.trans (congrArg some (by kernel_rfl))
 f169 := Tryz.func108.trans (congrArg some (by kernel_rfl))
 f240 := Tryz.func125.trans (congrArg some (by kernel_rfl))
 f241 := Tryz.func132.trans (congrArg some (by kernel_rfl))
 f276 := Tryz.func145.trans (congrArg some (by kernel_rfl))
 f277 := Tryz.func148.trans (congrArg some (by kernel_rfl))
 t0 := Tryz.underlying0
 a0 := Tryz.isAgg0
 z0 := Tryz.sizeOf0
 v0 := Tryz.zeroValue0
 t3 := Tryz.underlying3
 a3 := Tryz.isAgg3
 z3 := Tryz.sizeOf3
 v3 := Tryz.zeroValue3
 t4 := Tryz.underlying4
 a4 := Tryz.isAgg4
 z4 := Tryz.sizeOf4
 v4 := Tryz.zeroValue4
 t9 := Tryz.underlying9
 a9 := Tryz.isAgg9
 z9 := Tryz.sizeOf9
 v9 := Tryz.zeroValue9
 t20 := Tryz.underlying20
 a20 := Tryz.isAgg20
 z20 := Tryz.sizeOf20
 v20 := Tryz.zeroValue20
 t31 := Tryz.underlying26
 a31 := Tryz.isAgg26
 z31 := Tryz.sizeOf26
 v31 := Tryz.zeroValue26
 t37 := Tryz.underlying175
 a37 := Tryz.isAgg175
 z37 := Tryz.sizeOf175
 v37 := Tryz.zeroValue175
 t70 := Tryz.underlying174
 a70 := Tryz.isAgg174
 z70 := Tryz.sizeOf174
 v70 := Tryz.zeroValue174
 t72 := Tryz.underlying177
 a72 := Tryz.isAgg177
 z72 := Tryz.sizeOf177
 v72 := Tryz.zeroValue177
 t75 := Tryz.underlying179
 a75 := Tryz.isAgg179
 z75 := Tryz.sizeOf179
 v75 := Tryz.zeroValue179
 t76 := Tryz.underlying180
 a76 := Tryz.isAgg180
 z76 := Tryz.sizeOf180
 v76 := Tryz.zeroValue180
 t127 := Tryz.underlying198
 a127 := Tryz.isAgg198
 z127 := Tryz.sizeOf198
 v127 := Tryz.zeroValue198
 t164 := Tryz.underlying217
 a164 := Tryz.isAgg217
 z164 := Tryz.sizeOf217
 v164 := Tryz.zeroValue217 }
theorem Tryz.Builder_Extra_156 : Builder.Extra Tryz.prog Tryz.lays156_ren := {
 sizeBuilder := by kernel_rfl
 liesBuilder := by kernel_rfl
 t5 := Tryz.underlying5
 a5 := Tryz.isAgg5
 z5 := Tryz.sizeOf5
 v5 := Tryz.zeroValue5
 infoByte := by kernel_rfl
 cellsByte := by kernel_rfl
 sizeByte := by kernel_rfl
 neB5 := by decide }
open Go.RowKit in
theorem Tryz.strings_Join_none (a : Option Addr) (c : Nat) (sep : ByteArray) (w : World) :
 Calls Tryz.prog 101 #[.slice a 0 c, .string sep] w fun e w' => e = .returned (.string ⟨#[]⟩) ∧ w' = w := Any.strings_Join_none Tryz.lays156 Tryz.Builder_Extra_156 a c sep w
open Go.RowKit in
theorem Tryz.strings_Join (bk o c : Nat) (xs : List ByteArray) (sep : ByteArray) (w : World) (hcells : ∀ (j : Nat) x, xs[j]? = some x → w.cell? ⟨bk, o + j, none⟩ = some (.string x)) (hbk : bk < w.heap.size) (hN : xs.length ≤ 140737488355328) (hcap : xs.length ≤ c) (hlen : (Lib.join (xs.map (·.data.toList)) sep.data.toList).length ≤ 140737488355328) :
 Calls Tryz.prog 101 #[.slice (some ⟨bk, o, none⟩) xs.length c, .string sep] w fun e w' => e = .returned (.string ⟨(Lib.join (xs.map (·.data.toList)) sep.data.toList).toArray⟩) ∧ Below w.heap.size w w' := Any.strings_Join Tryz.lays156 Tryz.Builder_Extra_156 bk o c xs sep w hcells hbk hN hcap hlen
def Tryz.laysM171_ren : Go.Shelf.Ren := ⟨fun | 171 => 107 | 243 => 126 | 246 => 146 | 283 => 155 | 284 => 156 | 285 => 157 | 286 => 158 | 129 => 144 | 317 => 160 | 318 => 161 | 319 => 162 | 320 => 163 | 337 => 164 | 338 => 165 | n => n, fun | 3 => 3 | 9 => 9 | 2 => 2 | 4 => 4 | 171 => 227 | 0 => 0 | 53 => 203 | 37 => 175 | 5 => 5 | 173 => 229 | 212 => 234 | 51 => 200 | 20 => 20 | 213 => 235 | 46 => 185 | 232 => 236 | 233 => 237 | n => n, fun | 17 => 1 | 18 => 2 | 19 => 3 | n => n⟩
theorem Tryz.laysM171 : Go.Proofs.LaysM.n171 Tryz.prog Tryz.laysM171_ren := {
 mixed := by kernel_rfl
 f129 := Tryz.func144.trans (congrArg some (by kernel_rfl))
 f171 := Tryz.func107.trans (congrArg some (by kernel_rfl))
 f243 := Tryz.func126.trans (congrArg some (by kernel_rfl))
 f246 := Tryz.func146.trans (congrArg some (by kernel_rfl))
 f283 := Tryz.func155.trans (congrArg some (by kernel_rfl))
 f284 := Tryz.func156.trans (congrArg some (by kernel_rfl))
 f285 := Tryz.func157.trans (congrArg some (by kernel_rfl))
 f286 := Tryz.func158.trans (congrArg some (by kernel_rfl))
 f317 := Tryz.func160.trans (congrArg some (by kernel_rfl))
 f318 := Tryz.func161.trans (congrArg some (by kernel_rfl))
 f319 := Tryz.func162.trans (congrArg some (by kernel_rfl))
 f320 := Tryz.func163.trans (congrArg some (by kernel_rfl))
 f337 := Tryz.func164.trans (congrArg some (by kernel_rfl))
 f338 := Tryz.func165.trans (congrArg some (by kernel_rfl))
 t0 := Tryz.underlying0
 a0 := Tryz.isAgg0
 z0 := Tryz.sizeOf0
 v0 := Tryz.zeroValue0
 t2 := Tryz.underlying2
 a2 := Tryz.isAgg2
 z2 := Tryz.sizeOf2
 v2 := Tryz.zeroValue2
 t3 := Tryz.underlying3
 a3 := Tryz.isAgg3
 z3 := Tryz.sizeOf3
 v3 := Tryz.zeroValue3
 t4 := Tryz.underlying4
 a4 := Tryz.isAgg4
 z4 := Tryz.sizeOf4
 v4 := Tryz.zeroValue4
 t5 := Tryz.underlying5
 a5 := Tryz.isAgg5
 z5 := Tryz.sizeOf5
 v5 := Tryz.zeroValue5
 t9 := Tryz.underlying9
 a9 := Tryz.isAgg9
 z9 := Tryz.sizeOf9
 v9 := Tryz.zeroValue9
 t20 := Tryz.underlying20
 a20 := Tryz.isAgg20
 z20 := Tryz.sizeOf20
 v20 := Tryz.zeroValue20
 t37 := Tryz.underlying175
 a37 := Tryz.isAgg175
 z37 := Tryz.sizeOf175
 v37 := Tryz.zeroValue175
 t46 := Tryz.underlying185
 a46 := Tryz.isAgg185
 z46 := Tryz.sizeOf185
 v46 := Tryz.zeroValue185
 t51 := Tryz.underlying200
 a51 := Tryz.isAgg200
 z51 := Tryz.sizeOf200
 v51 := Tryz.zeroValue200
 t53 := Tryz.underlying203
 a53 := Tryz.isAgg203
 z53 := Tryz.sizeOf203
 v53 := Tryz.zeroValue203
 t171 := Tryz.underlying227
 a171 := Tryz.isAgg227
 z171 := Tryz.sizeOf227
 v171 := Tryz.zeroValue227
 t173 := Tryz.underlying229
 a173 := Tryz.isAgg229
 z173 := Tryz.sizeOf229
 v173 := Tryz.zeroValue229
 t212 := Tryz.underlying234
 a212 := Tryz.isAgg234
 z212 := Tryz.sizeOf234
 v212 := Tryz.zeroValue234
 t213 := Tryz.underlying235
 a213 := Tryz.isAgg235
 z213 := Tryz.sizeOf235
 t232 := Tryz.underlying236
 a232 := Tryz.isAgg236
 z232 := Tryz.sizeOf236
 v232 := Tryz.zeroValue236
 t233 := Tryz.underlying237
 a233 := Tryz.isAgg237
 z233 := Tryz.sizeOf237
 v233 := Tryz.zeroValue237
 g17 := by kernel_rfl
 g18 := by kernel_rfl
 g19 := by kernel_rfl
 i0 := by kernel_rfl
 i2 := by kernel_rfl
 i3 := by kernel_rfl
 i4 := by kernel_rfl
 i5 := by kernel_rfl
 i9 := by kernel_rfl
 i20 := by kernel_rfl
 i37 := by kernel_rfl
 i46 := by kernel_rfl
 i51 := by kernel_rfl
 i53 := by kernel_rfl
 i171 := by kernel_rfl
 i173 := by kernel_rfl
 i212 := by kernel_rfl
 i232 := by kernel_rfl
 i233 := by kernel_rfl
 m17 := by kernel_rfl
 m18 := by kernel_rfl
 m19 := by kernel_rfl }
open Go.RowKit Go.Sort Go.Lib in
theorem Tryz.strconv_Itoa (n : Int) (h0 : -9223372036854775808 ≤ n) (h1 : n ≤ 9223372036854775807) (w : World) (htab : Lib.TabIs Tryz.prog w "internal/strconv.uint64pow10" .u64 Lib.pow10Tab) :
 Calls Tryz.prog 107 #[.int .i64 n] w fun e w' => e = .returned (.string ⟨(Lib.itoa n).toArray⟩) ∧ ∃ k os, w' = grow (w.drewN k) os := Any.strconv_Itoa Tryz.laysM171 n h0 h1 w htab
def Tryz.lays171_ren : Go.Shelf.Ren := ⟨fun | 171 => 107 | 243 => 126 | 246 => 146 | 283 => 155 | 284 => 156 | 285 => 157 | 286 => 158 | 129 => 144 | 317 => 160 | 318 => 161 | 319 => 162 | 320 => 163 | 337 => 164 | 338 => 165 | n => n, fun | 3 => 3 | 9 => 9 | 2 => 2 | 4 => 4 | 171 => 227 | 0 => 0 | 53 => 203 | 37 => 175 | 5 => 5 | 173 => 229 | 212 => 234 | 51 => 200 | 20 => 20 | 213 => 235 | 46 => 185 | 232 => 236 | 233 => 237 | n => n, fun | 17 => 1 | 18 => 2 | 19 => 3 | n => n⟩
theorem Tryz.lays171 : Go.Proofs.Lays.n171 Tryz.prog Tryz.lays171_ren := {
 mixed := by kernel_rfl
 f129 := Tryz.func144.trans (congrArg some (by kernel_rfl))
 f171 := Tryz.func107.trans (congrArg some (by kernel_rfl))
 f243 := Tryz.func126.trans (congrArg some (by kernel_rfl))
 f246 := Tryz.func146.trans (congrArg some (by kernel_rfl))
 f283 := Tryz.func155.trans (congrArg some (by kernel_rfl))
 f284 := Tryz.func156.trans (congrArg some (by kernel_rfl))
 f285 := Tryz.func157.trans (congrArg some (by kernel_rfl))
 f286 := Tryz.func158.trans (congrArg some (by kernel_rfl))
 f317 := Tryz.func160.trans (congrArg some (by kernel_rfl))
 f318 := Tryz.func161.trans (congrArg some (by kernel_rfl))
 f319 := Tryz.func162.trans (congrArg some (by kernel_rfl))
 f320 := Tryz.func163.trans (congrArg some (by kernel_rfl))
 f337 := Tryz.func164.trans (congrArg some (by kernel_rfl))
 f338 := Tryz.func165.trans (congrArg some (by kernel_rfl))
 t0 := Tryz.underlying0
 a0 := Tryz.isAgg0
 z0 := Tryz.sizeOf0
 v0 := Tryz.zeroValue0
 t2 := Tryz.underlying2
 a2 := Tryz.isAgg2
 z2 := Tryz.sizeOf2
 v2 := Tryz.zeroValue2
 t3 := Tryz.underlying3
 a3 := Tryz.isAgg3
 z3 := Tryz.sizeOf3
 v3 := Tryz.zeroValue3
 t4 := Tryz.underlying4
 a4 := Tryz.isAgg4
 z4 := Tryz.sizeOf4
 v4 := Tryz.zeroValue4
 t5 := Tryz.underlying5
 a5 := Tryz.isAgg5
 z5 := Tryz.sizeOf5
 v5 := Tryz.zeroValue5
 t9 := Tryz.underlying9
 a9 := Tryz.isAgg9
 z9 := Tryz.sizeOf9
 v9 := Tryz.zeroValue9
 t20 := Tryz.underlying20
 a20 := Tryz.isAgg20
 z20 := Tryz.sizeOf20
 v20 := Tryz.zeroValue20
 t37 := Tryz.underlying175
 a37 := Tryz.isAgg175
 z37 := Tryz.sizeOf175
 v37 := Tryz.zeroValue175
 t46 := Tryz.underlying185
 a46 := Tryz.isAgg185
 z46 := Tryz.sizeOf185
 v46 := Tryz.zeroValue185
 t51 := Tryz.underlying200
 a51 := Tryz.isAgg200
 z51 := Tryz.sizeOf200
 v51 := Tryz.zeroValue200
 t53 := Tryz.underlying203
 a53 := Tryz.isAgg203
 z53 := Tryz.sizeOf203
 v53 := Tryz.zeroValue203
 t171 := Tryz.underlying227
 a171 := Tryz.isAgg227
 z171 := Tryz.sizeOf227
 v171 := Tryz.zeroValue227
 t173 := Tryz.underlying229
 a173 := Tryz.isAgg229
 z173 := Tryz.sizeOf229
 v173 := Tryz.zeroValue229
 t212 := Tryz.underlying234
 a212 := Tryz.isAgg234
 z212 := Tryz.sizeOf234
 v212 := Tryz.zeroValue234
 t213 := Tryz.underlying235
 a213 := Tryz.isAgg235
 z213 := Tryz.sizeOf235
 t232 := Tryz.underlying236
 a232 := Tryz.isAgg236
 z232 := Tryz.sizeOf236
 v232 := Tryz.zeroValue236
 t233 := Tryz.underlying237
 a233 := Tryz.isAgg237
 z233 := Tryz.sizeOf237
 v233 := Tryz.zeroValue237
 g17 := by kernel_rfl
 g18 := by kernel_rfl
 g19 := by kernel_rfl }
open Go.RowKit Go.Sort Go.Lib in
theorem Tryz.strconv_Itoa_small (i : Nat) (hi : i < 100) (w : World) :
 Calls Tryz.prog 107 #[.int .i64 i] w fun e w' => e = .returned (.string ⟨(Lib.decDigits i).toArray⟩) ∧ w' = w := Any.strconv_Itoa_small Tryz.lays171 i hi w
def Tryz.lays189_ren : Go.Shelf.Ren := ⟨fun | 189 => 104 | 125 => 124 | 257 => 123 | 128 => 143 | 129 => 144 | 294 => 134 | 295 => 135 | 296 => 136 | 297 => 137 | 298 => 138 | 299 => 139 | 216 => 140 | 300 => 141 | 301 => 142 | 328 => 149 | 329 => 150 | 330 => 151 | 331 => 152 | 332 => 153 | 215 => 154 | 343 => 159 | n => n, fun | 28 => 22 | 3 => 3 | 46 => 185 | 0 => 0 | 51 => 200 | 53 => 203 | 4 => 4 | 183 => 210 | 182 => 209 | 131 => 145 | 5 => 5 | 9 => 9 | 218 => 221 | 222 => 225 | 228 => 231 | 229 => 49 | n => n, fun | n => n⟩
theorem Tryz.lays189 : Go.Proofs.Lays.n189 Tryz.prog Tryz.lays189_ren := {
 mixed := by kernel_rfl
 f125 := Tryz.func124.trans (congrArg some (by kernel_rfl))
 f128 := Tryz.func143.trans (congrArg some (by kernel_rfl))
 f129 := Tryz.func144.trans (congrArg some (by kernel_rfl))
 f189 := Tryz.func104.trans (congrArg some (by kernel_rfl))
 f215 := Tryz.func154.trans (congrArg some (by kernel_rfl))
 f216 := Tryz.func140.trans (congrArg some (by kernel_rfl))
 f257 := Tryz.func123.trans (congrArg some (by kernel_rfl))
 f294 := Tryz.func134.trans (congrArg some (by kernel_rfl))
 f295 := Tryz.func135.trans (congrArg some (by kernel_rfl))
 f296 := Tryz.func136.trans (congrArg some (by kernel_rfl))
 f297 := Tryz.func137.trans (congrArg some (by kernel_rfl))
 f298 := Tryz.func138.trans (congrArg some (by kernel_rfl))
 f299 := Tryz.func139.trans (congrArg some (by kernel_rfl))
 f300 := Tryz.func141.trans (congrArg some (by kernel_rfl))
 f301 := Tryz.func142.trans (congrArg some (by kernel_rfl))
 f328 := Tryz.func149.trans (congrArg some (by kernel_rfl))
 f329 := Tryz.func150.trans (congrArg some (by kernel_rfl))
 f330 := Tryz.func151.trans (congrArg some (by kernel_rfl))
 f331 := Tryz.func152.trans (congrArg some (by kernel_rfl))
 f332 := Tryz.func153.trans (congrArg some (by kernel_rfl))
 f343 := Tryz.func159.trans (congrArg some (by kernel_rfl))
 t0 := Tryz.underlying0
 a0 := Tryz.isAgg0
 z0 := Tryz.sizeOf0
 v0 := Tryz.zeroValue0
 t3 := Tryz.underlying3
 a3 := Tryz.isAgg3
 z3 := Tryz.sizeOf3
 v3 := Tryz.zeroValue3
 t4 := Tryz.underlying4
 a4 := Tryz.isAgg4
 z4 := Tryz.sizeOf4
 v4 := Tryz.zeroValue4
 t5 := Tryz.underlying5
 a5 := Tryz.isAgg5
 z5 := Tryz.sizeOf5
 v5 := Tryz.zeroValue5
 t9 := Tryz.underlying9
 a9 := Tryz.isAgg9
 z9 := Tryz.sizeOf9
 v9 := Tryz.zeroValue9
 t28 := Tryz.underlying22
 a28 := Tryz.isAgg22
 z28 := Tryz.sizeOf22
 v28 := Tryz.zeroValue22
 t46 := Tryz.underlying185
 a46 := Tryz.isAgg185
 z46 := Tryz.sizeOf185
 v46 := Tryz.zeroValue185
 t51 := Tryz.underlying200
 a51 := Tryz.isAgg200
 z51 := Tryz.sizeOf200
 v51 := Tryz.zeroValue200
 t53 := Tryz.underlying203
 a53 := Tryz.isAgg203
 z53 := Tryz.sizeOf203
 v53 := Tryz.zeroValue203
 t131 := Tryz.underlying145
 a131 := Tryz.isAgg145
 z131 := Tryz.sizeOf145
 v131 := Tryz.zeroValue145
 t182 := Tryz.underlying209
 a182 := Tryz.isAgg209
 z182 := Tryz.sizeOf209
 v182 := Tryz.zeroValue209
 t183 := Tryz.underlying210
 a183 := Tryz.isAgg210
 z183 := Tryz.sizeOf210
 v183 := Tryz.zeroValue210
 t218 := Tryz.underlying221
 a218 := Tryz.isAgg221
 z218 := Tryz.sizeOf221
 v218 := Tryz.zeroValue221
 t222 := Tryz.underlying225
 a222 := Tryz.isAgg225
 z222 := Tryz.sizeOf225
 v222 := Tryz.zeroValue225
 t228 := Tryz.underlying231
 a228 := Tryz.isAgg231
 z228 := Tryz.sizeOf231
 v228 := Tryz.zeroValue231
 t229 := Tryz.underlying49
 a229 := Tryz.isAgg49
 z229 := Tryz.sizeOf49
 v229 := Tryz.zeroValue49 }
open Go.Sort Go.RowKit in
theorem Tryz.slices_Sort_int (blk off cap : Nat) (zs : List Int) (w : World) (hH : Holds (Value.int .i64) w blk off zs.toArray) (hblk : blk < w.heap.size) (hsz : zs.length < 4611686018427387904) :
 Calls Tryz.prog 104 #[.slice (some ⟨blk, off, none⟩) zs.length cap] w fun e w' =>
  e = .returned (.tuple #[]) ∧ ∃ n os, w' = grow (putRow (Value.int .i64) (Sort.ahead w n) blk off (zs.mergeSort fun x y => decide (x ≤ y)).toArray) os := Any.slices_Sort_int Tryz.lays189 blk off cap zs w hH hblk hsz
def Tryz.lays212_ren : Go.Shelf.Ren := ⟨fun | 212 => 111 | 263 => 128 | 264 => 129 | n => n, fun | 46 => 185 | 51 => 200 | 146 => 201 | 53 => 203 | 148 => 204 | n => n, fun | n => n⟩
theorem Tryz.lays212 : Go.Proofs.Lays.n212 Tryz.prog Tryz.lays212_ren := {
 mixed := by kernel_rfl
 f212 := Tryz.func111.trans (congrArg some (by kernel_rfl))
 f263 := Tryz.func128.trans (congrArg some (by kernel_rfl))
 f264 := Tryz.func129.trans (congrArg some (by kernel_rfl))
 t46 := Tryz.underlying185
 a46 := Tryz.isAgg185
 z46 := Tryz.sizeOf185
 v46 := Tryz.zeroValue185
 t51 := Tryz.underlying200
 a51 := Tryz.isAgg200
 z51 := Tryz.sizeOf200
 v51 := Tryz.zeroValue200
 t53 := Tryz.underlying203
 a53 := Tryz.isAgg203
 z53 := Tryz.sizeOf203
 v53 := Tryz.zeroValue203
 t146 := Tryz.underlying201
 a146 := Tryz.isAgg201
 z146 := Tryz.sizeOf201
 v146 := Tryz.zeroValue201
 t148 := Tryz.underlying204
 a148 := Tryz.isAgg204
 z148 := Tryz.sizeOf204
 v148 := Tryz.zeroValue204 }
open Go.RowKit Go.Lib in
theorem Tryz.bits_Mul (x y : Nat) (hx : x < 18446744073709551616) (hy : y < 18446744073709551616) (w : World) :
 Calls Tryz.prog 111 #[.int .u64 x, .int .u64 y] w fun e w' => e = .returned (.tuple #[.int .u64 ((x * y / 18446744073709551616 : Nat) : Int), .int .u64 ((x * y % 18446744073709551616 : Nat) : Int)]) ∧ w' = w := Any.bits_Mul Tryz.lays212 x y hx hy w
def Tryz.laysNm220_ren : Go.Shelf.Ren := ⟨fun | 20 => 71 | n => n, fun | 22 => 22 | 3 => 3 | 4 => 4 | 0 => 0 | n => n, fun | n => n⟩
theorem Tryz.laysNm220 : Go.Proofs.Lays2.n20 Tryz.prog Tryz.laysNm220_ren := {
 mixed := by kernel_rfl
 f20 := Tryz.func71.trans (congrArg some (by kernel_rfl))
 t0 := Tryz.underlying0
 a0 := Tryz.isAgg0
 z0 := Tryz.sizeOf0
 v0 := Tryz.zeroValue0
 t3 := Tryz.underlying3
 a3 := Tryz.isAgg3
 z3 := Tryz.sizeOf3
 v3 := Tryz.zeroValue3
 t4 := Tryz.underlying4
 a4 := Tryz.isAgg4
 z4 := Tryz.sizeOf4
 v4 := Tryz.zeroValue4
 t22 := Tryz.underlying22
 a22 := Tryz.isAgg22
 z22 := Tryz.sizeOf22
 v22 := Tryz.zeroValue22
 i3 := by kernel_rfl }
open Go.RowKit Go.Lib Go.Sort in
theorem Tryz.slices_Compact_int (blk off cap : Nat) (zs : List Int) (w : World) (hH : Holds (Value.int .i64) w blk off zs.toArray) (hsz : zs.length ≤ 9223372036854775807) (hcap : zs.length ≤ cap) :
 Calls Tryz.prog 71 #[.slice (some ⟨blk, off, none⟩) zs.length cap] w fun e w' => e = .returned (.slice (some ⟨blk, off, none⟩) (Lib.compact zs).length cap) ∧ ∃ q, w' = putRow (Value.int .i64) (Sort.ahead w q) blk off (Lib.compact zs ++ List.replicate (zs.length - (Lib.compact zs).length) 0).toArray := Any.slices_Compact_int Tryz.laysNm220 blk off cap zs w hH hsz hcap
open Go.RowKit Go.Lib Go.Sort in
theorem Tryz.slices_Compact_int_empty (a : Option Addr) (cap : Nat) (w : World) :
 Calls Tryz.prog 71 #[.slice a 0 cap] w fun e w' => e = .returned (.slice a 0 cap) ∧ w' = w := Any.slices_Compact_int_empty Tryz.laysNm220 a cap w
open Go.RowKit Go.Sort in
theorem Tryz.slices_Sort_int_none (p : Option Addr) (cap : Nat) (w : World) :
 Calls Tryz.prog 104 #[.slice p 0 cap] w fun e w' => e = .returned (.tuple #[]) ∧ w' = w := Any.slices_Sort_int_none Tryz.lays189 p cap w
end Go.Proofs
end
section
namespace Go.Proofs.YtphlkdbglpcikaaGreatDoor.WSeq
open Go.RowKit Go.Shelf Go.Sort
attribute [local go_sem] Oper.semAt_some
def upto {α : Type} (f : Nat → α) (k : Nat) : List α := (List.range k).map f
theorem upto_succ {α : Type} (f : Nat → α) (k : Nat) : upto f (k + 1) = upto f k ++ [f k] := by simp [upto, List.range_succ]
theorem upto_length {α : Type} (f : Nat → α) (k : Nat) : (upto f k).length = k := by simp [upto]
theorem upto_all (zs : List Int) : upto (fun j => zs[j]?.getD 0) zs.length = zs := by
 apply List.ext_getElem
 ·simp [upto]
 ·intro i h1 h2
  simp [upto, h2]
theorem upto_take (zs : List Int) {k : Nat} (hk : k ≤ zs.length) : upto (fun j => zs[j]?.getD 0) k = zs.take k := by
 apply List.ext_getElem
 ·simp [upto, hk]
 ·intro i h1 h2
  have : i < zs.length := by simp [upto] at h1; omega
  simp [upto, this]
set_option maxRecDepth 100000 in
set_option maxHeartbeats 2000000 in
theorem values1_in (F : Fence) (n : Nat) (h7 : F.fn 105) (hro : F.round = none) (hn : 1 ≤ n) (l Bs n₀ b off len cap : Nat) (zs : List Int) (hreach : len * 8 ≤ 140737488351232) (hb : b < n₀) (J Jx : List Int → World → Prop)
 (hY : ∀ pre x W, J pre W → pre.length < len → YieldAt F (n - 1) Tryz.prog l #[.int .i64 x] W fun e W' =>
  (e = .returned (.bool true) ∧ J (pre ++ [x]) W' ∧ Below n₀ W W') ∨ (e = .returned (.bool false) ∧ Jx (pre ++ [x]) W'))
 (W : World) (hBs : W.cell? ⟨Bs, 0, none⟩ = some (.slice (some ⟨b, off, none⟩) len cap)) (hc : ∀ j, j < len → W.cell? ⟨b, off + j, none⟩ = some (.int .i64 (zs[j]?.getD 0))) (h0 : J [] W) :
 CallsIn F n Tryz.prog 105 #[.func (.yield l) #[] #[], .pointer (some ⟨Bs, 0, none⟩)] W fun e W' => (∃ v, e = .returned v) ∧
  ((∃ ys, ys = upto (fun j => zs[j]?.getD 0) len ∧ J ys W') ∨ (∃ pre, (∃ k, k ≤ len ∧ pre = upto (fun j => zs[j]?.getD 0) k) ∧ Jx pre W')) := by
 refine callsIn_of_wp Tryz.func105 rfl h7 ?_ hro
 simp only [Tryz.ntmps105, List.size_toArray, List.length_cons, List.length_nil, Nat.reduceAdd, Nat.reduceSub, Array.replicate_succ, Array.replicate_zero, List.push_toArray, List.append_toArray, List.nil_append, List.cons_append]
 gi_wp2
 gi_loopw [7] (fun i wr => ∃ k : Nat, k ≤ len ∧ i = .int .i64 k ∧ J (upto (fun j => zs[j]?.getD 0) k) wr ∧ Below n₀ W wr)
  (fun i _ => len - (intOf i).toNat)
 case atStart => exact ⟨0, Nat.zero_le _, rfl, h0, Below.refl _ _⟩
 case round =>
  obtain ⟨k, hk, rfl, hJs, hnx⟩ := hrel
  have hcx : k < len → wr.cell? ⟨b, off + k, none⟩ = some (.int .i64 (zs[k]?.getD 0)) := fun h => (hnx.cell (p := ⟨b, off + k, none⟩) hb).trans (hc k h)
  by_cases hlt : k < len
  ·obtain ⟨fn, tmps, assign, body, hy, hR⟩ := hY _ (zs[k]?.getD 0) wr hJs (by rw [upto_length]; exact hlt)
   have hcx' := hcx hlt
   gi_wp2
   refine hR.mono ?_
   rintro e W3 (⟨rfl, hJ3, hk3⟩ | ⟨rfl, hJx3⟩)
   ·gi_wp2
    go_roundw
    case rel => exact ⟨k + 1, by omega, by simp, by rw [upto_succ]; exact hJ3, hnx.trans hk3⟩
    case measure => simp [intOf]; omega
   ·gi_wp2
    refine bodyPost_ret (results_none rfl _ _ _) rfl ?_
    exact ⟨⟨_, rfl⟩, .inr ⟨_, ⟨k + 1, by omega, (upto_succ _ _).symm⟩, hJx3⟩⟩
  ·obtain rfl : k = len := by omega
   gi_wp2
   go_end0
   exact ⟨⟨_, rfl⟩, .inl ⟨_, rfl, hJs⟩⟩
def Ints (n₀ : Nat) (W : World) (sv : Value) (zs : List Int) : Prop :=
 (∃ a cap, sv = .slice a 0 cap ∧ zs = []) ∨ ∃ b off cap, sv = .slice (some ⟨b, off, none⟩) zs.length cap ∧ b < n₀ ∧ ∀ j, j < zs.length → W.cell? ⟨b, off + j, none⟩ = some (.int .i64 (zs[j]?.getD 0))
theorem Ints.below {n₀ : Nat} {A B : World} (h : Below n₀ A B) {sv : Value} {zs : List Int} : Ints n₀ A sv zs → Ints n₀ B sv zs
 | .inl e => .inl e
 | .inr ⟨b, off, cap, e, hb, hc⟩ => .inr ⟨b, off, cap, e, hb, fun j hj => (h.cell (p := ⟨b, off + j, none⟩) hb).trans (hc j hj)⟩
set_option maxRecDepth 100000 in
set_option maxHeartbeats 1000000 in
theorem values1_nil_in (F : Fence) (n : Nat) (h7 : F.fn 105) (hro : F.round = none) (l Bs : Nat) (a : Option Addr) (cap : Nat) (J : List Int → World → Prop) (W : World) (hBs : W.cell? ⟨Bs, 0, none⟩ = some (.slice a 0 cap)) (h0 : J [] W) :
 CallsIn F n Tryz.prog 105 #[.func (.yield l) #[] #[], .pointer (some ⟨Bs, 0, none⟩)] W fun e W' => (∃ v, e = .returned v) ∧ J [] W' := by
 refine callsIn_of_wp Tryz.func105 rfl h7 ?_ hro
 simp only [Tryz.ntmps105, List.size_toArray, List.length_cons, List.length_nil, Nat.reduceAdd, Nat.reduceSub, Array.replicate_succ, Array.replicate_zero, List.push_toArray, List.append_toArray, List.nil_append, List.cons_append]
 gi_wp2
 gi_loopw [7] (fun i wr => i = .int .i64 0 ∧ J [] wr) (fun _ _ => 0)
 case atStart => exact ⟨rfl, h0⟩
 case round =>
  obtain ⟨rfl, hJs⟩ := hrel
  gi_wp2
  go_end0
  exact ⟨⟨_, rfl⟩, hJs⟩
theorem values_stops (F : Fence) (n : Nat) (h7 : F.fn 105) (hro : F.round = none) (hn : 1 ≤ n) (Bs n₀ : Nat) (sv : Value) (zs : List Int) (hreach : zs.length * 8 ≤ 140737488351232) (w : World) (hBs : Bs < w.heap.size) (hn₀ : n₀ ≤ w.heap.size)
 (hc : w.cell? ⟨Bs, 0, none⟩ = some sv) (hI : Ints n₀ w sv zs) :
 SeqStopsK F n Tryz.prog 105 #[.pointer (some ⟨Bs, 0, none⟩)] (fun x : Int => #[Value.int .i64 x]) (Below n₀) (fun ys => ys = zs) (fun pre => pre <+: zs) zs.length w := fun l J Jx W hW _ _ hY h0 => by
 have hc' := (hW.cell (p := ⟨Bs, 0, none⟩) hBs).trans hc
 rcases hI.below (hW.mono hn₀) with ⟨a, cap, rfl, rfl⟩ | ⟨b, off, cap, rfl, hb, hcs⟩
 ·exact (values1_nil_in F n h7 hro l Bs a cap J W hc' h0).mono fun e W' ⟨he, hj⟩ => ⟨he, .inl ⟨_, rfl, hj⟩⟩
 ·refine (values1_in F n h7 hro hn l Bs n₀ b off zs.length cap zs hreach hb J Jx hY W hc' hcs h0).mono ?_
  rintro e W' ⟨he, ⟨ys, rfl, hj⟩ | ⟨pre, ⟨k, hk, rfl⟩, hj⟩⟩
  ·exact ⟨he, .inl ⟨_, upto_all zs, hj⟩⟩
  ·exact ⟨he, .inr ⟨_, by rw [upto_take zs hk]; exact List.take_prefix _ _, hj⟩⟩
theorem infoI : (Tryz.prog.info? 3).map (fun i => (i.zero, i.size, i.bytes)) = some (some (.int .i64 0), 1, 8) := by kernel_rfl
set_option maxRecDepth 100000 in
set_option maxHeartbeats 2000000 in
theorem appendSeq_in (F : Fence) (n : Nat) (h3 : F.fn 122) (h5 : F.fn 105) (hro : F.round = none) (hn : 3 ≤ n) (Bc : Nat) (sv : Value) (zs : List Int) (hlen : zs.length ≤ maxLen) (hbytes : zs.length * 8 ≤ 140737488351232) (w : World) (hBc : w.cell? ⟨Bc, 0, none⟩ = some sv) (hBl : Bc < w.heap.size) (hI : Ints w.heap.size w sv zs) :
 CallsIn F n Tryz.prog 122 #[.slice none 0 0, .func (.func 105) #[] #[.pointer (some ⟨Bc, 0, none⟩)]] w fun e W' => ∃ v, e = .returned v ∧ W'.ownsRow w.heap.size 3 1 v zs.length (zs.map (Value.int .i64)) ∧ (v = .slice none 0 0 ↔ zs = []) ∧ Below w.heap.size w W' := by
 have h1 : 1 ≤ n := by omega
 obtain ⟨i0, hi, hz0, hz1, hz2⟩ := info_parts infoI
 refine callsIn_of_wp_marks Tryz.func122 rfl h3 ?_ hro
 simp only [Tryz.ntmps122, List.size_toArray, List.length_cons, List.length_nil, Nat.reduceAdd, Nat.reduceSub, Array.replicate_succ, Array.replicate_zero, List.push_toArray, List.append_toArray, List.nil_append, List.cons_append]
 gi_wp2
 have bO := Boxed.new w 22 (.slice none 0 0)
 have hB0 : Below w.heap.size w (w.alloc (.cells #[.slice none 0 0] 22)) := (Below.refl _ w).alloc (Nat.le_refl _) _
 refine wpIn_rangeFunc_ownG hro h1 (gf := 105) (lb := #[.pointer (some ⟨Bc, 0, none⟩)]) rfl h5 (enters_of Tryz.func105 (by kernel_rfl) rfl)
  (values_stops F (n - 1) h5 hro (by omega) Bc w.heap.size sv zs (by omega) _ (by simp; omega) (by simp) ((hB0.cell (p := ⟨Bc, 0, none⟩) hBl).trans hBc) (hI.below hB0)) belowK_t (belowK_b (by simp)) (Below.refl _ _) (fun _ => rfl)
  (fun pre W => (∃ v, Boxed W w.heap.size 22 v ∧ W.ownsRow w.heap.size 3 1 v pre.length (pre.map (Value.int .i64)) ∧ (v = .slice none 0 0 ↔ pre = [])) ∧ Below w.heap.size w W)
  (fun _ _ _ => False)
  (OwnFrom.and (Own.from (holdsRow_own w.heap.size w.heap.size 22 3 1 (fun pre : List Int => pre.length) (fun pre => pre.map (Value.int .i64)) (fun pre v => v = .slice none 0 0 ↔ pre = [])) _) (ownFrom_below (Nat.le_refl _) (by simp)))
  (fun _ _ _ _ _ hs _ _ => hs)
  ⟨⟨_, bO, World.ownsRow_nil _ _ _ _, by simp⟩, hB0⟩
  (fun x => { tmps := #[.slice none 0 0, .func (.func 105) #[] #[.pointer (some ⟨Bc, 0, none⟩)], .pointer (some ⟨w.heap.size, 0, none⟩), undef, .slice none 0 0, .int .i64 x, .func (.func 105) #[] #[.pointer (some ⟨Bc, 0, none⟩)], .int .i64 x, undef, undef, undef, undef, undef], defers := [] }) ?assign ?body ?done ?stop
 case assign =>
  intro l x W K hK
  gi_wp2
  exact hK
 case body =>
  rintro l pre x W ⟨⟨v, hv, hrow, hnil⟩, hB⟩ hlt
  have hc := hv.cell
  gi_wp2_with (gi_at_builtin; refine wpListIn_append_own _ rfl _ _ 22 rfl w.heap.size 3 i0 (.int .i64 0) 1 8 Tryz.underlying22 hi hz0 hz1 hz2 rfl (by decide) _ _ _ rfl (hrow.alloc _) ⟨W.heap.size, 0, none⟩ 1 1 [.int .i64 x] rfl rfl (cell_one_new _ _ _) (by simp [Value.oneCell']) (by omega) (by omega) (by have := hB.size; simp; omega) ?_; intro v' w1 hown' hgrow _; obtain ⟨g', cap', rfl⟩ := ownsRow_succ hown'; obtain ⟨hv1, hv2, hr2, hk2, hb2⟩ := hv.appended (by decide) hrow hB.size (Nat.le_refl _) hown' hgrow; have hc1 := hv1.cell; have hf1 := hv1.frozen)
  exact ⟨hk2.from _, hb2, ⟨_, hv2, by simpa using hr2, by simp⟩, hB.trans hb2⟩
 case done =>
  rintro D ys W hD rfl ⟨⟨v, hv, hrow, hnil⟩, hB⟩ hK
  have hc := hv.cell
  gi_wp2
  refine ⟨by simp, .inl ⟨_, _, rfl, run_takeDeferred hK, ?_⟩⟩
  exact ⟨_, results_tmp rfl _ _ _, v, rfl, ownsRow_putObj hrow _ hK rfl, hnil, hB.trans (belowK_b (w := w) (Nat.le_refl _) W D _ _ (by simp at hD; omega) hK rfl rfl)⟩
 case stop =>
  rintro D c pre W _ _ h _
  exact h.elim
def SortsIn (F : Fence) (m : Nat) : Prop :=
 (∀ (blk off cap : Nat) (ss : List Int) (W : World), Holds (Value.int .i64) W blk off ss.toArray → blk < W.heap.size → ss.length < 4611686018427387904 →
  CallsIn F m Tryz.prog 104 #[.slice (some ⟨blk, off, none⟩) ss.length cap] W fun e w' => e = .returned (.tuple #[]) ∧ ∃ k os, w' = grow (putRow (Value.int .i64) (Sort.ahead W k) blk off (ss.mergeSort fun x y => decide (x ≤ y)).toArray) os) ∧
 (∀ (p : Option Addr) (cap : Nat) (W : World), CallsIn F m Tryz.prog 104 #[.slice p 0 cap] W fun e w' => e = .returned (.tuple #[]) ∧ w' = W)
theorem sorts_wide (m : Nat) : SortsIn Fence.wide m :=
 ⟨fun blk off cap ss W hH hblk hsz => callsIn_wide.2 (Go.Proofs.Tryz.slices_Sort_int blk off cap ss W hH hblk hsz), fun p cap W => callsIn_wide.2 (Go.Proofs.Tryz.slices_Sort_int_none p cap W)⟩
set_option maxRecDepth 100000 in
set_option maxHeartbeats 1000000 in
theorem collect_in (F : Fence) (n : Nat) (h8 : F.fn 103) (h3 : F.fn 122) (h5 : F.fn 105) (hro : F.round = none) (hn : 4 ≤ n) (Bc : Nat) (sv : Value) (zs : List Int) (hlen : zs.length ≤ maxLen) (hbytes : zs.length * 8 ≤ 140737488351232) (w : World) (hBc : w.cell? ⟨Bc, 0, none⟩ = some sv) (hBl : Bc < w.heap.size) (hI : Ints w.heap.size w sv zs) :
 CallsIn F n Tryz.prog 103 #[.func (.func 105) #[] #[.pointer (some ⟨Bc, 0, none⟩)]] w fun e W' => ∃ v, e = .returned v ∧ W'.ownsRow w.heap.size 3 1 v zs.length (zs.map (Value.int .i64)) ∧ (v = .slice none 0 0 ↔ zs = []) ∧ Below w.heap.size w W' := by
 have h1 : 1 ≤ n := by omega
 refine callsIn_of_wp Tryz.func103 rfl h8 ?_ hro
 simp only [Tryz.ntmps103, List.size_toArray, List.length_cons, List.length_nil, Nat.reduceAdd, Nat.reduceSub, Array.replicate_succ, Array.replicate_zero, List.push_toArray, List.append_toArray, List.nil_append, List.cons_append]
 gi_wp2_with (gi_at_call 122; refine (appendSeq_in F (n - 1) h3 h5 hro (by omega) Bc sv zs hlen hbytes _ hBc hBl hI).mono ?_; rintro e W ⟨v, rfl, hrow, hnil, hb⟩)
 go_ret
 exact ⟨v, rfl, hrow, hnil, hb⟩
set_option maxRecDepth 100000 in
set_option maxHeartbeats 2000000 in
theorem sorted_in (F : Fence) (n : Nat) (h6 : F.fn 72) (h8 : F.fn 103) (h9 : F.fn 104) (h3 : F.fn 122) (h5 : F.fn 105) (hro : F.round = none) (hn : 5 ≤ n) (hsort : SortsIn F (n - 1)) (Bc : Nat) (sv : Value) (zs : List Int) (hlen : zs.length ≤ maxLen) (hbytes : zs.length * 8 ≤ 140737488351232) (w : World) (hBc : w.cell? ⟨Bc, 0, none⟩ = some sv) (hBl : Bc < w.heap.size) (hI : Ints w.heap.size w sv zs) :
 CallsIn F n Tryz.prog 72 #[.func (.func 105) #[] #[.pointer (some ⟨Bc, 0, none⟩)]] w fun e w' => ∃ v, e = .returned v ∧ w'.ownsRow w.heap.size 3 1 v zs.length ((zs.mergeSort (fun x y => decide (x ≤ y))).map (Value.int .i64)) ∧ Below w.heap.size w w' := by
 have h1 : 1 ≤ n := by omega
 refine callsIn_of_wp Tryz.func72 rfl h6 ?_ hro
 simp only [Tryz.ntmps72, List.size_toArray, List.length_cons, List.length_nil, Nat.reduceAdd, Nat.reduceSub, Array.replicate_succ, Array.replicate_zero, List.push_toArray, List.append_toArray, List.nil_append, List.cons_append]
 gi_wp2_with (gi_at_call 103; refine (collect_in F (n - 1) h8 h3 h5 hro (by omega) Bc sv zs hlen hbytes _ hBc hBl hI).mono ?_; rintro e W ⟨v, rfl, hrow, hnil, hb⟩)
 rcases hrow.2 with ⟨rfl, hz⟩ | ⟨gb, cap, cur, rfl, hbase, hgb, r1, r2, r3, r4⟩
 ·have hss : zs = [] := List.eq_nil_of_length_eq_zero hz
  subst hss
  gi_wp2_with (gi_at_call 104; refine (hsort.2 none 0 W).mono ?_; rintro e w' ⟨rfl, rfl⟩)
  go_ret
  exact ⟨.slice none 0 0, rfl, by simpa using hrow, hb⟩
 ·have hH : Holds (Value.int .i64) W gb 0 zs.toArray := holds_of_blockI hgb (by simpa using r4)
  have hgl : gb < W.heap.size := (Array.getElem?_eq_some_iff.1 hgb).1
  have cS := hsort.1 gb 0 cap zs W hH hgl (by omega)
  gi_wp2_with (gi_at_call 104; refine cS.mono ?_; rintro e w' ⟨rfl, nn, os, rfl⟩)
  go_ret
  exact ⟨_, rfl, ownsRow_sortedI (by simp) hbase hgb r1 r2 r3, hb.grown (grownBy_sortedI _) hb.size (fun j hj => by cases hj; exact hbase)⟩
theorem sorted (Bc : Nat) (sv : Value) (zs : List Int) (hlen : zs.length ≤ maxLen) (hbytes : zs.length * 8 ≤ 140737488351232) (w : World) (hBc : w.cell? ⟨Bc, 0, none⟩ = some sv) (hBl : Bc < w.heap.size) (hI : Ints w.heap.size w sv zs) :
 Calls Tryz.prog 72 #[.func (.func 105) #[] #[.pointer (some ⟨Bc, 0, none⟩)]] w fun e w' => ∃ v, e = .returned v ∧ w'.ownsRow w.heap.size 3 1 v zs.length ((zs.mergeSort (fun x y => decide (x ≤ y))).map (Value.int .i64)) ∧ Below w.heap.size w w' :=
 callsIn_wide.1 (sorted_in Fence.wide 5 trivial trivial trivial trivial trivial rfl (Nat.le_refl _) (sorts_wide _) Bc sv zs hlen hbytes w hBc hBl hI)
end Go.Proofs.YtphlkdbglpcikaaGreatDoor.WSeq
end
section
namespace Go.Proofs.YtphlkdbglpcikaaGreatDoor
open Go.Vl
open Y
namespace WNorm
theorem c_Values (v : Value) (es : List AV) : FnC Tryz.prog 73 [.lit v] [.arr v 3 1 es] (fun r M => ∃ b, r = .lit (.func (.func 105) #[] #[.pointer (some ⟨b, 0, none⟩)]) ∧ M = [.box b 22 [.lit v], .arr v 3 1 es]) :=  by
 refine FnC.mk Tryz.func73 (by kernel_rfl) rfl Tryz.ntmps73 rfl (fun w0 F => ?_)
 refine W.arr_inv 0 rfl (fun a9 n9 c9 h9 => ?_)
 subst h9
 refine W.s ?_; refine W.r ?_; refine W.box (.t rfl) rfl rfl ?_; intro b1; refine W.q (.assign .k) rfl ?_; refine W.n ?_; refine W.h ?_; refine W.s ?_; refine W.r ?_; refine W.q (.mkfn (caps := [.tmp 1]) (vs := [_]) ⟨(.t rfl), trivial⟩) rfl ?_; refine W.q (.assign (.t rfl)) rfl ?_; refine W.n ?_; refine W.h ?_; refine W.ret ?_; refine W.retn (M' := [_, _]) (D := []) (rs := [.tmp 2]) (avs := [_]) Tryz.results73 ⟨rfl, trivial⟩ rfl (.refl _) ?_
 exact ⟨b1, rfl, rfl⟩
theorem c_Sorted (b : Nat) (v : Value) (l : List Int) (hl : l.length ≤ 1048576) : FnC Tryz.prog 72 [.lit (.func (.func 105) #[] #[.pointer (some ⟨b, 0, none⟩)])] [.box b 22 [.lit v], .arr v 3 1 (l.map AV.int)] (fun r M => ∃ v', r = .lit v' ∧ M = .arr v' 3 1 ((srt l).map AV.int) :: [.box b 22 [.lit v], .arr v 3 1 (l.map AV.int)]) := by
 refine FnC.belowRow (l := srt l) (CallOk.of Tryz.func72 (by kernel_rfl) (by kernel_rfl)) fun w F vs hF hm ha => ?_
 simp only [RepT] at ha
 obtain ⟨v0, _, rfl, ⟨hs0, hr0⟩, rfl⟩ := ha
 have e0 : v0 = _ := Rep.lit_iff.1 (show Rep w _ (.lit (.func (.func 105) #[] #[.pointer (some ⟨b, 0, none⟩)])) v0 from ⟨hs0, hr0⟩)
 subst e0
 obtain ⟨cur, hc, hrl⟩ := hm.holds _ List.mem_cons_self
 have hcv : cur.toList = [v] := by
  simp only [RepL] at hrl
  obtain ⟨u, us, e, ⟨h1, h2, h3⟩, rfl⟩ := hrl
  have : u = v := lit_cell h1 h3
  rw [e, this]
 have hcell : w.cell? ⟨b, 0, none⟩ = some v := by
  rw [cell_of hc, ← Array.getElem?_toList, hcv]; rfl
 have hI : WSeq.Ints w.heap.size w v l := by
  obtain ⟨ad, cap, rfl, h1, h2, h3⟩ := hm.holds (.arr v 3 1 (l.map AV.int)) (List.mem_cons_of_mem _ List.mem_cons_self)
  rw [List.length_map] at *
  rcases h3 with ⟨rfl, h3⟩ | ⟨g, off, cu, lo, hi, rfl, hg, hsz, hfr, he⟩
  ·have : l = [] := List.eq_nil_of_length_eq_zero (by omega)
   subst this
   exact .inl ⟨_, _, rfl, rfl⟩
  ·refine .inr ⟨g, off, cap, rfl, heap_lt hg, fun j hj => ?_⟩
   have hti := RepE.toInts he
   have h5 : ((cu.toList.drop off).take l.length)[j]? = (l.map (Value.int .i64))[j]? := by rw [hti]
   rw [List.getElem?_take_of_lt hj, List.getElem?_drop, Array.getElem?_toList] at h5
   rw [cell_of hg, h5]; simp [hj]
 have h := WSeq.sorted b v l (by have : (1048576 : Nat) ≤ maxLen := by decide
                                 omega) (by omega) w hcell (heap_lt hc) hI
 rw [← srt_len l] at h
 exact h
theorem c_Compact (v : Value) (l : List Int) (hs : l.Pairwise (· ≤ ·)) (hl : l.length ≤ 1048576) : FnC Tryz.prog 71 [.lit v] [.arr v 3 1 (l.map AV.int)] (fun r M => ∃ v', r = .lit v' ∧ M = [.arr v' 3 1 ((Go.Lib.compact l).map AV.int)]) := by
 have hcl := compact_len l hs
 have h := FnC.row (P := Tryz.prog) (f := 71) (I := 3) (v := v) (l := l) (CallOk.of Tryz.func71 (by kernel_rfl) (by kernel_rfl)) (Go.Lib.compact l ++ List.replicate (l.length - (Go.Lib.compact l).length) 0) (by rw [List.length_append, List.length_replicate]; omega) (Go.Lib.compact l).length hcl (fun ad cap => .slice ad (Go.Lib.compact l).length cap)
  (fun h0 ad cap w => by subst h0; exact Go.Proofs.Tryz.slices_Compact_int_empty ad cap w)
  (fun _ g off cap w hH hg h1 h2 => (Go.Proofs.Tryz.slices_Compact_int g off cap l w hH (by omega) h1).mono fun e w' ⟨he, q, hw⟩ => ⟨he, q, #[], by rw [hw, Go.Sort.grow_empty]⟩)
 refine h.mono ?_
 rintro r M ⟨ad, cap, hv, rfl, rfl⟩
 refine ⟨_, rfl, ?_⟩
 rw [List.take_append_of_le_length (Nat.le_refl _), List.take_length]
theorem c_Itoa0 (n : Int) (h0 : 0 ≤ n) (h1 : n < 100) (M0 : List ME) : FnC Tryz.prog 107 [.int n] M0 (fun r M => r = .str (itoa n) ∧ M = M0) := by
 refine FnC.belowM (CallOk.of Tryz.func107 (by kernel_rfl) (by kernel_rfl)) fun w F vs hm ha => ?_
 simp only [RepT] at ha
 obtain ⟨v0, _, rfl, ⟨hs0, hr0⟩, rfl⟩ := ha
 have e0 : v0 = _ := Rep.lit_iff.1 (show Rep w _ (.int n) v0 from ⟨hs0, hr0⟩)
 subst e0
 obtain ⟨i, rfl⟩ : ∃ i : Nat, n = (i : Int) := ⟨n.toNat, by omega⟩
 refine (Go.Proofs.Tryz.strconv_Itoa_small i (by omega) w).mono ?_
 rintro e w' ⟨he, hw⟩
 subst hw
 refine ⟨_, he, ?_, Go.RowKit.Below.refl _ _⟩
 rw [← itoa_lib _ (by omega) h1, Go.Lib.itoa, if_neg (by omega), Int.toNat_natCast]
 exact Rep.lit _
theorem c_ItoaT (T0 : TypeId) (n : Int) (h0 : -1 ≤ n) (h1 : n < 100) : FnC Tryz.prog 107 [.int n] [.box 1 T0 (Go.Lib.pow10Tab.map fun z => AV.lit (.int .u64 z))] (fun r M => r = .str (itoa n) ∧ M = [.box 1 T0 (Go.Lib.pow10Tab.map fun z => AV.lit (.int .u64 z))]) := by
 refine FnC.belowM (CallOk.of Tryz.func107 (by kernel_rfl) (by kernel_rfl)) fun w F vs hm ha => ?_
 simp only [RepT] at ha
 obtain ⟨v0, _, rfl, ⟨hs0, hr0⟩, rfl⟩ := ha
 have e0 : v0 = _ := Rep.lit_iff.1 (show Rep w _ (.int n) v0 from ⟨hs0, hr0⟩)
 subst e0
 obtain ⟨cur, hc, hrl⟩ := hm.holds _ List.mem_cons_self
 have hrow : ∀ (zs : List Int) (row : List Value), RepL w (bl [.box 1 T0 (Go.Lib.pow10Tab.map fun z => AV.lit (.int .u64 z))] ++ F) (zs.map fun z => AV.lit (.int .u64 z)) row → row = zs.map fun z => Value.int .u64 z := by
  intro zs
  induction zs with
  | nil => intro row h; simpa [RepL] using h
  | cons z zs ih =>
   intro row h
   simp only [List.map_cons, RepL] at h
   obtain ⟨u, us, rfl, ⟨h1, h2, h3⟩, h4⟩ := h
   have hu : u = .int .u64 z := lit_cell h1 h3
   rw [hu, List.map_cons, ih us h4]
 have htab : Go.Lib.TabIs Tryz.prog w "internal/strconv.uint64pow10" .u64 Go.Lib.pow10Tab := by
  have hg : Tryz.prog.globalNamed "internal/strconv.uint64pow10" = some 1 := by kernel_rfl
  unfold Go.Lib.TabIs World.var?
  rw [hg, Option.bind_some, hc]
  show some cur = _
  congr 1
  exact Array.toList_inj.1 (by rw [hrow _ _ hrl])
 refine (Go.Proofs.Tryz.strconv_Itoa n (by omega) (by omega) w htab).mono ?_
 rintro e w' ⟨he, k, os, hw⟩
 subst hw
 refine ⟨_, he, ?_, ⟨rfl, rfl, rfl, by simp [Go.Sort.grow], fun j hj => (Go.Sort.heap_grow_old (w.drewN k) os hj).trans rfl⟩⟩
 rw [itoa_lib n h0 h1]
 exact Rep.lit _
end WNorm
end Go.Proofs.YtphlkdbglpcikaaGreatDoor
end
section
namespace Go.Proofs.YtphlkdbglpcikaaGreatDoor
open Go.Vl
open Y
namespace WBld
theorem c_ccNew (b : Nat) (s : Value) : FnC Tryz.prog 125 [.lit (.pointer (some ⟨b, 0, none⟩))] [.box b 177 [.lit (.pointer none), .lit s]] (fun r M => r = .tup [] ∧ M = [.box b 177 [.lit (.pointer (some ⟨b, 0, none⟩)), .lit s]]) :=  by
 refine FnC.mk Tryz.func125 (by kernel_rfl) rfl Tryz.ntmps125 rfl (fun w0 F => ?_)
 refine W.s (.r (.mv rfl rfl (.q (.nilc (.t rfl)) rfl ?_)))
 first | refine W.q (.fae (.t rfl) fa177_0 rfl) rfl ?_ | refine W.q (.fab (.t rfl) fa177_0) rfl ?_ | refine W.q (.faa (.t rfl) fa177_0) rfl ?_
 first | refine W.q (.lde1 (.t rfl) ag174) rfl ?_ | refine W.q (.ldb1 0 (.t rfl) rfl ag174 rfl) rfl ?_ | refine W.q (.ldb1 1 (.t rfl) rfl ag174 rfl) rfl ?_ | refine W.q (.ldb1 2 (.t rfl) rfl ag174 rfl) rfl ?_ | refine W.q (.ldb1 3 (.t rfl) rfl ag174 rfl) rfl ?_
 refine W.q (.eqpn (.t rfl) Tryz.underlying174) rfl (.n (.h (.isb 6 true rfl (by rfl) (.condT (.t rfl) (.r (.mv rfl rfl (.mv rfl rfl ?_)))))))
 first | refine W.q (.touns 0 (.t rfl) rfl Tryz.underlying174 Tryz.underlying217 ty177) rfl ?_ | refine W.q (.touns 1 (.t rfl) rfl Tryz.underlying174 Tryz.underlying217 ty177) rfl ?_ | refine W.q (.touns 2 (.t rfl) rfl Tryz.underlying174 Tryz.underlying217 ty177) rfl ?_ | refine W.q (.touns 3 (.t rfl) rfl Tryz.underlying174 Tryz.underlying217 ty177) rfl ?_
 refine W.q (.noesc Tryz.func145 (by kernel_rfl) (by kernel_rfl) (by kernel_rfl) (by kernel_rfl) (.t rfl)) rfl ?_
 first | refine W.q (.fromuns 0 (.t rfl) rfl Tryz.underlying217 Tryz.underlying174 ty177 (by kernel_rfl)) rfl ?_ | refine W.q (.fromuns 1 (.t rfl) rfl Tryz.underlying217 Tryz.underlying174 ty177 (by kernel_rfl)) rfl ?_ | refine W.q (.fromuns 2 (.t rfl) rfl Tryz.underlying217 Tryz.underlying174 ty177 (by kernel_rfl)) rfl ?_ | refine W.q (.fromuns 3 (.t rfl) rfl Tryz.underlying217 Tryz.underlying174 ty177 (by kernel_rfl)) rfl ?_
 refine W.q (.nilc (.t rfl)) rfl ?_
 first | refine W.q (.fae (.t rfl) fa177_0 rfl) rfl ?_ | refine W.q (.fab (.t rfl) fa177_0) rfl ?_ | refine W.q (.faa (.t rfl) fa177_0) rfl ?_
 first | refine W.stb 0 (.t rfl) (.t rfl) rfl ty174 rfl rfl rfl ?_ | refine W.stb 1 (.t rfl) (.t rfl) rfl ty174 rfl rfl rfl ?_ | refine W.stb 2 (.t rfl) (.t rfl) rfl ty174 rfl rfl rfl ?_ | refine W.stb 3 (.t rfl) (.t rfl) rfl ty174 rfl rfl rfl ?_
 refine W.n ?_; refine W.endn (M' := [.box b 177 _]) (rs := []) (avs := []) Tryz.results125 trivial rfl (.refl _) ?_
 exact ⟨rfl, rfl⟩
theorem c_ccUsed (b : Nat) (s : Value) : FnC Tryz.prog 125 [.lit (.pointer (some ⟨b, 0, none⟩))] [.box b 177 [.lit (.pointer (some ⟨b, 0, none⟩)), .lit s]] (fun r M => r = .tup [] ∧ M = [.box b 177 [.lit (.pointer (some ⟨b, 0, none⟩)), .lit s]]) :=  by
 refine FnC.mk Tryz.func125 (by kernel_rfl) rfl Tryz.ntmps125 rfl (fun w0 F => ?_)
 refine W.s (.r (.mv rfl rfl (.q (.nilc (.t rfl)) rfl ?_)))
 first | refine W.q (.fae (.t rfl) fa177_0 rfl) rfl ?_ | refine W.q (.fab (.t rfl) fa177_0) rfl ?_ | refine W.q (.faa (.t rfl) fa177_0) rfl ?_
 first | refine W.q (.lde1 (.t rfl) ag174) rfl ?_ | refine W.q (.ldb1 0 (.t rfl) rfl ag174 rfl) rfl ?_ | refine W.q (.ldb1 1 (.t rfl) rfl ag174 rfl) rfl ?_ | refine W.q (.ldb1 2 (.t rfl) rfl ag174 rfl) rfl ?_ | refine W.q (.ldb1 3 (.t rfl) rfl ag174 rfl) rfl ?_
 refine W.q (.eqpn (.t rfl) Tryz.underlying174) rfl (.n (.h (.isb 6 false rfl (by rfl) (.condF (.t rfl) (.s (.r (.mv rfl rfl (.q (.nilc (.t rfl)) rfl ?_))))))))
 first | refine W.q (.fae (.t rfl) fa177_0 rfl) rfl ?_ | refine W.q (.fab (.t rfl) fa177_0) rfl ?_ | refine W.q (.faa (.t rfl) fa177_0) rfl ?_
 first | refine W.q (.lde1 (.t rfl) ag174) rfl ?_ | refine W.q (.ldb1 0 (.t rfl) rfl ag174 rfl) rfl ?_ | refine W.q (.ldb1 1 (.t rfl) rfl ag174 rfl) rfl ?_ | refine W.q (.ldb1 2 (.t rfl) rfl ag174 rfl) rfl ?_ | refine W.q (.ldb1 3 (.t rfl) rfl ag174 rfl) rfl ?_
 refine W.mv rfl rfl (.q (.nep (.t rfl) (.t rfl) Tryz.underlying174 ty177) rfl (.n (.h (.condF (.t rfl) (.k ?_))))); refine W.endn (M' := [.box b 177 _]) (rs := []) (avs := []) Tryz.results125 trivial rfl (.refl _) ?_
 exact ⟨rfl, rfl⟩
theorem c_copyCheck (b : Nat) (s : Value) (p : Option Addr) (hp : p = none ∨ p = some ⟨b, 0, none⟩) : FnC Tryz.prog 125 [.lit (.pointer (some ⟨b, 0, none⟩))] [.box b 177 [.lit (.pointer p), .lit s]] (fun r M => r = .tup [] ∧ M = [.box b 177 [.lit (.pointer (some ⟨b, 0, none⟩)), .lit s]]) := by
 rcases hp with rfl | rfl
 ·exact c_ccNew b s
 ·exact c_ccUsed b s
theorem c_String (b : Nat) (p : Option Addr) (v : Value) (l : List UInt8) (hp : p = none ∨ p = some ⟨b, 0, none⟩) (hl : l.length ≤ 17592186044416) (hv : v = .slice none 0 0 ∨ l ≠ []) : FnC Tryz.prog 108 [.lit (.pointer (some ⟨b, 0, none⟩))] [.box b 177 [.lit (.pointer p), .lit v], .arr v 5 1 (l.map AV.u8)] (fun r M => r = .str l ∧ M = []) :=  by
 refine FnC.mk Tryz.func108 (by kernel_rfl) rfl Tryz.ntmps108 rfl (fun w0 F => ?_)
 have hlm : (l.map AV.u8).length = l.length := List.length_map ..
 have hve : v = .slice none 0 0 ∨ l.map AV.u8 ≠ [] := hv.imp id (fun h h2 => h (List.map_eq_nil_iff.1 h2))
 refine W.s (.r (.q (.assign .k) rfl (.n (.h (.s ?_))))); refine W.drawnE (ι := Unit) (fun e c => [.box b 177 [.lit (.pointer p), .lit v], .arr (bif e 10 then deadOf v else v) 5 1 (bif e 10 then [] else l.map AV.u8)]) 10 () (by kernel_rfl) (by kernel_rfl) rfl ?_; refine DE.q (fun e c hk => (.move (.t rfl))) rfl (fun _ _ => rfl) (by first | exact .inr (fun _ _ => rfl) | exact .inl (by kernel_rfl)) ?_; refine DE.q (fun e c hk => (.nilc (.t rfl))) rfl (fun _ _ => rfl) (by first | exact .inr (fun _ _ => rfl) | exact .inl (by kernel_rfl)) ?_
 first | refine DE.q (fun e c hk => (.fae (.t rfl) fa177_1 rfl)) rfl (fun _ _ => rfl) (by first | exact .inr (fun _ _ => rfl) | exact .inl (by kernel_rfl)) ?_ | refine DE.q (fun e c hk => (.fab (.t rfl) fa177_1)) rfl (fun _ _ => rfl) (by first | exact .inr (fun _ _ => rfl) | exact .inl (by kernel_rfl)) ?_ | refine DE.q (fun e c hk => (.faa (.t rfl) fa177_1)) rfl (fun _ _ => rfl) (by first | exact .inr (fun _ _ => rfl) | exact .inl (by kernel_rfl)) ?_
 first | refine DE.q (fun e c hk => (.lde1 (.t rfl) ag175)) rfl (fun _ _ => rfl) (by first | exact .inr (fun _ _ => rfl) | exact .inl (by kernel_rfl)) ?_ | refine DE.q (fun e c hk => (.ldb1 0 (.t rfl) rfl ag175 rfl)) rfl (fun _ _ => rfl) (by first | exact .inr (fun _ _ => rfl) | exact .inl (by kernel_rfl)) ?_ | refine DE.q (fun e c hk => (.ldb1 1 (.t rfl) rfl ag175 rfl)) rfl (fun _ _ => rfl) (by first | exact .inr (fun _ _ => rfl) | exact .inl (by kernel_rfl)) ?_ | refine DE.q (fun e c hk => (.ldb1 2 (.t rfl) rfl ag175 rfl)) rfl (fun _ _ => rfl) (by first | exact .inr (fun _ _ => rfl) | exact .inl (by kernel_rfl)) ?_ | refine DE.q (fun e c hk => (.ldb1 3 (.t rfl) rfl ag175 rfl)) rfl (fun _ _ => rfl) (by first | exact .inr (fun _ _ => rfl) | exact .inl (by kernel_rfl)) ?_
 refine DE.q (av := fun _ => .lit (dataOf v)) (fun e c hk => by have h := hk.down 10 (by kernel_rfl); simp only [h, cond_false]; exact Ev.usd (i := 1) (.t rfl) rfl hve) rfl (fun _ _ => rfl) (by first | exact .inr (fun _ _ => rfl) | exact .inl (by kernel_rfl)) ?_; refine DE.q (fun e c hk => (.move (.t rfl))) rfl (fun _ _ => rfl) (by first | exact .inr (fun _ _ => rfl) | exact .inl (by kernel_rfl)) ?_; refine DE.q (fun e c hk => (.nilc (.t rfl))) rfl (fun _ _ => rfl) (by first | exact .inr (fun _ _ => rfl) | exact .inl (by kernel_rfl)) ?_
 first | refine DE.q (fun e c hk => (.fae (.t rfl) fa177_1 rfl)) rfl (fun _ _ => rfl) (by first | exact .inr (fun _ _ => rfl) | exact .inl (by kernel_rfl)) ?_ | refine DE.q (fun e c hk => (.fab (.t rfl) fa177_1)) rfl (fun _ _ => rfl) (by first | exact .inr (fun _ _ => rfl) | exact .inl (by kernel_rfl)) ?_ | refine DE.q (fun e c hk => (.faa (.t rfl) fa177_1)) rfl (fun _ _ => rfl) (by first | exact .inr (fun _ _ => rfl) | exact .inl (by kernel_rfl)) ?_
 first | refine DE.q (fun e c hk => (.lde1 (.t rfl) ag175)) rfl (fun _ _ => rfl) (by first | exact .inr (fun _ _ => rfl) | exact .inl (by kernel_rfl)) ?_ | refine DE.q (fun e c hk => (.ldb1 0 (.t rfl) rfl ag175 rfl)) rfl (fun _ _ => rfl) (by first | exact .inr (fun _ _ => rfl) | exact .inl (by kernel_rfl)) ?_ | refine DE.q (fun e c hk => (.ldb1 1 (.t rfl) rfl ag175 rfl)) rfl (fun _ _ => rfl) (by first | exact .inr (fun _ _ => rfl) | exact .inl (by kernel_rfl)) ?_ | refine DE.q (fun e c hk => (.ldb1 2 (.t rfl) rfl ag175 rfl)) rfl (fun _ _ => rfl) (by first | exact .inr (fun _ _ => rfl) | exact .inl (by kernel_rfl)) ?_ | refine DE.q (fun e c hk => (.ldb1 3 (.t rfl) rfl ag175 rfl)) rfl (fun _ _ => rfl) (by first | exact .inr (fun _ _ => rfl) | exact .inl (by kernel_rfl)) ?_
 refine DE.q (av := fun _ => .lit (.int .i64 (l.length : Int))) (fun e c hk => by have h := hk.down 10 (by kernel_rfl); simp only [h, cond_false]; rw [← hlm]; exact Ev.lenar (i := 1) (.t rfl) rfl Tryz.underlying175) rfl (fun _ _ => rfl) (by first | exact .inr (fun _ _ => rfl) | exact .inl (by kernel_rfl)) ?_; refine DE.effc (av := fun _ => .str l) rfl (.inr fun _ _ => rfl) (fun e c hk L_ hs Q h => ?_) ?_
 ·have hk_10 := hk.not
  simp only [addE, hk_10, ↓reduceIte, cond_true, cond_false] at h ⊢
  refine W.ustr 1 (.t (hs _ _ rfl)) (.t (hs _ _ rfl)) rfl hv Tryz.underlying198 (by kernel_rfl) (by omega) rfl ?_
  exact h
 refine DE.q (fun e c hk => (.assign (.t rfl))) rfl (fun _ _ => rfl) (by first | exact .inr (fun _ _ => rfl) | exact .inl (by kernel_rfl)) ?_; refine DE.nil (fun c_ e_ he_ => ?_)
 simp only [he_ 10 (by decide), cond_true, cond_false]
 refine W.h ?_; refine W.ret ?_; refine W.retn (M' := []) (D := _) (rs := [.tmp 2]) (avs := [_]) Tryz.results108 ⟨rfl, trivial⟩ rfl (.refl _) ?_
 exact ⟨rfl, rfl⟩
end WBld
end Go.Proofs.YtphlkdbglpcikaaGreatDoor
end
section
namespace Go.Proofs.YtphlkdbglpcikaaGreatDoor
open Go.Vl
open Y
namespace WStr
theorem c_WriteString (b : Nat) (p : Option Addr) (v : Value) (l : List UInt8) (hp : p = none ∨ p = some ⟨b, 0, none⟩) (s : List UInt8) (hl : l.length + s.length ≤ 17592186044416) : FnC Tryz.prog 106 [.lit (.pointer (some ⟨b, 0, none⟩)), .str s] [.box b 177 [.lit (.pointer p), .lit v], .arr v 5 1 (l.map AV.u8)] (fun r M => r = .tup [.int (s.length : Int), .lit .nilIface] ∧ ∃ v', M = [.box b 177 [.lit (.pointer (some ⟨b, 0, none⟩)), .lit v'], .arr v' 5 1 ((l ++ s).map AV.u8)]) :=  by
 refine FnC.mk Tryz.func106 (by kernel_rfl) rfl Tryz.ntmps106 rfl (fun w0 F => ?_)
 have hlm : (l.map AV.u8).length = l.length := List.length_map ..
 have hsm : (s.map AV.u8).length = s.length := List.length_map ..
 refine W.s (.r (.q (.assign .k) rfl (.q (.assign .k) rfl (.n (.h (.s (.r (.mv rfl rfl ?_)))))))); refine W.call (WBld.c_copyCheck b v p hp) ⟨(.t rfl), trivial⟩ (.refl _) rfl ?_
 rintro _ _ ⟨rfl, rfl⟩
 refine W.n (.h (.s (.r (.mv rfl rfl (.mv rfl rfl (.q (.nilc (.t rfl)) rfl ?_))))))
 first | refine W.q (.fae (.t rfl) fa177_1 rfl) rfl ?_ | refine W.q (.fab (.t rfl) fa177_1) rfl ?_ | refine W.q (.faa (.t rfl) fa177_1) rfl ?_
 first | refine W.q (.lde1 (.t rfl) ag175) rfl ?_ | refine W.q (.ldb1 0 (.t rfl) rfl ag175 rfl) rfl ?_ | refine W.q (.ldb1 1 (.t rfl) rfl ag175 rfl) rfl ?_ | refine W.q (.ldb1 2 (.t rfl) rfl ag175 rfl) rfl ?_ | refine W.q (.ldb1 3 (.t rfl) rfl ag175 rfl) rfl ?_
 refine W.mv rfl rfl ?_
 first | refine W.app 0 (.t rfl) rfl (.str (.t rfl)) Tryz.underlying175 ni9 ty5 rfl rfl (by rw [hlm, hsm]; omega) rfl ?_ | refine W.app 1 (.t rfl) rfl (.str (.t rfl)) Tryz.underlying175 ni9 ty5 rfl rfl (by rw [hlm, hsm]; omega) rfl ?_ | refine W.app 2 (.t rfl) rfl (.str (.t rfl)) Tryz.underlying175 ni9 ty5 rfl rfl (by rw [hlm, hsm]; omega) rfl ?_ | refine W.app 3 (.t rfl) rfl (.str (.t rfl)) Tryz.underlying175 ni9 ty5 rfl rfl (by rw [hlm, hsm]; omega) rfl ?_
 intro v14; refine W.arr_inv 1 rfl (fun a14 n14 c14 h14 => ?_)
 subst h14
 refine W.q (.nilc (.t rfl)) rfl ?_
 first | refine W.q (.fae (.t rfl) fa177_1 rfl) rfl ?_ | refine W.q (.fab (.t rfl) fa177_1) rfl ?_ | refine W.q (.faa (.t rfl) fa177_1) rfl ?_
 first | refine W.stb 0 (.t rfl) (.t rfl) rfl ty175 rfl rfl rfl ?_ | refine W.stb 1 (.t rfl) (.t rfl) rfl ty175 rfl rfl rfl ?_ | refine W.stb 2 (.t rfl) (.t rfl) rfl ty175 rfl rfl rfl ?_ | refine W.stb 3 (.t rfl) (.t rfl) rfl ty175 rfl rfl rfl ?_
 refine W.n (.h (.s (.r (.mv rfl rfl (.q (.lens (.t rfl) Tryz.underlying9) rfl (.asg rfl rfl (.q (.assign .k) rfl (.n (.h ?_))))))))); refine W.ret ?_; refine W.retn (M' := [.box b 177 _, .arr _ 5 1 _]) (rs := [.tmp 4, .tmp 5]) (avs := [_, _]) Tryz.results106 ⟨rfl, rfl, trivial⟩ rfl (.refl _) ?_
 exact ⟨rfl, _, by rw [List.map_append]; rfl⟩
end WStr
end Go.Proofs.YtphlkdbglpcikaaGreatDoor
end
section
namespace Go.Proofs.YtphlkdbglpcikaaGreatDoor
open Go.Vl
open Y
namespace WKey
theorem c_key (l : List Int) (hl : l.length ≤ 100000) (M0 : List ME) (hI : ∀ n ∈ l, FnC Tryz.prog 107 [.int n] M0 (fun r M => r = .str (itoa n) ∧ M = M0)) : FnC Tryz.prog 74 [.sl 1 (l.map AV.int)] M0 (fun r M => r = .str (keyL l) ∧ M = M0) :=  by
 refine FnC.mk Tryz.func74 (by kernel_rfl) rfl Tryz.ntmps74 rfl (fun w0 F => ?_)
 have hnl : (l.map AV.int).length = l.length := List.length_map ..
 refine W.s ?_; refine W.r ?_; refine W.q (.assign .k) rfl ?_; refine W.n ?_; refine W.h ?_; refine W.s ?_; refine W.r ?_; refine W.alloc ty177 rfl rfl ?_; intro b3; refine W.n ?_; refine W.h ?_; refine W.s ?_; refine W.s ?_; refine W.r ?_; refine W.q (.move (.t rfl)) rfl ?_
 first | refine W.q (.lensl (.t rfl) Tryz.underlying22) rfl ?_ | refine W.q (.lenar (i := 0) (.t rfl) rfl Tryz.underlying22) rfl ?_ | refine W.q (.lenar (i := 1) (.t rfl) rfl Tryz.underlying22) rfl ?_ | refine W.q (.lenar (i := 2) (.t rfl) rfl Tryz.underlying22) rfl ?_ | refine W.q (.lenar (i := 3) (.t rfl) rfl Tryz.underlying22) rfl ?_
 refine W.q (.move .k) rfl (.n (.h (.b ?_))); refine W.own_nil 5 1 ?_; refine W.loop (D := []) (ι := Nat × Value × Option Addr) (fun z => [(8, true, .int (z.1 : Int)), (7, true, .int ((l.map AV.int).length : Int)), (6, true, .sl 1 (l.map AV.int)), (3, true, .lit (.pointer (some ⟨b3, 0, none⟩)))]) (fun z => .box b3 177 [.lit (.pointer z.2.2), .lit z.2.1] :: .arr z.2.1 5 1 ((keyL (l.take z.1)).map AV.u8) :: M0) (fun z => z.1 ≤ l.length ∧ (z.2.2 = none ∨ z.2.2 = some ⟨b3, 0, none⟩) ∧ (z.2.1 = .slice none 0 0 ∨ keyL (l.take z.1) ≠ [])) (fun z => l.length - z.1) (0, .slice none 0 0, none) ⟨rfl, rfl, rfl, rfl, trivial⟩ (by rw [List.append_nil]; exact List.Perm.swap _ _ _) ⟨Nat.zero_le _, .inl rfl, .inl rfl⟩ ?_
 rintro ⟨i, v, p⟩ ⟨hi, hp, hv⟩
 dsimp only at hi hp hv ⊢
 rcases (show i < l.length ∨ i = l.length from by omega) with hlt | hend
 ·have hga := getD_map l i hlt
  have hm := getD_memG 0 l i hlt
  have hsn := keyL_snoc l i hlt
  generalize l.getD i 0 = nn at hga hm hsn
  refine W.s (.r (.q (.lti (.t rfl) (.t rfl)) rfl (.n (.h (.s ?_))))); refine W.isb 9 true rfl (by exact decide_eq_true (by omega)) ?_; refine W.condT (.t rfl) (.k (.h (.s (.b (.s (.r ?_)))))); refine W.q (.at (E := 3) (.t rfl) (.t rfl) Tryz.underlying22 ty3 (fun _ => ⟨by omega, hga⟩) rfl rfl) rfl ?_
  first | refine W.q (.lde1 (.t rfl) ag3) rfl ?_ | refine W.q (.ldb1 0 (.t rfl) rfl ag3 rfl) rfl ?_ | refine W.q (.ldb1 1 (.t rfl) rfl ag3 rfl) rfl ?_ | refine W.q (.ldb1 2 (.t rfl) rfl ag3 rfl) rfl ?_ | refine W.q (.ldb1 3 (.t rfl) rfl ag3 rfl) rfl ?_
  refine W.asg rfl rfl (.n (.h (.r (.mv rfl rfl ?_)))); refine W.call (hI _ hm) ⟨(.t rfl), trivial⟩ (List.perm_append_comm (l₁ := [_, _])) rfl ?_
  rintro _ _ ⟨rfl, rfl⟩
  refine W.q (.cat (.t rfl) .k (fun _ => by have h2 := itoa_len nn; simp only [List.length_cons, List.length_nil]; omega)) rfl ?_; refine W.call (WStr.c_WriteString b3 p v (keyL (l.take i)) hp (itoa nn ++ [32]) (by have h1 := keyL_len (l.take i); have h2 := itoa_len nn; rw [List.length_take] at h1; rw [List.length_append]; simp only [List.length_cons, List.length_nil]; omega)) ⟨(.t rfl), (.t rfl), trivial⟩ (List.perm_append_comm (l₂ := [_, _])) rfl ?_
  rintro _ _ ⟨rfl, v', rfl⟩
  refine W.n (.bn (.h (.r ?_)))
  first | refine W.q (.add (.t rfl) .k (fun _ => by omega)) rfl ?_ | refine W.q (.addw (.t rfl) .k) rfl ?_
  refine W.q (.move (.t rfl)) rfl ?_; refine W.n ?_; refine W.h ?_; refine W.reach (D := []) (i + 1, v', some ⟨b3, 0, none⟩) ⟨rfl, rfl, rfl, rfl, trivial⟩ (by rw [List.append_nil]; dsimp only; rw [hsn]; exact .refl _) ⟨⟨hlt, .inr rfl, .inr ?_⟩, by show l.length - (i + 1) < l.length - i; omega⟩
  dsimp only
  rw [hsn]
  intro h
  have := congrArg List.length h
  simp only [List.length_append, List.length_cons, List.length_nil] at this
  omega
 ·subst hend
  rw [List.take_length] at hv ⊢
  refine W.s (.r (.q (.lti (.t rfl) (.t rfl)) rfl (.n (.h (.s ?_))))); refine W.isb 9 false rfl (by exact decide_eq_false (by omega)) ?_; refine W.condF (.t rfl) (.ex (.he (.he (.bh (.h (.s (.r ?_))))))); refine W.call (WBld.c_String b3 p v (keyL l) hp (by have := keyL_len l; omega) hv) ⟨(.t rfl), trivial⟩ (.refl _) rfl ?_
  rintro _ _ ⟨rfl, rfl⟩
  refine W.asg rfl rfl (.n (.h ?_)); refine W.ret ?_; refine W.retn (M' := M0) (D := []) (rs := [.tmp 2]) (avs := [_]) Tryz.results74 ⟨rfl, trivial⟩ rfl (by first | (rw [List.append_nil]; exact .refl _) | simp) ?_
  exact ⟨rfl, rfl⟩
end WKey
end Go.Proofs.YtphlkdbglpcikaaGreatDoor
end
section
namespace Go.Proofs.YtphlkdbglpcikaaGreatDoor
open Go.Vl
open Y
namespace WFmt
theorem c_FormatBool0 (b : Bool) : FnP Tryz.prog 109 [.bool b] (.str (fmtB b)) :=  by
 refine FnC.mk Tryz.func109 (by kernel_rfl) rfl Tryz.ntmps109 rfl (fun w0 F => ?_)
 refine W.s ?_; refine W.r ?_; refine W.q (.assign .k) rfl ?_; refine W.n ?_; refine W.h ?_; refine W.s ?_; refine W.s ?_; refine W.r ?_; refine W.q (.move (.t rfl)) rfl ?_; refine W.n ?_; refine W.h ?_; refine W.cond (.t rfl) (fun hc_t3 => ?_) (fun hc_t3 => ?_)
 ·subst hc_t3
  refine W.s (.r (.q (.assign .k) rfl (.n (.h ?_)))); refine W.ret ?_; refine W.hr ?_; refine W.retn (M' := []) (rs := [.tmp 2]) (avs := [_]) Tryz.results109 ⟨rfl, trivial⟩ rfl (.refl _) ?_
  exact ⟨rfl, rfl⟩
 ·subst hc_t3
  refine W.k (.h (.s (.r (.q (.assign .k) rfl (.n (.h ?_)))))); refine W.ret ?_; refine W.retn (M' := []) (rs := [.tmp 2]) (avs := [_]) Tryz.results109 ⟨rfl, trivial⟩ rfl (.refl _) ?_
  exact ⟨rfl, rfl⟩
theorem c_FormatBool (b : Bool) : FnP Tryz.prog 75 [.bool b] (.str (fmtB b)) :=  by
 refine FnC.mk Tryz.func75 (by kernel_rfl) rfl Tryz.ntmps75 rfl (fun w0 F => ?_)
 refine W.s (.r (.q (.assign .k) rfl (.n (.h (.s (.r (.mv rfl rfl ?_))))))); refine W.callp (c_FormatBool0 b) ⟨(.t rfl), trivial⟩ rfl ?_; refine W.asg rfl rfl (.n (.h ?_)); refine W.ret ?_; refine W.retn (M' := []) (rs := [.tmp 2]) (avs := [_]) Tryz.results75 ⟨rfl, trivial⟩ rfl (.refl _) ?_
 exact ⟨rfl, rfl⟩
end WFmt
end Go.Proofs.YtphlkdbglpcikaaGreatDoor
end
section
namespace Go.Proofs.YtphlkdbglpcikaaGreatDoor
open Go.Vl
open Y
namespace WState
theorem c_state (v : Value) (l : List Int) (f : Bool) (b10 bm b9 b8 : Nat) (vS vN vF : Value) (SL : List Ss) (hl : l.length ≤ 100000) (hl0 : ∀ x ∈ l, 0 ≤ x ∧ x < 100) (hSL : ∀ s ∈ SL, sml s.1) (hSn : SL.length ≤ 100000) : FnC Tryz.prog 70 [.lit v, .bool f, .lit (.pointer (some ⟨b10, 0, none⟩)), .lit (.pointer (some ⟨b9, 0, none⟩)), .lit (.pointer (some ⟨b8, 0, none⟩))] (.arr v 3 1 (l.map AV.int) :: .box b10 138 [.lit (.map (some bm))] :: .obj bm (mObj ((SL.map keyS).map fun s : List UInt8 => Value.string ⟨s.toArray⟩)) :: .box b9 59 [.lit vS] :: .arr vS 22 1 (SL.map fun s : Ss => .sl 1 (s.1.map AV.int)) :: .box b8 99 [.lit vN, .lit vF] :: .arr vF 4 1 (SL.map fun s : Ss => .bool s.2) :: []) (fun r M => ∃ (k : Nat) (vS' vF' : Value) (SL' : List Ss), r = .int (k : Int) ∧ M = (.box b10 138 [.lit (.map (some bm))] :: .obj bm (mObj ((SL'.map keyS).map fun s : List UInt8 => Value.string ⟨s.toArray⟩)) :: .box b9 59 [.lit vS'] :: .arr vS' 22 1 (SL'.map fun s : Ss => .sl 1 (s.1.map AV.int)) :: .box b8 99 [.lit vN, .lit vF'] :: .arr vF' 4 1 (SL'.map fun s : Ss => .bool s.2) :: []) ∧ ((place (norm l, f) SL = some k ∧ SL' = SL) ∨ ((norm l, f) ∉ SL ∧ k = SL.length ∧ SL' = SL ++ [(norm l, f)]))) :=  by
 refine FnC.mk Tryz.func70 (by kernel_rfl) rfl Tryz.ntmps70 rfl (fun w0 F => ?_)
 have hnl := norm_len l
 have hn0 : ∀ x ∈ norm l, 0 ≤ x ∧ x < 100 := fun x hx => hl0 x ((norm_mem l x).1 hx)
 have hsm : sml (norm l) := fun x hx => by have := hn0 x hx; omega
 have hplc : place (keyS (norm l, f)) (SL.map keyS) = place (norm l, f) SL := keyS_place hsm hSL
 have hkl := keyL_len (norm l)
 have hml1 : (SL.map fun s : Ss => AV.sl 1 (s.1.map AV.int)).length = SL.length := List.length_map ..
 have hml2 : (SL.map fun s : Ss => AV.bool s.2).length = SL.length := List.length_map ..
 refine W.s (.r (.q (.assign .k) rfl (.n (.h (.s (.r (.mv rfl rfl ?_))))))); refine W.call (WNorm.c_Values v (l.map AV.int)) ⟨(.t rfl), trivial⟩ (.refl _) rfl ?_
 rintro _ _ ⟨bq, rfl, rfl⟩
 refine W.call (WNorm.c_Sorted bq v l (by omega)) ⟨(.t rfl), trivial⟩ (.refl _) rfl ?_
 rintro _ _ ⟨v13, rfl, rfl⟩
 refine W.call (WNorm.c_Compact v13 (srt l) (srt_asc l) (by rw [srt_len]; omega)) ⟨(.t rfl), trivial⟩ (.refl _) rfl ?_
 rintro _ _ ⟨v14, rfl, rfl⟩
 refine W.asg rfl rfl (.n (.h (.s (.r ?_)))); refine W.freezeA (M1 := .box bq 22 [.lit v] :: .arr v 3 1 (l.map AV.int) :: .box b10 138 [.lit (.map (some bm))] :: .obj bm (mObj ((SL.map keyS).map fun s : List UInt8 => Value.string ⟨s.toArray⟩)) :: .box b9 59 [.lit vS] :: .arr vS 22 1 (SL.map fun s : Ss => .sl 1 (s.1.map AV.int)) :: .box b8 99 [.lit vN, .lit vF] :: .arr vF 4 1 (SL.map fun s : Ss => .bool s.2) :: []) (M2 := .box bq 22 [.lit v] :: .arr v 3 1 (l.map AV.int) :: .box b10 138 [.lit (.map (some bm))] :: .obj bm (mObj ((SL.map keyS).map fun s : List UInt8 => Value.string ⟨s.toArray⟩)) :: .box b9 59 [.lit vS] :: .arr vS 22 1 (SL.map fun s : Ss => .sl 1 (s.1.map AV.int)) :: .box b8 99 [.lit vN, .lit vF] :: .arr vF 4 1 (SL.map fun s : Ss => .bool s.2) :: []) (D := []) (v := v14) (L' := [(0, true, .sl 1 ((norm l).map AV.int))]) (by rw [List.append_nil]; exact .refl _) ⟨⟨_, rfl, .one .hit⟩, trivial⟩ (FrzMs.refl _) ?_; refine W.mv rfl rfl ?_; refine W.call (WKey.c_key (norm l) (by omega) [] (fun n hn => WNorm.c_Itoa0 n (hn0 n hn).1 (hn0 n hn).2 [])) ⟨(.t rfl), trivial⟩ (.refl _) rfl ?_
 rintro _ _ ⟨rfl, rfl⟩
 refine W.q (.move (.t rfl)) rfl ?_; refine W.callp (WFmt.c_FormatBool f) ⟨(.t rfl), trivial⟩ rfl ?_; refine W.q (.cat (.t rfl) (.t rfl) (fun _ => by have : (fmtB f).length ≤ 5 := (by cases f <;> decide); omega)) rfl ?_; refine W.is (t := 19) (av' := .str (keyS (norm l, f))) rfl rfl ?_; refine W.q (.assign (.t rfl)) rfl ?_; refine W.n ?_; refine W.h ?_; refine W.s ?_; refine W.s ?_; refine W.r ?_
 refine W.q (.ldb1 2 (.t rfl) rfl ag138 rfl) rfl (.mv rfl rfl (.q (.look2 3 (.t rfl) rfl (.t rfl) Tryz.underlying138 (KeyKind.str Tryz.underlying9) ty3) rfl ?_))
 refine W.q (.move (.t rfl)) rfl ?_; refine W.q (.extract (.t rfl) rfl) rfl ?_; refine W.q (.extract (.t rfl) rfl) rfl ?_; refine W.q (.assign (.t rfl)) rfl ?_; refine W.q (.assign (.t rfl)) rfl ?_; refine W.n ?_; refine W.h ?_; refine W.s ?_; refine W.r ?_; refine W.q (.move (.t rfl)) rfl ?_; refine W.n ?_; refine W.h ?_; refine W.cond (.t rfl) (fun hc_t26 => ?_) (fun hc_t26 => ?_)
 ·obtain ⟨j, hj⟩ : ∃ j, place (keyS (norm l, f)) (SL.map keyS) = some j := by
   cases hp : place (keyS (norm l, f)) (SL.map keyS) with
   | none => rw [hp] at hc_t26; simp at hc_t26
   | some j => exact ⟨j, rfl⟩
  refine W.s (.r (.mv rfl rfl (.asg rfl rfl (.n (.h ?_))))); refine W.ret ?_; refine W.hr ?_; refine W.retn (M' := (.box b10 138 [.lit (.map (some bm))] :: .obj bm (mObj ((SL.map keyS).map fun s : List UInt8 => Value.string ⟨s.toArray⟩)) :: .box b9 59 [.lit vS] :: .arr vS 22 1 (SL.map fun s : Ss => .sl 1 (s.1.map AV.int)) :: .box b8 99 [.lit vN, .lit vF] :: .arr vF 4 1 (SL.map fun s : Ss => .bool s.2) :: [])) (D := _) (rs := [.tmp 7]) (avs := [_]) Tryz.results70 ⟨rfl, trivial⟩ rfl (List.perm_append_comm (l₁ := [_, _])) ?_
  refine ⟨j, vS, vF, SL, congrArg AV.int (by rw [hj]; rfl), rfl, .inl ⟨by rw [← hplc]; exact hj, rfl⟩⟩
 ·have hnew : keyS (norm l, f) ∉ SL.map keyS := by
   rw [← place_none]
   cases hp : place (keyS (norm l, f)) (SL.map keyS) with
   | none => rfl
   | some j => rw [hp] at hc_t26; simp at hc_t26
  have hnS : (norm l, f) ∉ SL := by rw [← place_none, ← hplc]; exact place_none.2 hnew
  refine W.k (.h (.s (.r (.q (.ldb1 2 (.t rfl) rfl ag138 rfl) rfl (.mv rfl rfl (.q (.ldb1 4 (.t rfl) rfl ag59 rfl) rfl ?_)))))); refine W.q (.lenar (i := 5) (.t rfl) rfl Tryz.underlying59) rfl ?_; refine W.is (t := 31) (av' := .int ((SL.map keyS).length : Int)) rfl (by rw [List.length_map, List.length_map]) ?_; refine W.mapnew 3 (.t rfl) rfl (.t rfl) (.t rfl) Tryz.underlying138 (KeyKind.str Tryz.underlying9) (hnew) _ (.inl rfl) (.n (.h (.s (.r (.q (.ldb1 4 (.t rfl) rfl ag59 rfl) rfl (.mv rfl rfl ?_)))))); refine W.bs (es := [_]) Tryz.underlying59 ty22 ⟨rfl, (.t rfl), rfl, rfl, trivial⟩ rfl (by decide) rfl rfl ?_; refine W.app 5 (.t rfl) rfl (.sl (.t rfl) (by intro e he; rw [List.mem_singleton.1 he]; rfl)) Tryz.underlying59 ni59 ty22 rfl rfl (by rw [hml1]; simp only [List.length_cons, List.length_nil]; omega) rfl ?_
  intro v35; refine W.arr_inv 5 rfl (fun a9 n9 c9 h9 => ?_)
  subst h9
  refine W.stb 4 (.t rfl) (.t rfl) rfl ty59 rfl rfl rfl (.n (.h (.s (.r (.q (.fab (.t rfl) fa99_1) rfl (.q (.ldb1 6 (.t rfl) rfl ag60 rfl) rfl (.mv rfl rfl ?_))))))); refine W.bs (es := [_]) Tryz.underlying60 ty4 ⟨rfl, (.t rfl), rfl, rfl, trivial⟩ rfl (by decide) rfl rfl ?_; refine W.app 7 (.t rfl) rfl (.sl (.t rfl) (by intro e he; rw [List.mem_singleton.1 he]; rfl)) Tryz.underlying60 ni60 ty4 rfl rfl (by rw [hml2]; simp only [List.length_cons, List.length_nil]; omega) rfl ?_
  intro v40
  refine W.q (.fab (.t rfl) fa99_1) rfl ?_
  refine W.arr_inv 7 rfl (fun a8 n8 c8 h8 => ?_)
  subst h8
  refine W.stb 6 (.t rfl) (.t rfl) rfl ty60 rfl rfl rfl (.n (.h (.s (.r (.q (.ldb1 4 (.t rfl) rfl ag59 rfl) rfl ?_))))); refine W.q (.lenar (i := 5) (.t rfl) rfl Tryz.underlying59) rfl ?_; refine W.is (t := 43) (av' := .int ((SL.length : Int) + 1)) rfl (congrArg AV.int (by rw [List.length_append, hml1]; simp only [List.length_cons, List.length_nil]; omega)) ?_; refine W.q (.sub (.t rfl) .k (fun _ => by omega)) rfl ?_; refine W.is (t := 44) (av' := .int (SL.length : Int)) rfl (congrArg AV.int (by omega)) ?_; refine W.asg rfl rfl (.n (.h ?_)); refine W.ret ?_; refine W.retn (M' := (.box b10 138 [.lit (.map (some bm))] :: .obj bm (mObj (((SL ++ [(norm l, f)]).map keyS).map fun s : List UInt8 => Value.string ⟨s.toArray⟩)) :: .box b9 59 [.lit (.slice a9 n9 c9)] :: .arr (.slice a9 n9 c9) 22 1 ((SL ++ [(norm l, f)]).map fun s : Ss => .sl 1 (s.1.map AV.int)) :: .box b8 99 [.lit vN, .lit (.slice a8 n8 c8)] :: .arr (.slice a8 n8 c8) 4 1 ((SL ++ [(norm l, f)]).map fun s : Ss => .bool s.2) :: [])) (D := _) (rs := [.tmp 7]) (avs := [_]) Tryz.results70 ⟨rfl, trivial⟩ rfl (by simp only [List.map_append]; exact List.perm_append_comm (l₁ := [_, _])) ?_
  exact ⟨SL.length, _, _, _, rfl, rfl, .inr ⟨hnS, rfl, rfl⟩⟩
end WState
end Go.Proofs.YtphlkdbglpcikaaGreatDoor
end
section
namespace Go.Proofs.YtphlkdbglpcikaaGreatDoor
open Go.Vl
open Y
namespace WHas
theorem c_IndexA (v : Value) (l : List Nat) (k : Nat) (hl : l.length ≤ 1048577) : FnC Tryz.prog 133 [.lit v, .int (k : Int)] [.arr v 3 1 (l.map natv)] (fun r M => (∃ z : Int, r = .int z ∧ (0 ≤ z ↔ k ∈ l)) ∧ M = [.arr v 3 1 (l.map natv)]) :=  by
 refine FnC.mk Tryz.func133 (by kernel_rfl) rfl Tryz.ntmps133 rfl (fun w0 F => ?_)
 refine W.s (.r (.q (.assign .k) rfl (.n (.h (.s (.s (.r (.mv rfl rfl ?_))))))))
 first | refine W.q (.lensl (.t rfl) Tryz.underlying22) rfl ?_ | refine W.q (.lenar (i := 0) (.t rfl) rfl Tryz.underlying22) rfl ?_ | refine W.q (.lenar (i := 1) (.t rfl) rfl Tryz.underlying22) rfl ?_ | refine W.q (.lenar (i := 2) (.t rfl) rfl Tryz.underlying22) rfl ?_ | refine W.q (.lenar (i := 3) (.t rfl) rfl Tryz.underlying22) rfl ?_
 refine W.q (.move .k) rfl (.n (.h (.b ?_))); refine W.loop (D := []) (ι := Nat) (fun i => [(8, true, .int (i : Int)), (7, true, .int ((l.map natv).length : Int)), (0, true, .lit v), (1, true, .int (k : Int))]) (fun _ => [.arr v 3 1 (l.map natv)]) (fun i => i ≤ l.length ∧ k ∉ l.take i) (fun i => l.length - i) 0 ⟨rfl, rfl, rfl, rfl, trivial⟩ (.refl _) ⟨Nat.zero_le _, by simp⟩ ?_
 rintro i ⟨hi, hni⟩
 dsimp only at hi hni ⊢
 have hml : (l.map natv).length = l.length := List.length_map ..
 rcases (show i < l.length ∨ i = l.length from by omega) with hlt | hend
 ·have hga := getD_mapG natv 0 l i hlt
  refine W.s ?_; refine W.r ?_; refine W.q (.lti (.t rfl) (.t rfl)) rfl ?_; refine W.n ?_; refine W.h ?_; refine W.s ?_; refine W.isb 9 true rfl (by exact decide_eq_true (by omega)) ?_; refine W.condT (.t rfl) ?_; refine W.k ?_; refine W.h ?_; refine W.s ?_; refine W.b ?_; refine W.s ?_; refine W.r ?_; refine W.q (.move (.t rfl)) rfl ?_; refine W.q (.assign (.t rfl)) rfl ?_; refine W.n ?_; refine W.h ?_; refine W.s ?_; refine W.r ?_; refine W.q (.move (.t rfl)) rfl ?_; refine W.q (.move (.t rfl)) rfl ?_; refine W.q (.move (.t rfl)) rfl ?_; refine W.q (.ata 0 (.t rfl) rfl (.t rfl) Tryz.underlying22 ty3 (fun _ => by rw [List.length_map]; omega)) rfl ?_; refine W.q (.lda1 0 i 0 (.t rfl) rfl hga (by omega) rfl rfl rfl ag3) rfl ?_; refine W.q (.eqi (.t rfl) (.t rfl)) rfl ?_; refine W.n ?_; refine W.h ?_; refine W.cond (.t rfl) (fun hc_t16 => ?_) (fun hc_t16 => ?_)
  ·have hk16 : k = l.getD i 0 := by have := eq_of_beq hc_t16; omega
   refine W.s (.r (.mv rfl rfl (.asg rfl rfl (.n (.h ?_))))); refine W.ret ?_; refine W.br (.hr (.hr (.br (.hr ?_)))); refine W.retn (M' := [_]) (D := []) (rs := [.tmp 4]) (avs := [_]) Tryz.results133 ⟨rfl, trivial⟩ rfl (.refl _) ?_
   exact ⟨⟨_, rfl, fun _ => by rw [hk16]; exact getD_memG 0 l i hlt, fun _ => by omega⟩, rfl⟩
  ·have hk16 : k ≠ l.getD i 0 := fun h => by have := beq_eq_false_iff_ne.1 hc_t16; exact this (by rw [← h])
   refine W.k (.bn (.h (.r ?_)))
   first | refine W.q (.add (.t rfl) .k (fun _ => by omega)) rfl ?_ | refine W.q (.addw (.t rfl) .k) rfl ?_
   refine W.q (.move (.t rfl)) rfl ?_; refine W.n ?_; refine W.h ?_; refine W.reach (D := []) (i + 1) ⟨rfl, rfl, rfl, rfl, trivial⟩ (.refl _) ⟨⟨hlt, ?_⟩, by show l.length - (i + 1) < l.length - i; omega⟩
   rw [take_getDG 0 l i hlt, List.mem_append, List.mem_singleton]
   exact fun h => h.elim hni hk16
 ·subst hend
  rw [List.take_length] at hni
  refine W.s (.r (.q (.lti (.t rfl) (.t rfl)) rfl (.n (.h (.s ?_))))); refine W.isb 9 false rfl (by exact decide_eq_false (by omega)) ?_; refine W.condF (.t rfl) (.ex (.he (.he (.bh (.h (.s (.r (.q (.assign .k) rfl (.n (.h ?_)))))))))); refine W.ret ?_; refine W.retn (M' := [_]) (D := []) (rs := [.tmp 4]) (avs := [_]) Tryz.results133 ⟨rfl, trivial⟩ rfl (.refl _) ?_
  exact ⟨⟨-1, rfl, fun h => by omega, fun h => absurd h hni⟩, rfl⟩
theorem c_ContainsA (v : Value) (l : List Nat) (k : Nat) (hl : l.length ≤ 1048577) : FnC Tryz.prog 121 [.lit v, .int (k : Int)] [.arr v 3 1 (l.map natv)] (fun r M => r = .bool (decide (k ∈ l)) ∧ M = [.arr v 3 1 (l.map natv)]) :=  by
 refine FnC.mk Tryz.func121 (by kernel_rfl) rfl Tryz.ntmps121 rfl (fun w0 F => ?_)
 refine W.s (.r (.q (.assign .k) rfl (.n (.h (.s (.r (.mv rfl rfl (.mv rfl rfl ?_)))))))); refine W.call (c_IndexA v l k hl) ⟨(.t rfl), (.t rfl), trivial⟩ (.refl _) rfl ?_
 rintro _ _ ⟨⟨z, rfl, hz⟩, rfl⟩
 refine W.q (.gei (.t rfl) .k) rfl (.asg rfl rfl (.n (.h ?_))); refine W.ret ?_; refine W.retn (M' := [_]) (D := []) (rs := [.tmp 4]) (avs := [_]) Tryz.results121 ⟨rfl, trivial⟩ rfl (.refl _) ?_
 exact ⟨congrArg AV.bool (decide_eq_decide.2 hz), rfl⟩
end WHas
end Go.Proofs.YtphlkdbglpcikaaGreatDoor
end
section
namespace Go.Vl
structure Pk where
 name : List UInt8
 attr : List UInt8
 deep : Bool
namespace Pk
abbrev dfl : Pk := ⟨[], [], false⟩
def fits (p : Pk) (d : Nd) : Bool := !(d.name == [] || (p.name != [] && p.name != d.name)) && (p.attr == [] || d.attrs.any fun a => a.1 == p.attr)
abbrev Fl := Nat → Bool
abbrev row (n : Nat) (f : Fl) : AV := .sl 1 ((List.range n).map fun k => AV.bool (f k))
def ahead (ps : List Pk) (r w : Fl) (k : Nat) : Bool := (k == 0 || ((ps.getD k dfl).deep && w (k - 1))) || (!(ps.getD k dfl).deep && r (k - 1))
def ends (ps : List Pk) (r w : Fl) (d : Nd) (k : Nat) : Bool := ahead ps r w k && fits (ps.getD k dfl) d
def far (ps : List Pk) (r w : Fl) (d : Nd) (k : Nat) : Bool := w k || ends ps r w d k
mutual
def fnd (ps : List Pk) : Nd → List Int → Fl → Fl → List (List Int)
 | .mk n a t q, path, r, w => fnds ps 0 q path r w
def fnds (ps : List Pk) : Nat → List Nd → List Int → Fl → Fl → List (List Int)
 | _, [], _, _, _ => []
 | i, d :: l, path, r, w =>
  (if d.name = [] then [] else (if ends ps r w d (ps.length - 1) then [path ++ [(i : Int)]] else []) ++ fnd ps d (path ++ [(i : Int)]) (ends ps r w d) (far ps r w d)) ++ fnds ps (i + 1) l path r w
end
mutual
def els : Nd → Nat
 | .mk _ _ _ l => elss l
def elss : List Nd → Nat
 | [] => 0
 | d :: l => (if d.name = [] then 0 else 1 + els d) + elss l
end
mutual
def nms (s : List UInt8) : Nd → Nat
 | .mk _ _ _ l => nmss s l
def nmss (s : List UInt8) : List Nd → Nat
 | [] => 0
 | d :: l => (if d.name = [] then 0 else (if d.name = s then 1 else 0) + nms s d) + nmss s l
end
abbrev oddS (s : List UInt8) : Bool := !(s == []) && !(nameOk s)
def odd (p : Pk) : Bool := oddS p.name || oddS p.attr
structure ok (p : Pk) : Prop where
 n : p.name.length ≤ 1000
 a : p.attr.length ≤ 1000
 o : odd p = false
abbrev nn (p : Pk) : Pk := ⟨[], p.attr, p.deep⟩
end Pk
def upto {α : Type} (f : α → α) (l : List α) (i : Nat) : List α := (l.take i).map f ++ l.drop i
section sl
variable {x : Cx} {g : Bool} {L : List (Tmp × Bool × AV)} {M : List ME} {ty T : TypeId} {o1 o2 : Operand}
theorem Ev.takesl {α : Type} {f : α → AV} {l : List α} {n k E bytes : Nat} {z : Value} {c : Int} (h1 : Ov g L o1 (.sl k (l.map f))) (hT : x.P.underlying T = some (.slice E)) (hE : Ty x.P E k bytes z) (h2 : Ov g L o2 (.lit (.int .i64 c))) (hc : c = (n : Int)) (hb : g = true → n ≤ l.length) :
 Ev x g L M (.slice T o1 none (some o2) none) ty (.sl k ((l.take n).map f)) := by
 subst hc
 have h := Ev.subsl (x := x) (M := M) (ty := ty) (lo := none) (hi := some o2) h1 hT hE rfl h2 (fun hg => ⟨Int.le_refl _, by omega, by have := hb hg; rw [List.length_map]; omega⟩)
 simpa [List.map_take] using h
theorem Ev.dropsl {α : Type} {f : α → AV} {l : List α} {n k E bytes : Nat} {z : Value} {c : Int} (h1 : Ov g L o1 (.sl k (l.map f))) (hT : x.P.underlying T = some (.slice E)) (hE : Ty x.P E k bytes z) (h2 : Ov g L o2 (.lit (.int .i64 c))) (hc : c = (n : Int)) (hb : g = true → n ≤ l.length) :
 Ev x g L M (.slice T o1 (some o2) none none) ty (.sl k ((l.drop n).map f)) := by
 subst hc
 have h := Ev.subsl (x := x) (M := M) (ty := ty) (lo := some o2) (hi := none) h1 hT hE h2 rfl (fun hg => ⟨by omega, by have := hb hg; rw [List.length_map]; omega, Int.le_refl _⟩)
 have e : (l.map f).take ((l.map f).length : Int).toNat = l.map f := List.take_of_length_le (by simp)
 rw [e] at h
 simpa [List.map_drop] using h
end sl
end Go.Vl
end
section
namespace Go.Proofs.YtphlkdbglpcikaaGreatDoor
open Go.Vl
open Y
namespace WLink
theorem c_link (b : Nat) (v1 v2 vT vF : Value) (tys : List Int) (R0 : List Rw) (fr to : List Nat) (hfr : ∀ p ∈ fr, p < R0.length) (hnd : ∀ p ∈ fr, ((folOf R0).getD p []).Nodup) (hbd : ∀ p ∈ fr, ∀ q ∈ (folOf R0).getD p [], q < 1048576) (htb : ∀ q ∈ to, q < 1048576) (hR : R0.length ≤ 1048576) (hl1 : fr.length ≤ 1048576) (hl2 : to.length ≤ 1048576) : FnC Tryz.prog 102 [.lit (.pointer (some ⟨b, 0, none⟩)), .lit v1, .lit v2] (.arr v1 3 1 (fr.map natv) :: .arr v2 3 1 (to.map natv) :: .box b 134 [.lit vT, .lit vF, .lit (.slice none 0 0), .lit (.slice none 0 0), .bool false] :: .arr vT 3 1 (tys.map AV.int) :: .arr vF 22 1 (rowsV R0) :: rowsM 3 R0) (fun r M => r = .tup [] ∧ ∃ R, Lnk (folOf R0) (folOf R) fr to ∧ R.length = R0.length ∧ M = .arr v1 3 1 (fr.map natv) :: .arr v2 3 1 (to.map natv) :: .box b 134 [.lit vT, .lit vF, .lit (.slice none 0 0), .lit (.slice none 0 0), .bool false] :: .arr vT 3 1 (tys.map AV.int) :: .arr vF 22 1 (rowsV R) :: rowsM 3 R) :=  by
 refine FnC.mk Tryz.func102 (by kernel_rfl) rfl Tryz.ntmps102 rfl (fun w0 F => ?_)
 have hm1 : (fr.map natv).length = fr.length := List.length_map ..
 have hm2 : (to.map natv).length = to.length := List.length_map ..
 refine W.s (.r (.mv rfl rfl ?_)); refine W.q (.lenar (i := 0) (.t rfl) rfl Tryz.underlying22) rfl ?_; refine W.q (.move .k) rfl (.n (.h (.b ?_))); refine W.loop (D := []) (ι := Nat × List Rw) (fun z => [(12, true, .int (z.1 : Int)), (11, true, .int ((fr.map natv).length : Int)), (10, true, .lit v1), (0, true, .lit (.pointer (some ⟨b, 0, none⟩))), (2, true, .lit v2)]) (fun z => .arr v1 3 1 (fr.map natv) :: .arr v2 3 1 (to.map natv) :: .box b 134 [.lit vT, .lit vF, .lit (.slice none 0 0), .lit (.slice none 0 0), .bool false] :: .arr vT 3 1 (tys.map AV.int) :: .arr vF 22 1 (rowsV z.2) :: rowsM 3 z.2) (fun z => LnkP (folOf R0) (folOf z.2) fr to z.1 0 ∧ z.1 ≤ fr.length ∧ z.2.length = R0.length) (fun z => fr.length - z.1) (0, R0) ⟨rfl, rfl, rfl, rfl, rfl, trivial⟩ (by rw [List.append_nil]) ⟨LnkP.start _ _ _, Nat.zero_le _, rfl⟩ ?_
 rintro ⟨i, R⟩ ⟨hP, hi, hRl⟩
 dsimp only at hP hi hRl ⊢
 rcases (show i < fr.length ∨ i = fr.length from by omega) with hi | hend
 ·have hgp := getD_mapG natv 0 fr i hi
  have hpm := getD_memG 0 fr i hi
  obtain ⟨p, hp0⟩ : ∃ p, p = fr.getD i 0 := ⟨_, rfl⟩
  rw [← hp0] at hgp hpm
  have hpR0 := hfr p hpm
  refine W.s (.r (.q (.lti (.t rfl) (.t rfl)) rfl (.n (.h (.s ?_))))); refine W.isb 13 true rfl (by exact decide_eq_true (by omega)) ?_; refine W.condT (.t rfl) (.k (.h (.s (.b (.s (.r (.q (.ata 0 (.t rfl) rfl (.t rfl) Tryz.underlying22 ty3 (fun _ => by omega)) rfl (.q (.lda1 0 i 0 (.t rfl) rfl hgp (by omega) rfl rfl rfl ag3) rfl (.asg rfl rfl (.n (.h (.s (.r (.mv rfl rfl ?_)))))))))))))); refine W.q (.lenar (i := 1) (.t rfl) rfl Tryz.underlying22) rfl ?_; refine W.q (.move .k) rfl (.n (.h (.b ?_))); refine W.loop (D := []) (ι := Nat × List Rw) (fun z => [(18, true, .int (z.1 : Int)), (17, true, .int ((to.map natv).length : Int)), (16, true, .lit v2), (7, true, .int (p : Int)), (12, true, .int (i : Int)), (11, true, .int ((fr.map natv).length : Int)), (10, true, .lit v1), (0, true, .lit (.pointer (some ⟨b, 0, none⟩))), (2, true, .lit v2)]) (fun z => .arr v1 3 1 (fr.map natv) :: .arr v2 3 1 (to.map natv) :: .box b 134 [.lit vT, .lit vF, .lit (.slice none 0 0), .lit (.slice none 0 0), .bool false] :: .arr vT 3 1 (tys.map AV.int) :: .arr vF 22 1 (rowsV z.2) :: rowsM 3 z.2) (fun z => LnkP (folOf R0) (folOf z.2) fr to i z.1 ∧ z.1 ≤ to.length ∧ z.2.length = R0.length) (fun z => to.length - z.1) (0, R) ⟨rfl, rfl, rfl, rfl, rfl, rfl, rfl, rfl, rfl, trivial⟩ (by rw [List.append_nil]) ⟨hP, Nat.zero_le _, hRl⟩ ?_
  clear hP hRl R
  rintro ⟨j, R⟩ ⟨hP, hj, hRl⟩
  dsimp only at hP hj hRl ⊢
  rcases (show j < to.length ∨ j = to.length from by omega) with hj | hend
  ·have hgk := getD_mapG natv 0 to j hj
   obtain ⟨k, hk0⟩ : ∃ k, k = to.getD j 0 := ⟨_, rfl⟩
   rw [← hk0] at hgk
   have hpR : p < R.length := by omega
   obtain ⟨⟨v, l⟩, hz⟩ : ∃ z, R.getD p (.slice none 0 0, []) = z := ⟨_, rfl⟩
   have hll : l.length ≤ 1048576 := by
    have e : (folOf R).getD p [] = l := by rw [folOf_get, hz]
    have h1 := hP.nodup p (hnd p hpm)
    rw [e] at h1
    refine nodup_len h1 fun q hq => ?_
    rw [← e] at hq
    rcases (hP.mem p q (by rw [folOf_len]; omega)).1 hq with h2 | ⟨_, h2⟩ | ⟨_, _, h2⟩
    ·exact hbd p hpm q h2
    ·exact htb q h2
    ·exact htb q (List.mem_of_mem_take h2)
   refine W.s (.r (.q (.lti (.t rfl) (.t rfl)) rfl (.n (.h (.s ?_))))); refine W.isb 19 true rfl (by exact decide_eq_true (by omega)) ?_; refine W.condT (.t rfl) (.k (.h (.s (.b (.s (.r (.q (.ata 1 (.t rfl) rfl (.t rfl) Tryz.underlying22 ty3 (fun _ => by omega)) rfl (.q (.lda1 1 j 0 (.t rfl) rfl hgk (by omega) rfl rfl rfl ag3) rfl (.asg rfl rfl (.n ?_)))))))))); refine W.perm (rowsM_out 3 R p hpR [_, _, _, _, _]) ?_
   rw [hz]
   dsimp only
   refine W.arr_inv 0 rfl (fun a9 n9 c9 hv9 => ?_)
   subst hv9
   have hgv := rowsV_get R p hpR
   rw [hz] at hgv
   refine W.h (.s (.r (.mv rfl rfl (.q (.nilc (.t rfl)) rfl (.q (.fab (.t rfl) fa134_1) rfl (.q (.ldb1 3 (.t rfl) rfl ag59 rfl) rfl (.mv rfl rfl ?_))))))); refine W.q (.ata 5 (.t rfl) rfl (.t rfl) Tryz.underlying59 ty22 (fun _ => by rw [rowsV_len]; omega)) rfl ?_; refine W.q (.lda1 5 p 0 (.t rfl) rfl hgv (by omega) rfl rfl rfl ag22) rfl (.mv rfl rfl ?_); refine W.call (WHas.c_ContainsA (.slice a9 n9 c9) l k (by omega)) ⟨(.t rfl), (.t rfl), trivial⟩ (.refl _) rfl ?_
   rintro _ _ ⟨rfl, rfl⟩
   refine W.q (.not (.t rfl)) rfl ?_; refine W.n ?_; refine W.h ?_; refine W.cond (.t rfl) (fun hc_t31 => ?_) (fun hc_t31 => ?_)
   ·have hkl : k ∉ l := by simpa using hc_t31
    have hFl : (folOf R).getD p [] = l := by rw [folOf_get, hz]
    refine W.drawnE (ι := Value) (fun ee c => (bif ee 14 then ME.arr c 3 1 (l.map natv ++ [natv k]) else ME.arr (.slice a9 n9 c9) 3 1 (l.map natv)) :: ([.arr v1 3 1 (fr.map natv), .arr v2 3 1 (to.map natv), .box b 134 [.lit vT, .lit vF, .lit (.slice none 0 0), .lit (.slice none 0 0), .bool false], .arr vT 3 1 (tys.map AV.int), .arr vF 22 1 (bif ee 16 then (rowsV R).set p (.lit c) else rowsV R)] ++ (rowsM 3 (R.take p) ++ rowsM 3 (R.drop (p + 1))))) 14 (.slice a9 n9 c9) (by kernel_rfl) (by kernel_rfl) rfl ?_; refine DE.q (fun e c hk => (.move (.t rfl))) rfl (fun _ _ => rfl) (.inr fun _ _ => rfl) (.q (fun e c hk => (.nilc (.t rfl))) rfl (fun _ _ => rfl) (.inr fun _ _ => rfl) (.q (fun e c hk => (.fab (.t rfl) fa134_1)) rfl (fun _ _ => rfl) (.inr fun _ _ => rfl) (.q (fun e c hk => (.ldb1 3 (.t rfl) rfl ag59 rfl)) rfl (fun _ _ => rfl) (.inr fun _ _ => rfl) (.q (fun e c hk => (.move (.t rfl))) rfl (fun _ _ => rfl) (.inr fun _ _ => rfl) (.q (fun e c hk => (.move (.t rfl))) rfl (fun _ _ => rfl) (.inr fun _ _ => rfl) (.q (fun e c hk => (.nilc (.t rfl))) rfl (fun _ _ => rfl) (.inr fun _ _ => rfl) (.q (fun e c hk => (.fab (.t rfl) fa134_1)) rfl (fun _ _ => rfl) (.inr fun _ _ => rfl) (.q (fun e c hk => (.ldb1 3 (.t rfl) rfl ag59 rfl)) rfl (fun _ _ => rfl) (.inr fun _ _ => rfl) ?_))))))))
    refine DE.q (fun e c hk => (.move (.t rfl))) rfl (fun _ _ => rfl) (.inr fun _ _ => rfl) ?_; refine DE.q (av := fun _ => .aptr vF ((p : Int).toNat * 1)) (fun e c hk => by have h := hk.down 16 (by kernel_rfl); simp only [h, cond_false]; exact Ev.ata 5 (.t rfl) rfl (.t rfl) Tryz.underlying59 ty22 (fun _ => by rw [rowsV_len]; omega)) rfl (fun _ _ => rfl) (.inr fun _ _ => rfl) ?_; refine DE.q (av := fun _ => .lit (.slice a9 n9 c9)) (fun e c hk => by have h := hk.down 16 (by kernel_rfl); simp only [h, cond_false]; exact Ev.lda1 5 p 0 (.t rfl) rfl hgv (by omega) rfl rfl rfl ag22) rfl (fun _ _ => rfl) (.inr fun _ _ => rfl) ?_; refine DE.q (fun e c hk => (.move (.t rfl))) rfl (fun _ _ => rfl) (.inr fun _ _ => rfl) ?_; refine DE.bs (es := fun _ => [_]) Tryz.underlying22 ty3 (fun c => ⟨rfl, (.t rfl), rfl, rfl, trivial⟩) (fun _ => rfl) (by decide) rfl rfl (fun _ _ => rfl) (.inr fun _ _ => rfl) ?_; refine DE.eff1 (av := fun v => .lit v) rfl rfl (fun e c hk L_ hs Q h => ?_) ?_
    ·have hk_14 := hk.not
     have hk_16 := hk.down 16 (by kernel_rfl)
     simp only [addE, hk_14, hk_16, Nat.reduceAdd, Nat.reduceEqDiff, ↓reduceIte, cond_true, cond_false] at h ⊢
     ((refine W.app 0 (.t (hs _ _ rfl)) rfl (.sl (.t (hs _ _ rfl)) (by intro e he; rw [List.mem_singleton.1 he]; rfl)) Tryz.underlying22 ni22 ty3 rfl rfl (by rw [List.length_map]; simp only [List.length_cons, List.length_nil]; omega) rfl ?_; exact h))
    refine DE.q (av := fun _ => .aptr vF ((p : Int).toNat * 1)) (fun e c hk => by have h := hk.down 16 (by kernel_rfl); simp only [h, cond_false]; exact Ev.ata 5 (.t rfl) rfl (.t rfl) Tryz.underlying59 ty22 (fun _ => by rw [rowsV_len]; omega)) rfl (fun _ _ => rfl) (.inr fun _ _ => rfl) ?_; refine DE.eff0 (fun e c hk L_ hs Q h => ?_) ?_
    ·have hk_16 := hk.not
     have hk_14 := hk.up 14 (by kernel_rfl)
     simp only [addE, hk_16, hk_14, Nat.reduceAdd, Nat.reduceEqDiff, ↓reduceIte, cond_true, cond_false] at h ⊢
     refine W.arr_inv 0 rfl (fun a8 n8 c8 h8 => ?_)
     subst h8
     refine W.sta 5 p 0 (e := .lit (.slice a9 n9 c9)) (e' := .lit (.slice a8 n8 c8)) (.t (hs _ _ rfl)) (.t (hs _ _ rfl)) rfl hgv (by omega) ty22 rfl rfl rfl rfl rfl rfl rfl ?_
     exact h
    refine DE.nil (fun v46 e_ he_ => ?_)
    simp only [he_ 14 (by decide), he_ 16 (by decide), cond_true, cond_false]
    refine W.bn (.h (.r (.q (.add (.t rfl) .k (fun _ => by omega)) rfl (.mv rfl rfl (.n (.h ?_))))))
    have h9 := hP.add hi hj (by rw [folOf_len, ← hp0, ← hRl]; exact hpR) (by rw [← hp0, hFl, ← hk0]; exact hkl)
    rw [← hp0, ← hk0, hFl, show (folOf R).set p (l ++ [k]) = folOf (R.set p (v46, l ++ [k])) from (folOf_set R p (v46, l ++ [k])).symm] at h9
    refine W.reach (D := []) (j + 1, R.set p (v46, l ++ [k])) ⟨rfl, rfl, rfl, rfl, rfl, rfl, rfl, rfl, rfl, trivial⟩ ?_ ⟨⟨h9, hj, by dsimp only; rw [List.length_set]; exact hRl⟩, by show to.length - (j + 1) < to.length - j; omega⟩
    rw [List.append_nil]
    dsimp only
    rw [← rowsV_set R p (v46, l ++ [k])]
    have h8 := rowsM_in 3 R p (v46, l ++ [k]) hpR [.arr v1 3 1 (fr.map natv), .arr v2 3 1 (to.map natv), .box b 134 [.lit vT, .lit vF, .lit (.slice none 0 0), .lit (.slice none 0 0), .bool false], .arr vT 3 1 (tys.map AV.int), .arr vF 22 1 ((rowsV R).set p (.lit v46))]
    rw [List.map_append] at h8
    exact h8
   ·have hkl : k ∈ l := by simpa using hc_t31
    have hFl : (folOf R).getD p [] = l := by rw [folOf_get, hz]
    refine W.k (.bn (.h (.r (.q (.add (.t rfl) .k (fun _ => by omega)) rfl (.mv rfl rfl (.n (.h ?_)))))))
    have h9 := hP.skip hi hj (by rw [folOf_len, ← hp0, ← hRl]; exact hpR) (by rw [← hp0, hFl, ← hk0]; exact hkl)
    refine W.reach (D := []) (j + 1, R) ⟨rfl, rfl, rfl, rfl, rfl, rfl, rfl, rfl, rfl, trivial⟩ ?_ ⟨⟨h9, hj, hRl⟩, by show to.length - (j + 1) < to.length - j; omega⟩
    rw [List.append_nil]
    dsimp only
    have h8 := (rowsM_out 3 R p hpR [.arr v1 3 1 (fr.map natv), .arr v2 3 1 (to.map natv), .box b 134 [.lit vT, .lit vF, .lit (.slice none 0 0), .lit (.slice none 0 0), .bool false], .arr vT 3 1 (tys.map AV.int), .arr vF 22 1 (rowsV R)]).symm
    rw [hz] at h8
    exact h8
  ·subst hend
   refine W.s (.r (.q (.lti (.t rfl) (.t rfl)) rfl (.n (.h (.s ?_))))); refine W.isb 19 false rfl (by exact decide_eq_false (by omega)) ?_; refine W.condF (.t rfl) (.ex (.he (.he (.bh (.bn (.h (.r (.q (.add (.t rfl) .k (fun _ => by omega)) rfl ?_))))))))
   refine W.q (.move (.t rfl)) rfl ?_; refine W.n ?_; refine W.h ?_; refine W.reach (D := []) (i + 1, R) ⟨rfl, rfl, rfl, rfl, rfl, trivial⟩ (by rw [List.append_nil]) ⟨⟨hP.row hi, hi, hRl⟩, by show fr.length - (i + 1) < fr.length - i; omega⟩
 ·subst hend
  refine W.s (.r (.q (.lti (.t rfl) (.t rfl)) rfl (.n (.h (.s ?_))))); refine W.isb 13 false rfl (by exact decide_eq_false (by omega)) ?_; refine W.condF (.t rfl) (.ex (.he (.he (.bh ?_)))); refine W.endn (M' := (.arr v1 3 1 (fr.map natv) :: .arr v2 3 1 (to.map natv) :: .box b 134 [.lit vT, .lit vF, .lit (.slice none 0 0), .lit (.slice none 0 0), .bool false] :: .arr vT 3 1 (tys.map AV.int) :: .arr vF 22 1 (rowsV R) :: rowsM 3 R)) (D := []) (rs := []) (avs := []) Tryz.results102 trivial rfl (by rw [List.append_nil]) ?_
  exact ⟨rfl, R, hP.done, hRl, rfl⟩
end WLink
end Go.Proofs.YtphlkdbglpcikaaGreatDoor
end
