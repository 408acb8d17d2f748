/-
  Rules for trees, and what drawn trees are like, without a program.
-/
import Derived.Test.YtpjngpegkoohgaaCallG
set_option linter.unusedVariables false
set_option linter.unusedSimpArgs false
namespace Go.Vl
structure Rl where
  name : List UInt8
  act : Int
  to : List UInt8
abbrev rav (r : Rl) : AV := .agg [.str r.name, .int r.act, .str r.to]
namespace Nd
theorem name_mk (n : List UInt8) (a : List Dc) (t : List UInt8) (q : List Nd) : (mk n a t q).name = n := rfl
theorem attrs_mk (n : List UInt8) (a : List Dc) (t : List UInt8) (q : List Nd) : (mk n a t q).attrs = a := rfl
theorem text_mk (n : List UInt8) (a : List Dc) (t : List UInt8) (q : List Nd) : (mk n a t q).text = t := rfl
theorem parts_mk (n : List UInt8) (a : List Dc) (t : List UInt8) (q : List Nd) : (mk n a t q).parts = q := rfl
/-- is the last one a text? (p: where there is none) -/
def lastT (p : Bool) (l : List Nd) : Bool := match l.getLast? with
  | none => p
  | some d => d.name == []
theorem lastT_nil (p : Bool) : lastT p [] = p := rfl
theorem lastT_snoc (p : Bool) (l : List Nd) (d : Nd) : lastT p (l ++ [d]) = (d.name == []) := by simp [lastT]
theorem lastT_at (l : List Nd) (h : 0 < l.length) (p : Bool) : lastT p l = ((l.getD (l.length - 1) dflt).name == []) := by
  rw [lastT, List.getLast?_eq_getElem?, List.getD_eq_getElem?_getD, List.getElem?_eq_getElem (by omega)]; rfl
theorem lastT_cons (p : Bool) (d : Nd) (l : List Nd) : lastT p (d :: l) = lastT (d.name == []) l := by
  rcases List.eq_nil_or_concat l with rfl | ⟨m, e, rfl⟩
  · simp [lastT]
  · rw [List.concat_eq_append, ← List.cons_append, lastT_snoc, lastT_snoc]
mutual
/-- texts are not empty, hold nothing, and do not stand side by side (p: does one stand ahead?); elements have no text -/
def apt : Nd → Bool
  | mk _ _ _ q => apts false q
def apts : Bool → List Nd → Bool
  | _, [] => true
  | p, d :: l => (if d.name = [] then (!(d.text == []) && (d.parts.length == 0 && d.attrs.length == 0)) && !p else (d.text == []) && apt d) && apts (d.name == []) l
end
theorem apt_eq (d : Nd) : apt d = apts false d.parts := by cases d; rfl
def apt1 (p : Bool) (d : Nd) : Bool := if d.name = [] then (!(d.text == []) && (d.parts.length == 0 && d.attrs.length == 0)) && !p else (d.text == []) && apts false d.parts
theorem apts_cons (p : Bool) (d : Nd) (l : List Nd) : apts p (d :: l) = (apt1 p d && apts (d.name == []) l) := by rw [apts, apt_eq]; rfl
theorem apts_append (l m : List Nd) : ∀ p, apts p (l ++ m) = (apts p l && apts (lastT p l) m) := by
  induction l with
  | nil => intro p; rw [List.nil_append, lastT_nil, apts, Bool.true_and]
  | cons d l ih => intro p; rw [List.cons_append, apts_cons, apts_cons, ih, lastT_cons, Bool.and_assoc]
theorem apts_one (p : Bool) (d : Nd) : apts p [d] = apt1 p d := by rw [apts_cons, apts, Bool.and_true]
mutual
/-- all texts, one behind the other -/
def wd : Nd → List UInt8
  | mk _ _ _ q => wds q
def wds : List Nd → List UInt8
  | [] => []
  | d :: l => (d.text ++ wd d) ++ wds l
end
theorem wd_eq (d : Nd) : wd d = wds d.parts := by cases d; rfl
theorem wds_append (l m : List Nd) : wds (l ++ m) = wds l ++ wds m := by
  induction l with
  | nil => rfl
  | cons d l ih => rw [List.cons_append, wds, wds, ih]; simp
theorem wds_one (d : Nd) : wds [d] = d.text ++ wds d.parts := by rw [wds, wds, List.append_nil, wd_eq]
theorem wds_snoc (l : List Nd) (i : Nat) (h : i < l.length) : wds (l.take (i + 1)) = wds (l.take i) ++ ((l.getD i dflt).text ++ wds (l.getD i dflt).parts) := by
  rw [take_getDG dflt l i h, wds_append, wds_one]
mutual
/-- the bytes of all texts, and of all names and values -/
def tsz : Nd → Nat
  | mk _ _ t q => t.length + tszs q
def tszs : List Nd → Nat
  | [] => 0
  | d :: l => tsz d + tszs l
end
theorem tsz_eq (d : Nd) : tsz d = d.text.length + tszs d.parts := by cases d; rfl
theorem tszs_append (l m : List Nd) : tszs (l ++ m) = tszs l + tszs m := by
  induction l with
  | nil => simp [tszs]
  | cons d l ih => rw [List.cons_append, tszs, tszs, ih]; omega
theorem tszs_one (d : Nd) : tszs [d] = tsz d := by simp [tszs]
mutual
theorem wd_len : ∀ d : Nd, d.text.length + (wd d).length = tsz d
  | mk _ _ t q => by have := wds_len q; simp only [wd, tsz, text_mk]; omega
theorem wds_len : ∀ l : List Nd, (wds l).length = tszs l
  | [] => rfl
  | d :: l => by have := wd_len d; have := wds_len l; simp only [wds, tszs, List.length_append]; omega
end
mutual
/-- have all elements one of these names? -/
def onl (ns : List (List UInt8)) : Nd → Bool
  | mk _ _ _ q => onls ns q
def onls (ns : List (List UInt8)) : List Nd → Bool
  | [] => true
  | d :: l => ((d.name == [] || ns.any fun s => d.name == s) && onl ns d) && onls ns l
end
theorem onl_eq (ns : List (List UInt8)) (d : Nd) : onl ns d = onls ns d.parts := by cases d; rfl
theorem onls_append (ns : List (List UInt8)) (l m : List Nd) : onls ns (l ++ m) = (onls ns l && onls ns m) := by
  induction l with
  | nil => rfl
  | cons d l ih => rw [List.cons_append, onls, onls, ih]; simp only [Bool.and_assoc]
theorem onls_one (ns : List (List UInt8)) (d : Nd) : onls ns [d] = ((d.name == [] || ns.any fun s => d.name == s) && onls ns d.parts) := by rw [onls, onls, onl_eq, Bool.and_true]
theorem onls_mem {ns : List (List UInt8)} {l : List Nd} (h : onls ns l = true) : ∀ d ∈ l, (d.name == [] || ns.any fun s => d.name == s) = true ∧ onls ns d.parts = true := by
  induction l with
  | nil => simp
  | cons e l ih =>
    rw [onls, onl_eq, Bool.and_eq_true, Bool.and_eq_true] at h
    intro d hd
    rcases List.mem_cons.1 hd with rfl | hd
    · exact h.1
    · exact ih h.2 d hd
/-- a node behind others; texts side by side are one -/
def jn1 (out : List Nd) (n : Nd) : List Nd :=
  if n.name = [] ∧ lastT false out = true then out.dropLast ++ [mk [] (out.getD (out.length - 1) dflt).attrs ((out.getD (out.length - 1) dflt).text ++ n.text) (out.getD (out.length - 1) dflt).parts] else out ++ [n]
def jn : List Nd → List Nd → List Nd
  | out, [] => out
  | out, n :: more => jn (jn1 out n) more
theorem jn_append (a b : List Nd) : ∀ out, jn out (a ++ b) = jn (jn out a) b := by
  induction a with
  | nil => intro out; rfl
  | cons n a ih => intro out; rw [List.cons_append, jn, jn, ih]
theorem jn_snoc (out l : List Nd) (i : Nat) (h : i < l.length) : jn out (l.take (i + 1)) = jn1 (jn out (l.take i)) (l.getD i dflt) := by
  rw [take_getDG dflt l i h, jn_append]; rfl
theorem lastT_split {out : List Nd} (h : lastT false out = true) : ∃ m e, out = m ++ [e] ∧ e.name = [] ∧ out.dropLast = m ∧ out.getD (out.length - 1) dflt = e := by
  rcases List.eq_nil_or_concat out with rfl | ⟨m, e, rfl⟩
  · simp [lastT] at h
  · rw [List.concat_eq_append] at h ⊢
    rw [lastT_snoc] at h
    refine ⟨m, e, rfl, by simpa using h, by simp, ?_⟩
    rw [List.getD_eq_getElem?_getD]; simp
theorem jn1_wds (out : List Nd) (n : Nd) (ho : apts false out = true) (hn : n.name = [] → n.parts = []) : wds (jn1 out n) = wds out ++ wds [n] := by
  unfold jn1
  split
  · rename_i h
    obtain ⟨m, e, rfl, he, h1, h2⟩ := lastT_split h.2
    rw [apts_append, Bool.and_eq_true, apts_one, apt1, if_pos he] at ho
    have hp : e.parts = [] := by
      have := ho.2; simp only [Bool.and_eq_true, beq_iff_eq] at this
      exact List.eq_nil_of_length_eq_zero this.1.2.1
    rw [h1, h2, wds_append, wds_append, wds_one, wds_one, wds_one, hp, hn h.1]
    simp [text_mk, parts_mk, wds]
  · rw [wds_append]
theorem jn1_apts (out : List Nd) (n : Nd) (ho : apts false out = true) (hn : apt1 false n = true) : apts false (jn1 out n) = true := by
  unfold jn1
  split
  · rename_i h
    obtain ⟨m, e, rfl, he, h1, h2⟩ := lastT_split h.2
    rw [apts_append, Bool.and_eq_true, apts_one] at ho
    rw [h1, h2, apts_append, Bool.and_eq_true, apts_one]
    refine ⟨ho.1, ?_⟩
    have h3 := ho.2
    rw [apt1, if_pos he] at h3
    rw [apt1, if_pos (show name (mk [] e.attrs (e.text ++ n.text) e.parts) = [] from rfl)]
    simp only [Bool.and_eq_true, Bool.not_eq_true', attrs_mk, parts_mk, text_mk] at h3 ⊢
    refine ⟨⟨?_, h3.1.2⟩, h3.2⟩
    cases hx : e.text with
    | nil => rw [hx] at h3; simp at h3
    | cons a b => simp
  · rename_i h
    rw [apts_append, Bool.and_eq_true, apts_one]
    refine ⟨ho, ?_⟩
    rw [apt1] at hn ⊢
    split
    · rename_i h0
      rw [if_pos h0] at hn
      have : lastT false out = false := by
        cases hc : lastT false out with
        | false => rfl
        | true => exact absurd ⟨h0, hc⟩ h
      rw [this]; exact hn
    · rename_i h0; rw [if_neg h0] at hn; exact hn
theorem jn1_onls (ns : List (List UInt8)) (out : List Nd) (n : Nd) (ho : onls ns out = true) (hn : onls ns [n] = true) : onls ns (jn1 out n) = true := by
  unfold jn1
  split
  · rename_i h
    obtain ⟨m, e, rfl, he, h1, h2⟩ := lastT_split h.2
    rw [onls_append, Bool.and_eq_true, onls_one, Bool.and_eq_true] at ho
    rw [h1, h2, onls_append, Bool.and_eq_true, onls_one, Bool.and_eq_true]
    exact ⟨ho.1, by simp [name_mk], ho.2.2⟩
  · rw [onls_append, ho, hn]; rfl
theorem apts_head {p : Bool} {d : Nd} {l : List Nd} (h : apts p (d :: l) = true) : apt1 false d = true ∧ apts false l = true := by
  rw [apts_cons, Bool.and_eq_true] at h
  constructor
  · have h1 := h.1
    rw [apt1] at h1 ⊢
    split
    · rename_i h0; rw [if_pos h0] at h1; simp only [Bool.and_eq_true] at h1 ⊢; exact ⟨h1.1, rfl⟩
    · rename_i h0; rw [if_neg h0] at h1; exact h1
  · cases l with
    | nil => rfl
    | cons e l =>
      have h2 := h.2
      rw [apts_cons, Bool.and_eq_true] at h2 ⊢
      refine ⟨?_, h2.2⟩
      have h1 := h2.1
      rw [apt1] at h1 ⊢
      split
      · rename_i h0; rw [if_pos h0] at h1; simp only [Bool.and_eq_true] at h1 ⊢; exact ⟨h1.1, rfl⟩
      · rename_i h0; rw [if_neg h0] at h1; exact h1
theorem apt1_parts {d : Nd} (h : apt1 false d = true) : d.name = [] → d.parts = [] := by
  intro h0
  rw [apt1, if_pos h0] at h
  simp only [Bool.and_eq_true, beq_iff_eq] at h
  exact List.eq_nil_of_length_eq_zero h.1.2.1
theorem jn_all (ns : List (List UInt8)) : ∀ (more out : List Nd) (p : Bool), apts false out = true → apts p more = true → onls ns out = true → onls ns more = true →
    apts false (jn out more) = true ∧ onls ns (jn out more) = true ∧ wds (jn out more) = wds out ++ wds more
  | [], out, _, ho, _, h3, _ => ⟨ho, h3, by rw [wds, List.append_nil]; rfl⟩
  | n :: more, out, p, ho, hm, h3, h4 => by
    obtain ⟨h1, h2⟩ := apts_head hm
    have h4' : onls ns [n] = true ∧ onls ns more = true := by
      have := onls_append ns [n] more
      rw [List.singleton_append, h4] at this
      rw [← Bool.and_eq_true]; exact this.symm
    obtain ⟨g1, g2, g3⟩ := jn_all ns more (jn1 out n) false (jn1_apts out n ho h1) h2 (jn1_onls ns out n h3 h4'.1) h4'.2
    refine ⟨g1, g2, ?_⟩
    rw [jn, g3, jn1_wds out n ho (apt1_parts h1), wds_one, List.append_assoc]
    rw [show wds (n :: more) = (n.text ++ wds n.parts) ++ wds more from by rw [wds, wd_eq]]
theorem jn1_szs (out : List Nd) (n : Nd) : szs (jn1 out n) ≤ szs out + n.sz := by
  unfold jn1
  split
  · rename_i h
    obtain ⟨m, e, rfl, he, h1, h2⟩ := lastT_split h.2
    rw [h1, h2, szs_append, szs_append, szs_one, szs_one, sz_eq, sz_eq]
    simp only [attrs_mk, parts_mk]; omega
  · rw [szs_append, szs_one]; exact Nat.le_refl _
theorem jn_szs : ∀ (more out : List Nd), szs (jn out more) ≤ szs out + szs more
  | [], out => by simp [jn, szs]
  | n :: more, out => by have h1 := jn_szs more (jn1 out n); have h2 := jn1_szs out n; rw [jn, szs]; omega
theorem jn1_tszs (out : List Nd) (n : Nd) : tszs (jn1 out n) ≤ tszs out + tsz n := by
  unfold jn1
  split
  · rename_i h
    obtain ⟨m, e, rfl, he, h1, h2⟩ := lastT_split h.2
    rw [h1, h2, tszs_append, tszs_append, tszs_one, tszs_one, tsz_eq, tsz_eq, tsz_eq]
    simp only [text_mk, parts_mk, List.length_append]; omega
  · rw [tszs_append, tszs_one]; exact Nat.le_refl _
theorem jn_tszs : ∀ (more out : List Nd), tszs (jn out more) ≤ tszs out + tszs more
  | [], out => by simp [jn, tszs]
  | n :: more, out => by have h1 := jn_tszs more (jn1 out n); have h2 := jn1_tszs out n; rw [jn, tszs]; omega
end Nd
namespace Rl
open Nd
abbrev dfl : Rl := ⟨[], 2, []⟩
/-- what is done with an element of a name -/
def of (rs : List Rl) (nm : List UInt8) : Rl := if 0 ≤ idxI (fun q => q.name == nm) rs then rs.getD (idxI (fun q => q.name == nm) rs).toNat dfl else dfl
def step (rs : List Rl) (out : List Nd) (d : Nd) (sub : List Nd) : List Nd :=
  if d.name = [] then (if d.text = [] then out else jn1 out (Nd.mk [] [] d.text []))
  else if (of rs d.name).act = 1 then out ++ [Nd.mk (of rs d.name).to d.attrs [] sub]
  else if (of rs d.name).act = 2 then jn out sub else out
mutual
def subs (rs : List Rl) : Nd → List Nd
  | .mk _ _ _ q => run rs [] q
def run (rs : List Rl) : List Nd → List Nd → List Nd
  | out, [] => out
  | out, d :: l => run rs (step rs out d (subs rs d)) l
end
theorem subs_eq (rs : List Rl) (d : Nd) : subs rs d = run rs [] d.parts := by cases d; rfl
theorem run_append (rs : List Rl) (l m : List Nd) : ∀ out, run rs out (l ++ m) = run rs (run rs out l) m := by
  induction l with
  | nil => intro out; rfl
  | cons d l ih => intro out; rw [List.cons_append, run, run, ih]
theorem run_snoc (rs : List Rl) (out l : List Nd) (i : Nat) (h : i < l.length) : run rs out (l.take (i + 1)) = step rs (run rs out (l.take i)) (l.getD i dflt) (run rs [] (l.getD i dflt).parts) := by
  rw [take_getDG dflt l i h, run_append, run, run, subs_eq]
theorem of_act (rs : List Rl) (nm : List UInt8) (h : (of rs nm).act = 1) : of rs nm ∈ rs ∧ (of rs nm).name = nm := by
  unfold of at h ⊢
  split
  · rename_i h0
    have h1 := idxI_at (fun q : Rl => q.name == nm) dfl rs h0
    have h2 := idxI_lt (fun q : Rl => q.name == nm) rs
    exact ⟨getD_memG dfl rs _ (by omega), by simpa using h1⟩
  · rename_i h0; rw [if_neg h0] at h; cases h
theorem of_act3 (rs : List Rl) (nm : List UInt8) (h1 : (of rs nm).act ≠ 1) (h2 : (of rs nm).act ≠ 2) : of rs nm ∈ rs := by
  unfold of at h1 h2 ⊢
  split
  · rename_i h0
    have h2 := idxI_lt (fun q : Rl => q.name == nm) rs
    exact getD_memG dfl rs _ (by omega)
  · rename_i h0; rw [if_neg h0] at h1 h2; exact absurd rfl h2
/-- a tree whose texts hold nothing, whose elements have no text -/
theorem run_all (rs : List Rl) (ns : List (List UInt8)) (hns : ∀ r ∈ rs, r.act = 1 → (r.to = [] → False) ∧ r.to ∈ ns) : ∀ (n : Nat) (l out : List Nd), Nd.szs l ≤ n → apts false out = true → onls ns out = true →
    apts false (run rs out l) = true ∧ onls ns (run rs out l) = true
  | n, [], out, _, h1, h2 => ⟨h1, h2⟩
  | 0, d :: l, out, hn, _, _ => by rw [Nd.szs, Nd.sz_eq] at hn; omega
  | n + 1, d :: l, out, hn, h1, h2 => by
    rw [Nd.szs, Nd.sz_eq] at hn
    obtain ⟨g1, g2⟩ := run_all rs ns hns n d.parts [] (by omega) rfl rfl
    rw [run, subs_eq]
    refine run_all rs ns hns n l _ (by omega) ?_ ?_
    · unfold step
      split
      · split
        · exact h1
        · rename_i ht
          refine jn1_apts out _ h1 ?_
          rw [apt1, name_mk, if_pos rfl]; simp [text_mk, parts_mk, attrs_mk, ht]
      · split
        · rename_i ha
          have hto := (hns _ (of_act rs d.name ha).1 ha).1
          rw [apts_append, h1, apts_one, apt1, if_neg (show ¬ Nd.name (Nd.mk (of rs d.name).to d.attrs [] (run rs [] d.parts)) = [] from hto)]
          simp [text_mk, parts_mk, g1]
        · split
          · exact (jn_all ns _ out false h1 g1 h2 g2).1
          · exact h1
    · unfold step
      split
      · split
        · exact h2
        · exact jn1_onls ns out _ h2 (by rw [onls_one]; simp [name_mk, parts_mk, onls])
      · split
        · rename_i ha
          have hto := (hns _ (of_act rs d.name ha).1 ha).2
          rw [onls_append, h2, onls_one]
          simp only [name_mk, parts_mk, g2, Bool.and_true, Bool.true_and, Bool.or_eq_true]
          right
          rw [List.any_eq_true]
          exact ⟨_, hto, by simp⟩
        · split
          · exact (jn_all ns _ out false h1 g1 h2 g2).2.1
          · exact h2
mutual
/-- elements have no text, texts hold nothing -/
def plain : Nd → Prop
  | .mk n a t q => (n = [] → q = [] ∧ a = []) ∧ (n ≠ [] → t = []) ∧ plains q
def plains : List Nd → Prop
  | [] => True
  | d :: l => plain d ∧ plains l
end
theorem plain_eq (d : Nd) : plain d ↔ (d.name = [] → d.parts = [] ∧ d.attrs = []) ∧ (d.name ≠ [] → d.text = []) ∧ plains d.parts := by cases d; rfl
theorem run_wds (rs : List Rl) (ns : List (List UInt8)) (hns : ∀ r ∈ rs, r.act = 1 → (r.to = [] → False) ∧ r.to ∈ ns) : ∀ (n : Nat) (l out : List Nd), Nd.szs l ≤ n → plains l → apts false out = true → onls ns out = true →
    (wds (run rs out l)).length ≤ (wds out).length + (wds l).length ∧ ((∀ r ∈ rs, r.act = 1 ∨ r.act = 2) → wds (run rs out l) = wds out ++ wds l)
  | n, [], out, _, _, h1, h2 => ⟨by simp [run, wds], fun _ => by simp [run, wds]⟩
  | 0, d :: l, out, hn, _, _, _ => by rw [Nd.szs, Nd.sz_eq] at hn; omega
  | n + 1, d :: l, out, hn, hp, h1, h2 => by
    rw [Nd.szs, Nd.sz_eq] at hn
    obtain ⟨hp1, hp2⟩ := hp
    rw [plain_eq] at hp1
    obtain ⟨p1, p2, p3⟩ := hp1
    obtain ⟨g1, g2⟩ := run_all rs ns hns n d.parts [] (by omega) rfl rfl
    obtain ⟨w1, w2⟩ := run_wds rs ns hns n d.parts [] (by omega) p3 rfl rfl
    obtain ⟨s1, s2⟩ := run_all rs ns hns (n + 1) [d] out (by rw [Nd.szs_one, Nd.sz_eq]; omega) h1 h2
    rw [run, run, subs_eq] at s1 s2
    obtain ⟨t1, t2⟩ := run_wds rs ns hns n l (step rs out d (run rs [] d.parts)) (by omega) hp2 s1 s2
    have e0 : wds (d :: l) = (d.text ++ wds d.parts) ++ wds l := by rw [wds, wd_eq]
    have key : (wds (step rs out d (run rs [] d.parts))).length ≤ (wds out).length + (d.text ++ wds d.parts).length ∧ ((∀ r ∈ rs, r.act = 1 ∨ r.act = 2) → wds (step rs out d (run rs [] d.parts)) = wds out ++ (d.text ++ wds d.parts)) := by
      unfold step
      split
      · rename_i hn0
        have hq := (p1 hn0).1
        split
        · rename_i ht; rw [ht, hq]; simp [wds]
        · rw [jn1_wds out _ h1 (fun _ => rfl), wds_one, hq]; simp [text_mk, parts_mk, wds]
      · rename_i hn0
        have ht := p2 hn0
        rw [ht, List.nil_append]
        have wn : (wds ([] : List Nd)) = [] := rfl
        rw [wn, List.nil_append] at w2
        rw [wn, List.length_nil, Nat.zero_add] at w1
        split
        · rw [wds_append, wds_one]
          simp only [text_mk, parts_mk, List.nil_append, List.length_append]
          exact ⟨by omega, fun h => by rw [w2 h]⟩
        · split
          · rw [(jn_all ns _ out false h1 g1 h2 g2).2.2, List.length_append]
            exact ⟨by omega, fun h => by rw [w2 h]⟩
          · rename_i a1 a2
            refine ⟨by omega, fun h => ?_⟩
            rcases h _ (of_act3 rs d.name a1 a2) with h | h
            · exact absurd h a1
            · exact absurd h a2
    rw [run, subs_eq, e0]
    refine ⟨?_, fun h => ?_⟩
    · rw [List.length_append]; omega
    · rw [t2 h, key.2 h]; simp
theorem jn1_none (out : List Nd) (n : Nd) (h : n.name = [] → lastT false out = false) : jn1 out n = out ++ [n] := by
  unfold jn1
  split
  · rename_i h1; rw [h h1.1] at h1; cases h1.2
  · rfl
/-- elements that are kept as they are -/
def kept (rs : List Rl) (nm : List UInt8) : Prop := (of rs nm).act = 1 ∧ (of rs nm).to = nm
mutual
def kp (rs : List Rl) : Nd → Prop
  | .mk n _ _ q => (n ≠ [] → kept rs n) ∧ kps rs q
def kps (rs : List Rl) : List Nd → Prop
  | [] => True
  | d :: l => kp rs d ∧ kps rs l
end
theorem kp_eq (rs : List Rl) (d : Nd) : kp rs d ↔ (d.name ≠ [] → kept rs d.name) ∧ kps rs d.parts := by cases d; rfl
theorem kps_append (rs : List Rl) (l m : List Nd) : kps rs (l ++ m) ↔ kps rs l ∧ kps rs m := by
  induction l with
  | nil => simp [kps]
  | cons d l ih => rw [List.cons_append, kps, kps, ih, and_assoc]
theorem run_same (rs : List Rl) : ∀ (n : Nat) (l out : List Nd), Nd.szs l ≤ n → apts (lastT false out) l = true → kps rs l → run rs out l = out ++ l
  | n, [], out, _, _, _ => by simp [run]
  | 0, d :: l, out, hn, _, _ => by rw [Nd.szs, Nd.sz_eq] at hn; omega
  | n + 1, d :: l, out, hn, ha, hk => by
    rw [Nd.szs, Nd.sz_eq] at hn
    rw [apts_cons, Bool.and_eq_true] at ha
    obtain ⟨hk1, hk2⟩ := hk
    rw [kp_eq] at hk1
    have hs : step rs out d (run rs [] d.parts) = out ++ [d] := by
      have h1 := ha.1
      rw [apt1] at h1
      unfold step
      by_cases h0 : d.name = []
      · rw [if_pos h0] at h1 ⊢
        simp only [Bool.and_eq_true, Bool.not_eq_true', beq_iff_eq, beq_eq_false_iff_ne] at h1
        rw [if_neg h1.1.1, jn1_none _ _ (fun _ => h1.2)]
        cases d with | mk nm a t q =>
        simp only [name_mk] at h0
        simp only [text_mk, parts_mk, attrs_mk] at h1 ⊢
        rw [h0, List.eq_nil_of_length_eq_zero h1.1.2.1, List.eq_nil_of_length_eq_zero h1.1.2.2]
      · rw [if_neg h0] at h1 ⊢
        simp only [Bool.and_eq_true, beq_iff_eq] at h1
        obtain ⟨k1, k2⟩ := hk1.1 h0
        rw [if_pos k1, k2, run_same rs n d.parts [] (by omega) h1.2 hk1.2]
        cases d with | mk nm a t q =>
        simp only [name_mk, text_mk, parts_mk, attrs_mk] at h1 ⊢
        rw [h1.1]; rfl
    rw [run, subs_eq, hs, run_same rs n l (out ++ [d]) (by omega) (by rw [lastT_snoc]; exact ha.2) hk2]
    simp
theorem jn1_kps (rs : List Rl) (out : List Nd) (n : Nd) (ho : kps rs out) (hn : kps rs [n]) : kps rs (jn1 out n) := by
  unfold jn1
  split
  · rename_i h
    obtain ⟨m, e, rfl, he, h1, h2⟩ := lastT_split h.2
    rw [kps_append] at ho
    rw [h1, h2, kps_append]
    refine ⟨ho.1, ?_, trivial⟩
    have := ho.2.1
    rw [kp_eq] at this ⊢
    exact ⟨fun h => absurd rfl h, this.2⟩
  · rw [kps_append]; exact ⟨ho, hn⟩
theorem jn_kps (rs : List Rl) : ∀ (more out : List Nd), kps rs out → kps rs more → kps rs (jn out more)
  | [], out, h, _ => h
  | n :: more, out, h, hm => jn_kps rs more _ (jn1_kps rs out n h ⟨hm.1, trivial⟩) hm.2
theorem run_kps (rs : List Rl) (hk : ∀ r ∈ rs, r.act = 1 → r.to = r.name) : ∀ (n : Nat) (l out : List Nd), Nd.szs l ≤ n → kps rs out → kps rs (run rs out l)
  | n, [], out, _, h => h
  | 0, d :: l, out, hn, _ => by rw [Nd.szs, Nd.sz_eq] at hn; omega
  | n + 1, d :: l, out, hn, h => by
    rw [Nd.szs, Nd.sz_eq] at hn
    have hsub := run_kps rs hk n d.parts [] (by omega) trivial
    rw [run, subs_eq]
    refine run_kps rs hk n l _ (by omega) ?_
    unfold step
    split
    · split
      · exact h
      · exact jn1_kps rs out _ h ⟨(kp_eq rs _).2 ⟨fun h => absurd rfl h, trivial⟩, trivial⟩
    · split
      · rename_i ha
        obtain ⟨h1, h2⟩ := of_act rs d.name ha
        have h3 : (of rs d.name).to = d.name := (hk _ h1 ha).trans h2
        rw [kps_append]
        refine ⟨h, (kp_eq rs _).2 ⟨fun _ => ?_, hsub⟩, trivial⟩
        show kept rs (of rs d.name).to
        rw [h3]; exact ⟨ha, h3⟩
      · split
        · exact jn_kps rs _ _ h hsub
        · exact h
theorem run_szs (rs : List Rl) : ∀ (n : Nat) (l out : List Nd), Nd.szs l ≤ n → Nd.szs (run rs out l) ≤ Nd.szs out + Nd.szs l
  | n, [], out, _ => by simp [run]
  | 0, d :: l, out, hn => by rw [Nd.szs, Nd.sz_eq] at hn; omega
  | n + 1, d :: l, out, hn => by
    have e := Nd.sz_eq d
    rw [Nd.szs] at hn
    have h1 := run_szs rs n d.parts [] (by omega)
    have h2 := run_szs rs n l (step rs out d (run rs [] d.parts)) (by omega)
    have h3 : Nd.szs (step rs out d (run rs [] d.parts)) ≤ Nd.szs out + d.sz := by
      unfold step
      have z : Nd.szs ([] : List Nd) = 0 := rfl
      split
      · split
        · omega
        · have := jn1_szs out (Nd.mk [] [] d.text []); rw [Nd.sz_eq] at this; simp only [attrs_mk, parts_mk, List.length_nil, z] at this; omega
      · split
        · rw [Nd.szs_append, Nd.szs_one, Nd.sz_eq]; simp only [attrs_mk, parts_mk]; omega
        · split
          · have := jn_szs (run rs [] d.parts) out; omega
          · omega
    rw [run, subs_eq, Nd.szs]; omega
theorem run_tszs (rs : List Rl) : ∀ (n : Nat) (l out : List Nd), Nd.szs l ≤ n → Nd.tszs (run rs out l) ≤ Nd.tszs out + Nd.tszs l
  | n, [], out, _ => by simp [run]
  | 0, d :: l, out, hn => by rw [Nd.szs, Nd.sz_eq] at hn; omega
  | n + 1, d :: l, out, hn => by
    have e := Nd.sz_eq d
    have e' := Nd.tsz_eq d
    rw [Nd.szs] at hn
    have h1 := run_tszs rs n d.parts [] (by omega)
    have h2 := run_tszs rs n l (step rs out d (run rs [] d.parts)) (by omega)
    have h3 : Nd.tszs (step rs out d (run rs [] d.parts)) ≤ Nd.tszs out + Nd.tsz d := by
      unfold step
      have z : Nd.tszs ([] : List Nd) = 0 := rfl
      split
      · split
        · omega
        · have := jn1_tszs out (Nd.mk [] [] d.text []); rw [Nd.tsz_eq] at this; simp only [text_mk, parts_mk, z] at this; omega
      · split
        · rw [Nd.tszs_append, Nd.tszs_one, Nd.tsz_eq]; simp only [text_mk, parts_mk, List.length_nil]; omega
        · split
          · have := jn_tszs (run rs [] d.parts) out; omega
          · omega
    rw [run, subs_eq, Nd.tszs]; omega
/-- texts alone: one of them at most -/
theorem only_one {l : List Nd} (h1 : apts false l = true) (h2 : onls [] l = true) : l = [] ∨ ∃ t, t ≠ [] ∧ l = [Nd.mk [] [] t []] := by
  cases l with
  | nil => exact .inl rfl
  | cons d l =>
    right
    have hd := (onls_mem h2 d (by simp)).1
    have h0 : d.name = [] := by simpa using hd
    rw [apts_cons, Bool.and_eq_true, apt1, if_pos h0] at h1
    simp only [Bool.and_eq_true, Bool.not_eq_true', beq_iff_eq, beq_eq_false_iff_ne] at h1
    have hl : l = [] := by
      cases l with
      | nil => rfl
      | cons e l =>
        exfalso
        have he : e.name = [] := by simpa using (onls_mem h2 e (by simp)).1
        have h3 := h1.2
        rw [apts_cons, Bool.and_eq_true, apt1, if_pos he, h0] at h3
        simp at h3
    refine ⟨d.text, h1.1.1.1, ?_⟩
    rw [hl]
    cases d with | mk nm a t q =>
    simp only [name_mk, text_mk, parts_mk, attrs_mk] at *
    rw [h0, List.eq_nil_of_length_eq_zero h1.1.1.2.1, List.eq_nil_of_length_eq_zero h1.1.1.2.2]
/-- texts that stand in no element -/
def outer (l : List Nd) : List UInt8 := l.flatMap text
theorem run_outer (rs : List Rl) (ns : List (List UInt8)) (hns : ∀ r ∈ rs, r.act = 1 → (r.to = [] → False) ∧ r.to ∈ ns) : ∀ (l out : List Nd), plains l → (∀ d ∈ l, d.name ≠ [] → (of rs d.name).act ≠ 1 ∧ (of rs d.name).act ≠ 2) → apts false out = true → onls ns out = true → wds (run rs out l) = wds out ++ outer l
  | [], out, _, _, _, _ => by simp [run, outer]
  | d :: l, out, hp, ha, h1, h2 => by
    obtain ⟨hp1, hp2⟩ := hp
    rw [plain_eq] at hp1
    obtain ⟨s1, s2⟩ := run_all rs ns hns _ [d] out (Nat.le_refl _) h1 h2
    rw [run, run, subs_eq] at s1 s2
    rw [run, subs_eq, run_outer rs ns hns l _ hp2 (fun e he => ha e (by simp [he])) s1 s2]
    have e : wds (step rs out d (run rs [] d.parts)) = wds out ++ d.text := by
      unfold step
      split
      · split
        · rename_i ht; rw [ht, List.append_nil]
        · rw [jn1_wds out _ h1 (fun _ => rfl), wds_one]; simp [text_mk, parts_mk, wds]
      · rename_i h0
        obtain ⟨a1, a2⟩ := ha d (by simp) h0
        rw [if_neg a1, if_neg a2, hp1.2.1 h0, List.append_nil]
    rw [e]; simp [outer]
end Rl
end Go.Vl
