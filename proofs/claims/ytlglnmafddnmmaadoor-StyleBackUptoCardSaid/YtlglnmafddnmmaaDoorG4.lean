/-
  Merged: Rules Drawn WBare WPieces ShelfB Copy Map ArrV Expr ExprL Auto Wid Moore.
-/
import Derived.Test.YtlglnmafddnmmaaDoorG3
import Derived.Below
import Derived.Lib.Join
import Derived.Lib.Overlaps
import Derived.Laws.Externs
import Derived.MapKept

section
set_option linter.unusedVariables false
set_option linter.unusedSimpArgs false
namespace Go.Vl
structure Rl where
  name : List UInt8
  act : Int
  to : List UInt8
abbrev rav (r : Rl) : AV := .agg [.str r.name, .int r.act, .str r.to]
namespace Nd
theorem text_mk (n : List UInt8) (a : List Dc) (t : List UInt8) (q : List Nd) : (mk n a t q).text = t := rfl
/-- is the last one a text? (p: where there is none) -/
def lastT (p : Bool) (l : List Nd) : Bool := match l.getLast? with
  | none => p
  | some d => d.name == []
mutual
/-- texts are not empty, hold nothing, and do not stand side by side (p: does one stand ahead?); elements have no text -/
def apt : Nd → Bool
  | mk _ _ _ q => apts false q
def apts : Bool → List Nd → Bool
  | _, [] => true
  | p, d :: l => (if d.name = [] then (!(d.text == []) && (d.parts.length == 0 && d.attrs.length == 0)) && !p else (d.text == []) && apt d) && apts (d.name == []) l
end
def apt1 (p : Bool) (d : Nd) : Bool := if d.name = [] then (!(d.text == []) && (d.parts.length == 0 && d.attrs.length == 0)) && !p else (d.text == []) && apts false d.parts
mutual
/-- all texts, one behind the other -/
def wd : Nd → List UInt8
  | mk _ _ _ q => wds q
def wds : List Nd → List UInt8
  | [] => []
  | d :: l => (d.text ++ wd d) ++ wds l
end
mutual
/-- the bytes of all texts, and of all names and values -/
def tsz : Nd → Nat
  | mk _ _ t q => t.length + tszs q
def tszs : List Nd → Nat
  | [] => 0
  | d :: l => tsz d + tszs l
end
mutual
theorem wd_len : ∀ d : Nd, d.text.length + (wd d).length = tsz d
  | mk _ _ t q => by have := wds_len q; simp only [wd, tsz, text_mk]; omega
theorem wds_len : ∀ l : List Nd, (wds l).length = tszs l
  | [] => rfl
  | d :: l => by have := wd_len d; have := wds_len l; simp only [wds, tszs, List.length_append]; omega
end
mutual
/-- have all elements one of these names? -/
def onl (ns : List (List UInt8)) : Nd → Bool
  | mk _ _ _ q => onls ns q
def onls (ns : List (List UInt8)) : List Nd → Bool
  | [] => true
  | d :: l => ((d.name == [] || ns.any fun s => d.name == s) && onl ns d) && onls ns l
end
/-- a node behind others; texts side by side are one -/
def jn1 (out : List Nd) (n : Nd) : List Nd :=
  if n.name = [] ∧ lastT false out = true then out.dropLast ++ [mk [] (out.getD (out.length - 1) dflt).attrs ((out.getD (out.length - 1) dflt).text ++ n.text) (out.getD (out.length - 1) dflt).parts] else out ++ [n]
def jn : List Nd → List Nd → List Nd
  | out, [] => out
  | out, n :: more => jn (jn1 out n) more
end Nd
namespace Rl
open Nd
abbrev dfl : Rl := ⟨[], 2, []⟩
/-- what is done with an element of a name -/
def of (rs : List Rl) (nm : List UInt8) : Rl := if 0 ≤ idxI (fun q => q.name == nm) rs then rs.getD (idxI (fun q => q.name == nm) rs).toNat dfl else dfl
def step (rs : List Rl) (out : List Nd) (d : Nd) (sub : List Nd) : List Nd :=
  if d.name = [] then (if d.text = [] then out else jn1 out (Nd.mk [] [] d.text []))
  else if (of rs d.name).act = 1 then out ++ [Nd.mk (of rs d.name).to d.attrs [] sub]
  else if (of rs d.name).act = 2 then jn out sub else out
mutual
def subs (rs : List Rl) : Nd → List Nd
  | .mk _ _ _ q => run rs [] q
def run (rs : List Rl) : List Nd → List Nd → List Nd
  | out, [] => out
  | out, d :: l => run rs (step rs out d (subs rs d)) l
end
theorem subs_eq (rs : List Rl) (d : Nd) : subs rs d = run rs [] d.parts := by cases d; rfl
theorem run_append (rs : List Rl) (l m : List Nd) : ∀ out, run rs out (l ++ m) = run rs (run rs out l) m := by
  induction l with
  | nil => intro out; rfl
  | cons d l ih => intro out; rw [List.cons_append, run, run, ih]
theorem run_snoc (rs : List Rl) (out l : List Nd) (i : Nat) (h : i < l.length) : run rs out (l.take (i + 1)) = step rs (run rs out (l.take i)) (l.getD i dflt) (run rs [] (l.getD i dflt).parts) := by
  rw [take_getDG dflt l i h, run_append, run, run, subs_eq]
mutual
/-- elements have no text, texts hold nothing -/
def plain : Nd → Prop
  | .mk n a t q => (n = [] → q = [] ∧ a = []) ∧ (n ≠ [] → t = []) ∧ plains q
def plains : List Nd → Prop
  | [] => True
  | d :: l => plain d ∧ plains l
end
/-- elements that are kept as_ they are -/
def kept (rs : List Rl) (nm : List UInt8) : Prop := (of rs nm).act = 1 ∧ (of rs nm).to = nm
mutual
def kp (rs : List Rl) : Nd → Prop
  | .mk n _ _ q => (n ≠ [] → kept rs n) ∧ kps rs q
def kps (rs : List Rl) : List Nd → Prop
  | [] => True
  | d :: l => kp rs d ∧ kps rs l
end
/-- texts that stand in no element -/
def outer (l : List Nd) : List UInt8 := l.flatMap text
end Rl
end Go.Vl
end

section
set_option linter.unusedVariables false
set_option linter.unusedSimpArgs false
namespace Go.Vl
namespace Nd
abbrev tx6 : List (List UInt8) := [[120], [97, 60, 98], [38, 97, 109, 112, 59], [121, 32, 122], [32], [60, 112, 62]]
abbrev vd2 : List (List UInt8) := [[98, 114], [105, 109, 103]]
abbrev el6 : List (List UInt8) := [[100, 105, 118], [98], [101, 109], [112], [97], [117, 108]]
abbrev vl5 : List (List UInt8) := [[], [120], [97, 34, 98, 38], [60], [104, 116, 116, 112, 58, 47, 47, 121]]
abbrev href : List UInt8 := [104, 114, 101, 102]
mutual
/-- what is drawn; k: not deeper than so; p: does a text stand ahead? -/
def dr : Nat → Nd → Prop
  | k, mk n a t q => (n = [] ∧ a = [] ∧ t ∈ tx6 ∧ q = []) ∨ (n ∈ vd2 ∧ a = [] ∧ t = [] ∧ q = []) ∨ (n ∈ el6 ∧ (a = [] ∨ ∃ v ∈ vl5, a = [(href, v)]) ∧ t = [] ∧ 2 ≤ k ∧ drs (k - 1) false q ∧ q.length ≤ 4)
def drs : Nat → Bool → List Nd → Prop
  | _, _, [] => True
  | k, p, d :: l => (d.name = [] → p = false) ∧ dr k d ∧ drs k (d.name == []) l
end
end Nd
namespace Rl
/-- rules that may be -/
structure ok (r : Rl) : Prop where
  n : nameOk r.name = true
  nl : r.name.length ≤ 1000
  a1 : 1 ≤ r.act
  a3 : r.act ≤ 3
  t : r.act = 1 → nameOk r.to = true
  tl : r.to.length ≤ 1000
  t0 : r.act ≠ 1 → r.to = []
structure oks (l : List Rl) : Prop where
  len : l.length ≤ 12
  all : ∀ r ∈ l, r.ok
  one : ∀ i, i < l.length → ((l.take i).any fun q => q.name == (l.getD i dfl).name) = false
abbrev nm6 : List (List UInt8) := [[100, 105, 118], [98], [101, 109], [112], [97], [117, 108]]
abbrev nm8 : List (List UInt8) := [[100, 105, 118], [98], [101, 109], [112], [97], [117, 108], [98, 114], [105, 109, 103]]
/-- rules of the first names -/
structure drawn (l : List Rl) : Prop where
  names : l.map (·.name) = nm6.take l.length
  all : ∀ r ∈ l, r.ok
abbrev tn (r : Rl) : Rl := ⟨r.name, r.act, if r.act = 1 then r.name else r.to⟩
/-- all elements left out -/
abbrev lv (l : List (List UInt8)) : List Rl := l.map fun s => ⟨s, 3, []⟩
/-- names that are kept -/
def kn (l : List Rl) : List (List UInt8) := (l.filter fun r => r.act == 1).map (·.to)
end Rl
end Go.Vl
end

section
set_option linter.unusedVariables false
set_option linter.unusedSimpArgs false
set_option maxRecDepth 100000
namespace Go.Proofs.YtlglnmafddnmmaaDoor
open Go.Vl

namespace WBare
theorem ty5 : Ty Tryd.prog 5 1 1 (.int .u8 0) := Ty.of (by kernel_rfl)
theorem ty91 : Ty Tryd.prog 91 1 24 (.slice none 0 0) := Ty.of (by kernel_rfl)
theorem ty93 : Ty Tryd.prog 93 2 32 (.agg #[.pointer none, .slice none 0 0]) := Ty.of (by kernel_rfl)
theorem ag91 : IsAgg Tryd.prog 91 false := ⟨_, Tryd.underlying91, rfl⟩
theorem fa93_1 : FieldAt Tryd.prog 93 1 1 1 false := ⟨_, _, Tryd.underlying93, rfl, rfl, ty91.size, ag91, by decide⟩
theorem c_Write0 (b : Nat) (p : Option Addr) (hp : p = none ∨ p = some ⟨b, 0, none⟩) : FnC Tryd.prog 49 [.lit (.pointer (some ⟨b, 0, none⟩)), .str []] [.box b 93 [.lit (.pointer p), .lit (.slice none 0 0)], .arr (.slice none 0 0) 5 1 []] (fun r M => r = .tup [.int 0, .lit .nilIface] ∧ M = [.box b 93 [.lit (.pointer (some ⟨b, 0, none⟩)), .lit (.slice none 0 0)], .arr (.slice none 0 0) 5 1 []]) :=  by
  refine FnC.mk Tryd.func49 (by kernel_rfl) rfl Tryd.ntmps49 rfl (fun w0 F => ?_)
  refine W.seq ?_
  refine W.region ?_
  refine W.q (Ev.assign .k) rfl ?_
  refine W.q (Ev.assign .k) rfl ?_
  refine W.nil ?_
  refine W.then ?_
  refine W.seq ?_
  refine W.region ?_
  refine W.q (Ev.move (.t rfl)) rfl ?_
  refine W.call (WBld.c_copyCheck b (.slice none 0 0) p hp) ⟨(.t rfl), trivial⟩ (.refl _) rfl ?_
  rintro _ _ ⟨rfl, rfl⟩
  refine W.nil ?_
  refine W.then ?_
  refine W.seq ?_
  refine W.region ?_
  refine W.q (Ev.move (.t rfl)) rfl ?_
  refine W.q (Ev.move (.t rfl)) rfl ?_
  refine W.q (Ev.nilc (.t rfl)) rfl ?_
  (refine W.q (Ev.fab (.t rfl) fa93_1) rfl ?_)
  (refine W.q (Ev.ldb1 0 (.t rfl) rfl ag91 rfl) rfl ?_)
  refine W.q (Ev.move (.t rfl)) rfl ?_
  refine W.q (Ev.app0n (.t rfl) (.t rfl) Tryd.underlying91 Tryd.underlying9 ty5) rfl ?_
  refine W.q (Ev.nilc (.t rfl)) rfl ?_
  (refine W.q (Ev.fab (.t rfl) fa93_1) rfl ?_)
  (refine W.stb 0 (.t rfl) (.t rfl) rfl ty91 rfl rfl rfl ?_)
  refine W.nil ?_
  refine W.then ?_
  refine W.seq ?_
  refine W.region ?_
  refine W.q (Ev.move (.t rfl)) rfl ?_
  refine W.q (Ev.lens (.t rfl) Tryd.underlying9) rfl ?_
  refine W.q (Ev.assign (.t rfl)) rfl ?_
  refine W.q (Ev.assign .k) rfl ?_
  refine W.nil ?_
  refine W.then ?_
  refine W.ret ?_
  refine W.retn (M' := [.box b 93 _, .arr _ 5 1 _]) (rs := [.tmp 4, .tmp 5]) (avs := [_, _]) Tryd.results49 ⟨rfl, rfl, trivial⟩ rfl (.refl _) ?_
  exact ⟨rfl, rfl⟩

theorem c_Write (b : Nat) (p : Option Addr) (v : Value) (l : List UInt8) (hp : p = none ∨ p = some ⟨b, 0, none⟩) (hv : v = .slice none 0 0 ∨ l ≠ []) (s : List UInt8) (hl : l.length + s.length ≤ 17592186044416) : FnC Tryd.prog 49 [.lit (.pointer (some ⟨b, 0, none⟩)), .str s] [.box b 93 [.lit (.pointer p), .lit v], .arr v 5 1 (l.map AV.u8)] (fun r M => r = .tup [.int (s.length : Int), .lit .nilIface] ∧ ∃ v', (v' = .slice none 0 0 ∨ l ++ s ≠ []) ∧ M = [.box b 93 [.lit (.pointer (some ⟨b, 0, none⟩)), .lit v'], .arr v' 5 1 ((l ++ s).map AV.u8)]) := by
  by_cases hs : l ++ s = []
  · obtain ⟨rfl, rfl⟩ := List.append_eq_nil_iff.1 hs
    obtain rfl := hv.resolve_right (fun h => h rfl)
    exact (c_Write0 b p hp).mono fun r M ⟨h1, h2⟩ => ⟨h1, _, .inl rfl, h2⟩
  · exact (WStr.c_WriteString b p v l hp s hl).mono fun r M ⟨h1, v', h2⟩ => ⟨h1, v', .inr hs, h2⟩

theorem c_bare (s0 : List UInt8) (hs0 : s0.length ≤ 1048576) (M0 : List ME) (hC : ∀ s p : List UInt8, s.length ≤ 1048576 → FnC Tryd.prog 33 [.str s, .str p] M0 (fun r M => r = .tup [.str (Lib.cut s p).1, .str (Lib.cut s p).2.1, .bool (Lib.cut s p).2.2] ∧ M = M0)) : FnC Tryd.prog 64 [.str s0] M0 (fun r M => r = .str (Sty.bare s0) ∧ M = M0) :=  by
  refine FnC.mk Tryd.func64 (by kernel_rfl) rfl Tryd.ntmps64 rfl (fun w0 F => ?_)
  refine W.seq ?_
  refine W.region ?_
  refine W.q (Ev.assign .k) rfl ?_
  refine W.nil ?_
  refine W.then ?_
  refine W.seq ?_
  refine W.region ?_
  refine W.alloc ty93 rfl rfl ?_
  intro b3
  refine W.nil ?_
  refine W.then ?_
  refine W.block ?_
  refine W.own_nil 5 1 ?_
  refine W.loop (D := []) (ι := List UInt8 × List UInt8 × Value × Option Addr) (fun z => [(0, true, .str z.1), (3, true, .lit (.pointer (some ⟨b3, 0, none⟩)))]) (fun z => .box b3 93 [.lit (.pointer z.2.2.2), .lit z.2.2.1] :: .arr z.2.2.1 5 1 ((z.2.1).map AV.u8) :: M0) (fun z => Sty.bare s0 = z.2.1 ++ Sty.bare z.1 ∧ z.2.1.length + z.1.length ≤ s0.length ∧ (z.2.2.2 = none ∨ z.2.2.2 = some ⟨b3, 0, none⟩) ∧ (z.2.2.1 = .slice none 0 0 ∨ z.2.1 ≠ [])) (fun z => z.1.length) (s0, [], .slice none 0 0, none) ⟨rfl, rfl, trivial⟩ (by rw [List.append_nil]; exact List.Perm.swap _ _ _) ⟨rfl, by simp, .inl rfl, .inl rfl⟩ ?_
  rintro ⟨s, out, v, p⟩ ⟨hb, hlen, hp, hv⟩
  dsimp only at hb hlen hp hv ⊢
  have hk := Sty.cut_len s [47, 42]
  have hk1 := hk.1
  have hk2 := hk.2.1
  refine W.block ?_
  refine W.seq ?_
  refine W.region ?_
  refine W.q (Ev.move (.t rfl)) rfl ?_
  refine W.call (hC s [47, 42] (by omega)) ⟨(.t rfl), .k, trivial⟩ (List.perm_append_comm (l₁ := [_, _])) rfl ?_
  rintro _ M' ⟨rfl, hM'⟩
  rw [hM']
  refine W.perm (List.perm_append_comm (l₂ := [_, _])) ?_
  refine W.q (Ev.move (.t rfl)) rfl ?_
  refine W.q (Ev.extract (.t rfl) rfl) rfl ?_
  refine W.q (Ev.extract (.t rfl) rfl) rfl ?_
  refine W.q (Ev.extract (.t rfl) rfl) rfl ?_
  refine W.q (Ev.assign (.t rfl)) rfl ?_
  refine W.q (Ev.assign (.t rfl)) rfl ?_
  refine W.q (Ev.assign (.t rfl)) rfl ?_
  refine W.nil ?_
  refine W.then ?_
  refine W.seq ?_
  refine W.region ?_
  refine W.q (Ev.move (.t rfl)) rfl ?_
  refine W.call (c_Write b3 p v (out) hp hv ((Lib.cut s [47, 42]).1) (by omega)) ⟨(.t rfl), (.t rfl), trivial⟩ (.refl _) rfl ?_
  rintro _ _ ⟨rfl, v', hv', rfl⟩
  refine W.nil ?_
  refine W.then ?_
  refine W.seq ?_
  refine W.seq ?_
  refine W.region ?_
  refine W.q (Ev.move (.t rfl)) rfl ?_
  refine W.q (Ev.not (.t rfl)) rfl ?_
  refine W.nil ?_
  refine W.then ?_
  refine W.cond (.t rfl) (fun hc_t16 => ?_) (fun hc_t16 => ?_)
  · have hn : (Lib.cut s [47, 42]).2.2 = false := by simpa using hc_t16
    have hres : Sty.bare s0 = out ++ (Lib.cut s [47, 42]).1 := by rw [hb, Sty.bare_eq s, if_neg (by rw [hn]; decide)]
    refine W.seq ?_
    refine W.region ?_
    refine W.call (WBld.c_String b3 (some ⟨b3, 0, none⟩) v' (out ++ (Lib.cut s [47, 42]).1) (.inr rfl) (by rw [List.length_append]; omega) hv') ⟨(.t rfl), trivial⟩ (.refl _) rfl ?_
    rintro _ _ ⟨rfl, rfl⟩
    refine W.q (Ev.assign (.t rfl)) rfl ?_
    refine W.nil ?_
    refine W.then ?_
    refine W.ret ?_
    refine W.then_ret ?_
    refine W.blk_ret ?_
    refine W.then_ret ?_
    refine W.blk_ret ?_
    refine W.retn (M' := M0) (D := []) (rs := [.tmp 2]) (avs := [_]) Tryd.results64 ⟨rfl, trivial⟩ rfl (by ((rw [List.append_nil]; exact .refl _))) ?_
    exact ⟨congrArg AV.str hres.symm, rfl⟩
  · have hy : (Lib.cut s [47, 42]).2.2 = true := by simpa using hc_t16
    have k1 := hk.2.2 hy
    refine W.skip ?_
    refine W.then ?_
    refine W.seq ?_
    refine W.region ?_
    refine W.q (Ev.move (.t rfl)) rfl ?_
    refine W.call (hC (Lib.cut s [47, 42]).2.1 [42, 47] (by omega)) ⟨(.t rfl), .k, trivial⟩ (List.perm_append_comm (l₁ := [_, _])) rfl ?_
    rintro _ M' ⟨rfl, hM'⟩
    rw [hM']
    refine W.perm (List.perm_append_comm (l₂ := [_, _])) ?_
    refine W.q (Ev.move (.t rfl)) rfl ?_
    refine W.q (Ev.extract (.t rfl) rfl) rfl ?_
    refine W.q (Ev.extract (.t rfl) rfl) rfl ?_
    refine W.q (Ev.extract (.t rfl) rfl) rfl ?_
    refine W.q (Ev.assign (.t rfl)) rfl ?_
    refine W.q (Ev.assign (.t rfl)) rfl ?_
    refine W.nil ?_
    refine W.then ?_
    refine W.seq ?_
    refine W.region ?_
    refine W.q (Ev.move (.t rfl)) rfl ?_
    refine W.q (Ev.not (.t rfl)) rfl ?_
    refine W.nil ?_
    refine W.then ?_
    refine W.cond (.t rfl) (fun hc_t25 => ?_) (fun hc_t25 => ?_)
    · have hn2 : (Lib.cut (Lib.cut s [47, 42]).2.1 [42, 47]).2.2 = false := by simpa using hc_t25
      have hres : Sty.bare s0 = out ++ (Lib.cut s [47, 42]).1 := by rw [hb, Sty.bare_eq s, if_pos hy, if_neg (by rw [hn2]; decide), List.append_nil]
      refine W.seq ?_
      refine W.region ?_
      refine W.call (WBld.c_String b3 (some ⟨b3, 0, none⟩) v' (out ++ (Lib.cut s [47, 42]).1) (.inr rfl) (by rw [List.length_append]; omega) hv') ⟨(.t rfl), trivial⟩ (.refl _) rfl ?_
      rintro _ _ ⟨rfl, rfl⟩
      refine W.q (Ev.assign (.t rfl)) rfl ?_
      refine W.nil ?_
      refine W.then ?_
      refine W.ret ?_
      refine W.blk_ret ?_
      refine W.then_ret ?_
      refine W.blk_ret ?_
      refine W.retn (M' := M0) (D := []) (rs := [.tmp 2]) (avs := [_]) Tryd.results64 ⟨rfl, trivial⟩ rfl (by ((rw [List.append_nil]; exact .refl _))) ?_
      exact ⟨congrArg AV.str hres.symm, rfl⟩
    · have hy2 : (Lib.cut (Lib.cut s [47, 42]).2.1 [42, 47]).2.2 = true := by simpa using hc_t25
      have k2 := (Sty.cut_len (Lib.cut s [47, 42]).2.1 [42, 47]).2.2 hy2
      simp only [List.length_cons, List.length_nil] at k1 k2
      refine W.skip ?_
      refine W.blk_normal ?_
      refine W.then ?_
      refine W.reach (D := []) ((Lib.cut (Lib.cut s [47, 42]).2.1 [42, 47]).2.1, out ++ (Lib.cut s [47, 42]).1, v', some ⟨b3, 0, none⟩) ⟨rfl, rfl, trivial⟩ (by ((rw [List.append_nil]; exact .refl _))) ⟨⟨?_, ?_, .inr rfl, hv'⟩, ?_⟩
      · show Sty.bare s0 = (out ++ (Lib.cut s [47, 42]).1) ++ Sty.bare _; rw [hb, Sty.bare_eq s, if_pos hy, if_pos hy2, List.append_assoc]
      · show (out ++ (Lib.cut s [47, 42]).1).length + (Lib.cut (Lib.cut s [47, 42]).2.1 [42, 47]).2.1.length ≤ s0.length; rw [List.length_append]; omega
      · show List.length (Lib.cut (Lib.cut s [47, 42]).2.1 [42, 47]).2.1 < s.length; omega

end WBare

end Go.Proofs.YtlglnmafddnmmaaDoor
end

section
set_option linter.unusedVariables false
set_option linter.unusedSimpArgs false
set_option maxRecDepth 100000
namespace Go.Proofs.YtlglnmafddnmmaaDoor
open Go.Vl

namespace WPieces
theorem ty9 : Ty Tryd.prog 9 1 16 (.string ⟨#[]⟩) := Ty.of (by kernel_rfl)
theorem ni23 : NotInt Tryd.prog 23 := .inl ⟨_, Tryd.underlying23⟩
theorem c_pieces (s : List UInt8) (hs : s.length ≤ 1048576) : FnP Tryd.prog 63 [.str s] (.sl 1 ((Sty.pieces s).map AV.str)) :=  by
  refine FnC.mk Tryd.func63 (by kernel_rfl) rfl Tryd.ntmps63 rfl (fun w0 F => ?_)
  refine W.seq ?_
  refine W.region ?_
  refine W.q (Ev.assign .k) rfl ?_
  refine W.nil ?_
  refine W.then ?_
  refine W.seq ?_
  refine W.region ?_
  refine W.q (Ev.assign .k) rfl ?_
  refine W.nil ?_
  refine W.then ?_
  refine W.seq ?_
  refine W.region ?_
  refine W.q (Ev.assign .k) rfl ?_
  refine W.q (Ev.assign .k) rfl ?_
  refine W.nil ?_
  refine W.then ?_
  refine W.seq ?_
  refine W.region ?_
  refine W.q (Ev.assign .k) rfl ?_
  refine W.nil ?_
  refine W.then ?_
  refine W.seq ?_
  refine W.seq ?_
  refine W.region ?_
  refine W.q (Ev.move (.t rfl)) rfl ?_
  refine W.q (Ev.lens (.t rfl) Tryd.underlying9) rfl ?_
  refine W.q (Ev.move .k) rfl ?_
  refine W.nil ?_
  refine W.then ?_
  refine W.block ?_
  refine W.own_nil 9 1 ?_
  refine W.loop (D := []) (ι := Nat × Value × Sty.Ps) (fun z => [(11, true, .int (z.1 : Int)), (10, true, .int (s.length : Int)), (3, true, .lit z.2.1), (4, true, .int (z.2.2.fr : Int)), (5, true, .int (z.2.2.dp : Int)), (6, true, AV.u8 z.2.2.qt), (0, true, .str s)]) (fun z => [.arr z.2.1 9 1 (z.2.2.out.map AV.str)]) (fun z => z.1 ≤ s.length ∧ z.2.2 = Sty.pst s z.1) (fun z => s.length - z.1) (0, .slice none 0 0, ⟨0, 0, 0, []⟩) ⟨rfl, rfl, rfl, rfl, rfl, rfl, rfl, trivial⟩ (.refl _) ⟨Nat.zero_le _, rfl⟩ ?_
  rintro ⟨i, v, p⟩ ⟨hi, hp⟩
  dsimp only at hi hp ⊢
  have hok := Sty.pst_ok s i
  rw [← hp] at hok
  obtain ⟨k1, k2, k3, k4⟩ := hok
  rcases (show i < s.length ∨ i = s.length from by omega) with hlt | hend
  · have hsucc : Sty.pst s (i + 1) = Sty.Ps.step s i p := by rw [Sty.pst, ← hp]
    unfold Sty.Ps.step at hsucc
    obtain ⟨c0, hc0⟩ : ∃ c, s.getD i 0 = c := ⟨_, rfl⟩
    rw [hc0] at hsucc
    refine W.seq ?_
    refine W.region ?_
    refine W.q (Ev.lti (.t rfl) (.t rfl)) rfl ?_
    refine W.nil ?_
    refine W.then ?_
    refine W.seq ?_
    refine W.is (t := 12) (g := true) (av' := .lit (.bool true)) rfl (congrArg (fun b => AV.lit (.bool b)) (by exact decide_eq_true (by omega))) ?_
    refine W.condT (.t rfl) ?_
    refine W.skip ?_
    refine W.then ?_
    refine W.seq ?_
    refine W.block ?_
    refine W.seq ?_
    refine W.region ?_
    refine W.q (Ev.move (.t rfl)) rfl ?_
    refine W.q (Ev.assign (.t rfl)) rfl ?_
    refine W.nil ?_
    refine W.then ?_
    refine W.seq ?_
    refine W.region ?_
    refine W.q (Ev.move (.t rfl)) rfl ?_
    refine W.q (Ev.move (.t rfl)) rfl ?_
    refine W.q (Ev.ats' (.t rfl) (.t rfl) Tryd.underlying9 (fun hg => by omega)) rfl ?_
    refine W.is (t := 16) (g := true) (av' := AV.u8 c0) rfl (by rw [show ((i : Int)).toNat = i from by omega, hc0]) ?_
    refine W.q (Ev.assign (.t rfl)) rfl ?_
    refine W.nil ?_
    refine W.then ?_
    refine W.block ?_
    refine W.seq ?_
    refine W.region ?_
    refine W.q (Ev.move (.t rfl)) rfl ?_
    refine W.q (Ev.nei (.t rfl) .k) rfl ?_
    refine W.q (Ev.assign (.t rfl)) rfl ?_
    refine W.nil ?_
    refine W.then ?_
    refine W.cond (.t rfl) (fun hc_t17 => ?_) (fun hc_t17 => ?_)
    · have hq : p.qt ≠ 0 := Sty.u8_ne0 (by simpa using hc_t17)
      rw [if_pos hq] at hsucc
      refine W.seq ?_
      refine W.region ?_
      refine W.q (Ev.move (.t rfl)) rfl ?_
      refine W.q (Ev.move (.t rfl)) rfl ?_
      refine W.q (Ev.eqi (.t rfl) (.t rfl)) rfl ?_
      refine W.nil ?_
      refine W.then ?_
      refine W.cond (.t rfl) (fun hc_t22 => ?_) (fun hc_t22 => ?_)
      · have h2 : c0 = p.qt := Sty.u8_eq (by simpa using hc_t22)
        rw [if_pos h2] at hsucc
        refine W.region ?_
        refine W.q (Ev.assign .k) rfl ?_
        refine W.nil ?_
        refine W.blk_normal ?_
        refine W.blk_normal ?_
        refine W.then ?_
        refine W.region ?_
        (refine W.q (Ev.add (.t rfl) .k (fun _ => by omega)) rfl ?_)
        refine W.q (Ev.move (.t rfl)) rfl ?_
        refine W.nil ?_
        refine W.then ?_
        refine W.reach (D := []) (i + 1, v, { p with qt := 0 }) ⟨rfl, rfl, rfl, rfl, rfl, rfl, rfl, trivial⟩ (by (exact .refl _)) ⟨⟨hlt, hsucc.symm⟩, by show s.length - (i + 1) < s.length - i; omega⟩
      · have h2 : ¬ c0 = p.qt := Sty.u8_neq (by simpa using hc_t22)
        rw [if_neg h2] at hsucc
        refine W.skip ?_
        refine W.blk_normal ?_
        refine W.blk_normal ?_
        refine W.then ?_
        refine W.region ?_
        (refine W.q (Ev.add (.t rfl) .k (fun _ => by omega)) rfl ?_)
        refine W.q (Ev.move (.t rfl)) rfl ?_
        refine W.nil ?_
        refine W.then ?_
        refine W.reach (D := []) (i + 1, v, p) ⟨rfl, rfl, rfl, rfl, rfl, rfl, rfl, trivial⟩ (by (exact .refl _)) ⟨⟨hlt, hsucc.symm⟩, by show s.length - (i + 1) < s.length - i; omega⟩
    · have hq : ¬ p.qt ≠ 0 := Sty.u8_e0 (by simpa using hc_t17)
      rw [if_neg hq] at hsucc
      refine W.seq ?_
      refine W.region ?_
      refine W.q (Ev.move (.t rfl)) rfl ?_
      refine W.q (Ev.eqi (.t rfl) .k) rfl ?_
      refine W.q (Ev.move (.t rfl)) rfl ?_
      refine W.qgF rfl rfl (Ev.move (.t rfl)) rfl ?_
      refine W.qgF rfl rfl (Ev.eqi (.c rfl) .k) rfl ?_
      refine W.q (Ev.or (.t rfl) ⟨_, _, rfl, rfl, by ((simp; done))⟩) rfl ?_
      refine W.q (Ev.assign (.t rfl)) rfl ?_
      refine W.nil ?_
      refine W.then ?_
      refine W.cond (.t rfl) (fun hc_t23 => ?_) (fun hc_t23 => ?_)
      · have h3 : c0 = 34 ∨ c0 = 39 := Sty.u8_or (by simpa using hc_t23)
        rw [if_pos h3] at hsucc
        refine W.region ?_
        refine W.q (Ev.move (.t rfl)) rfl ?_
        refine W.q (Ev.assign (.t rfl)) rfl ?_
        refine W.nil ?_
        refine W.blk_normal ?_
        refine W.blk_normal ?_
        refine W.then ?_
        refine W.region ?_
        (refine W.q (Ev.add (.t rfl) .k (fun _ => by omega)) rfl ?_)
        refine W.q (Ev.move (.t rfl)) rfl ?_
        refine W.nil ?_
        refine W.then ?_
        refine W.reach (D := []) (i + 1, v, { p with qt := c0 }) ⟨rfl, rfl, rfl, rfl, rfl, rfl, rfl, trivial⟩ (by (exact .refl _)) ⟨⟨hlt, hsucc.symm⟩, by show s.length - (i + 1) < s.length - i; omega⟩
      · have h3 : ¬ (c0 = 34 ∨ c0 = 39) := Sty.u8_nor (by simpa using hc_t23)
        rw [if_neg h3] at hsucc
        refine W.seq ?_
        refine W.region ?_
        refine W.q (Ev.move (.t rfl)) rfl ?_
        refine W.q (Ev.eqi (.t rfl) .k) rfl ?_
        refine W.q (Ev.assign (.t rfl)) rfl ?_
        refine W.nil ?_
        refine W.then ?_
        refine W.cond (.t rfl) (fun hc_t31 => ?_) (fun hc_t31 => ?_)
        · have h4 : c0 = 40 := Sty.u8_lit 40 (by decide) (by simpa using hc_t31)
          rw [if_pos h4] at hsucc
          refine W.region ?_
          refine W.q (Ev.move (.t rfl)) rfl ?_
          (refine W.q (Ev.add (.t rfl) .k (fun _ => by omega)) rfl ?_)
          refine W.q (Ev.assign (.t rfl)) rfl ?_
          refine W.nil ?_
          refine W.blk_normal ?_
          refine W.blk_normal ?_
          refine W.then ?_
          refine W.region ?_
          (refine W.q (Ev.add (.t rfl) .k (fun _ => by omega)) rfl ?_)
          refine W.q (Ev.move (.t rfl)) rfl ?_
          refine W.nil ?_
          refine W.then ?_
          refine W.reach (D := []) (i + 1, v, { p with dp := p.dp + 1 }) ⟨rfl, rfl, rfl, rfl, rfl, rfl, rfl, trivial⟩ (by (exact .refl _)) ⟨⟨hlt, hsucc.symm⟩, by show s.length - (i + 1) < s.length - i; omega⟩
        · have h4 : ¬ c0 = 40 := Sty.u8_nlit 40 (by decide) (by simpa using hc_t31)
          rw [if_neg h4] at hsucc
          refine W.seq ?_
          refine W.region ?_
          refine W.q (Ev.move (.t rfl)) rfl ?_
          refine W.q (Ev.eqi (.t rfl) .k) rfl ?_
          refine W.q (Ev.assign (.t rfl)) rfl ?_
          refine W.nil ?_
          refine W.then ?_
          refine W.cond (.t rfl) (fun hc_t36 => ?_) (fun hc_t36 => ?_)
          · have h5 : c0 = 41 := Sty.u8_lit 41 (by decide) (by simpa using hc_t36)
            rw [if_pos h5] at hsucc
            refine W.region ?_
            refine W.q (Ev.move (.t rfl)) rfl ?_
            (refine W.q (Ev.sub (.t rfl) .k (fun _ => by omega)) rfl ?_)
            refine W.q (Ev.max .k (.t rfl)) rfl ?_
            refine W.is (t := 41) (g := true) (av' := .int ((p.dp - 1 : Nat) : Int)) rfl (congrArg AV.int (by split <;> omega)) ?_
            refine W.q (Ev.assign (.t rfl)) rfl ?_
            refine W.nil ?_
            refine W.blk_normal ?_
            refine W.blk_normal ?_
            refine W.then ?_
            refine W.region ?_
            (refine W.q (Ev.add (.t rfl) .k (fun _ => by omega)) rfl ?_)
            refine W.q (Ev.move (.t rfl)) rfl ?_
            refine W.nil ?_
            refine W.then ?_
            refine W.reach (D := []) (i + 1, v, { p with dp := p.dp - 1 }) ⟨rfl, rfl, rfl, rfl, rfl, rfl, rfl, trivial⟩ (by (exact .refl _)) ⟨⟨hlt, hsucc.symm⟩, by show s.length - (i + 1) < s.length - i; omega⟩
          · have h5 : ¬ c0 = 41 := Sty.u8_nlit 41 (by decide) (by simpa using hc_t36)
            rw [if_neg h5] at hsucc
            refine W.seq ?_
            refine W.region ?_
            refine W.q (Ev.move (.t rfl)) rfl ?_
            refine W.q (Ev.eqi (.t rfl) .k) rfl ?_
            refine W.q (Ev.move (.t rfl)) rfl ?_
            refine W.qgT rfl rfl (Ev.move (.t rfl)) rfl ?_
            refine W.qgT rfl rfl (Ev.eqi (.c rfl) .k) rfl ?_
            refine W.q (Ev.and (.t rfl) ⟨_, _, rfl, rfl, by ((simp; done))⟩) rfl ?_
            refine W.q (Ev.assign (.t rfl)) rfl ?_
            refine W.nil ?_
            refine W.then ?_
            refine W.cond (.t rfl) (fun hc_t42 => ?_) (fun hc_t42 => ?_)
            · have h6 : c0 = 59 ∧ p.dp = 0 := Sty.u8_and (by simpa using hc_t42)
              rw [if_pos h6] at hsucc
              refine W.seq ?_
              refine W.region ?_
              refine W.q (Ev.move (.t rfl)) rfl ?_
              refine W.q (Ev.move (.t rfl)) rfl ?_
              refine W.q (Ev.move (.t rfl)) rfl ?_
              refine W.q (Ev.move (.t rfl)) rfl ?_
              refine W.q (Ev.subs (lo := some (.tmp 51)) (hi := some (.tmp 52)) (.t rfl) Tryd.underlying9 (.t rfl) (.t rfl) (fun _ => ⟨by omega, by omega, by omega⟩)) rfl ?_
              refine W.is (t := 53) (g := true) (av' := .str ((s.take i).drop p.fr)) rfl (congrArg AV.str (by simp)) ?_
              refine W.bs (es := [_]) Tryd.underlying23 ty9 ⟨rfl, (.t rfl), rfl, rfl, trivial⟩ rfl (by decide) rfl rfl ?_
              (refine W.app 0 (.t rfl) rfl (.sl (.t rfl) (by intro e he; rw [List.mem_singleton.1 he]; rfl)) Tryd.underlying23 ni23 ty9 rfl rfl (by rw [List.length_map]; simp only [List.length_cons, List.length_nil]; omega) rfl ?_)
              intro v55
              refine W.q (Ev.assign (.t rfl)) rfl ?_
              refine W.nil ?_
              refine W.then ?_
              refine W.region ?_
              refine W.q (Ev.move (.t rfl)) rfl ?_
              (refine W.q (Ev.add (.t rfl) .k (fun _ => by omega)) rfl ?_)
              refine W.q (Ev.assign (.t rfl)) rfl ?_
              refine W.nil ?_
              refine W.blk_normal ?_
              refine W.blk_normal ?_
              refine W.then ?_
              refine W.region ?_
              (refine W.q (Ev.add (.t rfl) .k (fun _ => by omega)) rfl ?_)
              refine W.q (Ev.move (.t rfl)) rfl ?_
              refine W.nil ?_
              refine W.then ?_
              have hmp : p.out.map AV.str ++ [AV.str ((s.take i).drop p.fr)] = (p.out ++ [(s.take i).drop p.fr]).map AV.str := by rw [List.map_append]; rfl
              rw [hmp]
              refine W.reach (D := []) (i + 1, v55, { p with out := p.out ++ [(s.take i).drop p.fr], fr := i + 1 }) ⟨rfl, rfl, rfl, rfl, rfl, rfl, rfl, trivial⟩ (by (exact .refl _)) ⟨⟨hlt, hsucc.symm⟩, by show s.length - (i + 1) < s.length - i; omega⟩
            · have h6 : ¬ (c0 = 59 ∧ p.dp = 0) := Sty.u8_nand (by simpa using hc_t42)
              rw [if_neg h6] at hsucc
              refine W.skip ?_
              refine W.blk_normal ?_
              refine W.blk_normal ?_
              refine W.then ?_
              refine W.region ?_
              (refine W.q (Ev.add (.t rfl) .k (fun _ => by omega)) rfl ?_)
              refine W.q (Ev.move (.t rfl)) rfl ?_
              refine W.nil ?_
              refine W.then ?_
              refine W.reach (D := []) (i + 1, v, p) ⟨rfl, rfl, rfl, rfl, rfl, rfl, rfl, trivial⟩ (by (exact .refl _)) ⟨⟨hlt, hsucc.symm⟩, by show s.length - (i + 1) < s.length - i; omega⟩
  · have hps : (p.out ++ [s.drop p.fr]).map AV.str = (Sty.pieces s).map AV.str := by unfold Sty.pieces; rw [← hend, ← hp]
    refine W.seq ?_
    refine W.region ?_
    refine W.q (Ev.lti (.t rfl) (.t rfl)) rfl ?_
    refine W.nil ?_
    refine W.then ?_
    refine W.seq ?_
    refine W.is (t := 12) (g := true) (av' := .lit (.bool false)) rfl (congrArg (fun b => AV.lit (.bool b)) (by exact decide_eq_false (by omega))) ?_
    refine W.condF (.t rfl) ?_
    refine W.exit ?_
    refine W.then_exit ?_
    refine W.then_exit ?_
    refine W.blk_hit ?_
    refine W.then ?_
    refine W.seq ?_
    refine W.region ?_
    refine W.q (Ev.move (.t rfl)) rfl ?_
    refine W.q (Ev.move (.t rfl)) rfl ?_
    refine W.q (Ev.move (.t rfl)) rfl ?_
    refine W.q (Ev.subs (lo := some (.tmp 61)) (hi := none) (.t rfl) Tryd.underlying9 (.t rfl) rfl (fun _ => ⟨by omega, by omega, by omega⟩)) rfl ?_
    refine W.is (t := 62) (g := true) (av' := .str (s.drop p.fr)) rfl (congrArg AV.str (by simp)) ?_
    refine W.bs (es := [_]) Tryd.underlying23 ty9 ⟨rfl, (.t rfl), rfl, rfl, trivial⟩ rfl (by decide) rfl rfl ?_
    (refine W.app 0 (.t rfl) rfl (.sl (.t rfl) (by intro e he; rw [List.mem_singleton.1 he]; rfl)) Tryd.underlying23 ni23 ty9 rfl rfl (by rw [List.length_map]; simp only [List.length_cons, List.length_nil]; omega) rfl ?_)
    intro v64
    refine W.q (Ev.assign (.t rfl)) rfl ?_
    refine W.nil ?_
    refine W.freezeA (M1 := _) (M2 := _) (D := []) (v := v64) (L' := [(2, true, .sl 1 ((Sty.pieces s).map AV.str))]) (by rw [List.append_nil] <;> exact .refl _) ⟨⟨_, rfl, .one (by rw [← hps, List.map_append]; exact .hit)⟩, trivial⟩ (FrzMs.refl _) ?_
    refine W.then ?_
    refine W.ret ?_
    refine W.retn (M' := []) (D := _) (rs := [.tmp 2]) (avs := [_]) Tryd.results63 ⟨rfl, trivial⟩ rfl (.refl _) ?_
    exact ⟨rfl, rfl⟩

end WPieces

end Go.Proofs.YtlglnmafddnmmaaDoor
end

section
set_option linter.unusedVariables false
set_option linter.unusedSimpArgs false
namespace Go.Vl
open Go.RowKit (Below)
theorem Fr.of_below {w w' : World} (h : Below w.heap.size w w') : Fr w [] w' [] :=
  ⟨h.os, h.tape, h.output, h.size, fun k hk _ => ⟨h.block k hk, by simp⟩⟩
theorem FnP.of_below {P : Program} {f : FuncId} {args : List AV} {r : AV} (hc : CallOk P f)
    (h : ∀ (w : World) (F : List Nat) (vs : List Value), RepT w F args vs → Calls P f vs.toArray w fun e w' => ∃ v, e = .returned v ∧ Rep w' F r v ∧ Below w.heap.size w w') : FnP P f args r :=
  ⟨hc, fun w F vs hF hm ha => (h w F vs (by simpa [bl] using ha)).mono fun e w' ⟨v, he, hr, hb⟩ => ⟨v, r, [], he, ⟨rfl, rfl⟩, MOk.nil w' F, by simpa [bl] using hr, by simpa [bl] using Fr.of_below hb⟩⟩
theorem CallOk.of {P : Program} {f : FuncId} {fn : Func} (h1 : P.funcs[f]? = some fn) (h2 : (fn.name == "runtime.NumGoroutine") = false) (h3 : fn.body.isNone = false) : CallOk P f := ⟨fn, h1, h2, h3⟩
theorem RepE.strs {w : World} {N : List Nat} {l : List (List UInt8)} {row : List Value} (h : RepE w N 1 (l.map AV.str) row) (j : Nat) (x : List UInt8) (hj : l[j]? = some x) : row[j]? = some (.string ⟨x.toArray⟩) := by
  obtain ⟨h1, h2⟩ := RepE.get (i := j) (e := AV.str x) h (by rw [List.getElem?_map, hj]; rfl)
  simp only [RepC, Nat.mul_one] at h2
  have h3 : (List.take 1 (List.drop j row)) = [Value.string ⟨x.toArray⟩] := h2
  have : (List.take 1 (List.drop j row))[0]? = row[j]? := by simp [List.getElem?_take, List.getElem?_drop]
  rw [← this, h3]; rfl
theorem joinP {P : Program} {f : FuncId} (hc : CallOk P f)
    (h0 : ∀ (a : Option Addr) (c : Nat) (sep : ByteArray) (w : World), Calls P f #[.slice a 0 c, .string sep] w fun e w' => e = .returned (.string ⟨#[]⟩) ∧ w' = w)
    (h1 : ∀ (bk o c : Nat) (xs : List ByteArray) (sep : ByteArray) (w : World), (∀ (j : Nat) x, xs[j]? = some x → w.cell? ⟨bk, o + j, none⟩ = some (.string x)) → bk < w.heap.size → xs.length ≤ 140737488355328 → xs.length ≤ c →
      (Lib.join (xs.map (·.data.toList)) sep.data.toList).length ≤ 140737488355328 → Calls P f #[.slice (some ⟨bk, o, none⟩) xs.length c, .string sep] w fun e w' => e = .returned (.string ⟨(Lib.join (xs.map (·.data.toList)) sep.data.toList).toArray⟩) ∧ Below w.heap.size w w')
    (l : List (List UInt8)) (sep : List UInt8) (hl : l.length ≤ 140737488355328) (hj : (Lib.join l sep).length ≤ 140737488355328) : FnP P f [.sl 1 (l.map AV.str), .str sep] (.str (Lib.join l sep)) := by
  refine FnP.of_below hc fun w F vs ha => ?_
  simp only [RepT] at ha
  obtain ⟨v0, _, rfl, ⟨hs0, h2⟩, v1, _, rfl, ⟨hs1, h3⟩, rfl⟩ := ha
  have e1 : v1 = .string ⟨sep.toArray⟩ := Rep.lit_iff.1 (show Rep w F (.str sep) v1 from ⟨hs1, h3⟩)
  subst e1
  obtain ⟨a, cap, rfl, h4, h5, h6⟩ := Rep.sl_inv (show Rep w F (.sl 1 (l.map AV.str)) v0 from ⟨hs0, h2⟩)
  rw [List.length_map] at h4
  rcases h6 with h6 | ⟨b, off, cur, T, fr, rfl, hb, hcur, he⟩
  · obtain rfl : l = [] := by simpa using h6
    refine (h0 a cap ⟨sep.toArray⟩ w).mono fun e w' ⟨e1, e2⟩ => ?_
    subst e2
    exact ⟨_, e1, Rep.lit _, Below.refl _ _⟩
  · have hx : (l.map fun x => (⟨x.toArray⟩ : ByteArray)).map (·.data.toList) = l := by rw [List.map_map]; exact List.map_id' _
    have key := h1 b off cap (l.map fun x => (⟨x.toArray⟩ : ByteArray)) ⟨sep.toArray⟩ w (fun j x hjx => by
      rw [List.getElem?_map] at hjx
      obtain ⟨y, hy, rfl⟩ := Option.map_eq_some_iff.1 hjx
      have := RepE.strs he j y hy
      rw [cell_of hcur]
      rw [List.getElem?_drop, Array.getElem?_toList] at this
      exact this) (heap_lt hcur) (by rw [List.length_map]; exact hl) (by rw [List.length_map]; exact h4) (by rw [hx]; exact hj)
    rw [hx, List.length_map] at key
    rw [List.length_map]
    exact key.mono fun e w' ⟨e1, e2⟩ => ⟨_, e1, Rep.lit _, e2⟩
end Go.Vl
end

section
set_option linter.unusedVariables false
set_option linter.unusedSimpArgs false
set_option linter.unusedSectionVars false
namespace Go.Vl
open Go Go.Sem
section view
variable {x : Cx} {L : List (Tmp × Bool × AV)} {M : List ME} {ops : Array Oper} {Q : Exit → Act → World → Prop} {rest : List Oper} {ty : TypeId} {pos : String} {aft : Array Edge}
/-- a source of sn elements, of which the first are xs -/
def SrcN (P : Program) (w : World) (N : List Nat) (k : Nat) (v : Value) (sn : Nat) (xs : List AV) : Prop :=
  (Builtin.lenOf v).run P w = .ok sn w ∧ xs.length ≤ sn ∧ ∃ news : Array Value, news.size = xs.length * k ∧ RepE w N k xs news.toList ∧ (∀ u ∈ news.toList, shV u = 0) ∧
    ∀ w' : World, w'.heap = w.heap → (Builtin.firstCells k xs.length v).run P w' = .ok news w'
theorem Src.toN {P : Program} {w : World} {N : List Nat} {k sn cap cap' : Nat} {ad : Option Addr} {xs : List AV} (h : Src P w N k (.slice ad xs.length cap) xs) (hs : xs.length ≤ sn) : SrcN P w N k (.slice ad sn cap') sn xs := by
  obtain ⟨_, news, h2, h3, h4, h5⟩ := h
  refine ⟨by simp [Builtin.lenOf], hs, news, h2, h3, h4, fun w' hw => ?_⟩
  have := h5 w' hw
  cases ad <;> simpa only [Builtin.firstCells] using this
theorem SrcN.to {P : Program} {w : World} {N : List Nat} {k : Nat} {v : Value} {xs : List AV} (h : SrcN P w N k v xs.length xs) : Src P w N k v xs := ⟨h.1, h.2.2⟩
/-- an operand that copy may take its elements from -/
def VwOv (x : Cx) (L : List (Tmp × Bool × AV)) (M : List ME) (o : Operand) (k sn : Nat) (xs : List AV) : Prop := ∀ a w, St x L M a w → SrcN x.P w (bl M ++ x.F) k (a.eval o) sn xs
/-- elements of an own row -/
theorem VwOv.own (i : Nat) {o : Operand} {g off n cap p sn c U k : Nat} {ad : Option Addr} {es xs : List AV} (h : Ov true L o (.lit (.slice ad sn c))) (ha : xs = [] ∨ ad = some ⟨g, off + p * k, none⟩) (hM : M[i]? = some (ME.arr (.slice (some ⟨g, off, none⟩) n cap) U k es)) (hx : xs = (es.drop p).take xs.length) (hp : p ≤ es.length) (hq : xs.length ≤ sn) (ho : ∀ e ∈ xs, e.okc = true) : VwOv x L M o k sn xs := by
  intro a w hs
  rw [h.lit rfl hs]
  refine Src.toN (cap := c) ?_ hq
  refine src_cells rfl ho ?_
  obtain ⟨ad, cp, e, h1, h2, h3⟩ := hs.mem.holds _ (List.mem_of_getElem? hM)
  cases e
  rcases h3 with ⟨h3, _⟩ | ⟨g', off', cur, lo, hi, h4, h5, _, _, h6⟩
  · cases h3
  · cases h4
    rcases ha with ha | ha
    · exact .inl ha
    refine .inr ⟨g, _, cur, U, (lo, hi), ha, h5, ?_⟩
    rw [hx, ← List.drop_drop]
    exact (h6.drop p hp).take _
/-- the elements of a box, seen as_ a row of one -/
theorem VwOv.box (i : Nat) {o : Operand} {b c U k : Nat} {cs : List AV} {e : AV} (h : Ov true L o (.lit (.slice (some ⟨b, 0, none⟩) 1 c))) (hM : M[i]? = some (ME.box b U cs)) (hk : cs.length = k) (he : e.cells = cs) (ho : e.okc = true) : VwOv x L M o k 1 [e] := by
  intro a w hs
  rw [h.lit rfl hs]
  refine Src.toN (cap := c) ?_ (by simp)
  refine src_cells rfl (by simpa using ho) (.inr ?_)
  obtain ⟨cur, h1, h2⟩ := hs.mem.holds _ (List.mem_of_getElem? hM)
  refine ⟨b, 0, cur, U, _, rfl, h1, ?_⟩
  have hl := h2.length
  rw [List.drop_zero]
  refine ⟨by omega, RepC.ofL ho ?_, trivial⟩
  rw [List.take_of_length_le (by omega), he]
  exact h2
theorem VwOv.src {o : Operand} {k : Nat} {xs : List AV} (h : SrcOv x L M o k xs) : VwOv x L M o k xs.length xs := fun a w hs => by
  have h1 := h.src hs
  exact ⟨h1.1, Nat.le_refl _, h1.2⟩

theorem run_copy {P : Program} {w : World} {T T' E k bytes : Nat} {z : Value} {g p dn dc lo hi sn : Nat} {cur : Array Value} {U : TypeId} {xv : Value} {N : List Nat} {xs : List AV} (hT : P.underlying T = some (.slice E)) (hE : Ty P E k bytes z)
    (hc : w.heap[g]? = some (.cells cur U (lo, hi))) (hsz : p + xs.length * k ≤ cur.size) (hfr : hi ≤ lo ∨ p + xs.length * k ≤ lo) (hx : SrcN P w N k xv sn xs) (hq : xs.length = Nat.min sn dn) :
    ∃ news : Array Value, news.size = xs.length * k ∧ RepE w N k xs news.toList ∧ (Builtin.copy_ #[T, T'] ty #[.slice (some ⟨g, p, none⟩) dn dc, xv]).run P w =
      .ok (.int .i64 (xs.length : Int)) { w with heap := w.heap.setIfInBounds g (.cells (wr cur p news.toList) U (lo, hi)) } := by
  obtain ⟨hlen, _, news, hn1, hn2, hn3, hn4⟩ := hx
  have hf := hn4 w rfl
  have hst := run_storeCells (P := P) (g := g) (off := p) (T := U) (lo := lo) (hi := hi) news.toList 0 cur w hc (by simp; omega) (by simp; omega) hn3
  refine ⟨news, hn1, hn2, ?_⟩
  rw [Nat.add_zero] at hst
  rw [hq] at hf
  simp only [Builtin.copy_, List.getElem?_toArray, List.getElem?_cons_zero, List.getElem?_cons_succ, Sem.run_bind, run_underlying hT, Result.andThen_ok, hE.size, hlen, hf, hst, Sem.run_pure, goInt, hq]

/-- what a row holds after a write of elements -/
theorem RepE.over {w : World} {N : List Nat} {k j off : Nat} {es xs : List AV} {cur nl : List Value} (h : RepE w N k es (cur.drop off)) (hx : RepE w N k xs nl) (hn : nl.length = xs.length * k) (hj : j ≤ es.length) (hoff : off ≤ cur.length) :
    RepE w N k (es.take j ++ xs ++ es.drop (j + xs.length)) ((cur.take (off + j * k) ++ nl ++ cur.drop (off + j * k + nl.length)).drop off) := by
  have hlen := h.len
  have hjk : j * k ≤ es.length * k := Nat.mul_le_mul_right _ hj
  rw [List.length_drop] at hlen
  have e1 : (cur.take (off + j * k) ++ nl ++ cur.drop (off + j * k + nl.length)).drop off = (cur.drop off).take (j * k) ++ (nl ++ (cur.drop off).drop (j * k + nl.length)) := by
    rw [List.append_assoc, List.drop_append_of_le_length (by rw [List.length_take]; omega), List.drop_take, Nat.add_sub_cancel_left, List.drop_drop, Nat.add_assoc]
  rw [e1]
  have hS : (cur.drop off).length = cur.length - off := List.length_drop ..
  generalize cur.drop off = S at h hS
  have htl : (S.take (j * k)).length = j * k := by rw [List.length_take]; omega
  have hjl : (es.take j).length = j := by rw [List.length_take]; omega
  rw [List.append_assoc]
  refine RepE.append (RepE.congr (h.take j) ?_) ?_
  · rw [hjl, List.take_append_of_le_length (by omega), List.take_take, Nat.min_self]
  · rw [hjl, List.drop_append_of_le_length (by omega), List.drop_of_length_le (l := S.take (j * k)) (by omega), List.nil_append]
    refine RepE.append (RepE.congr hx (by rw [List.take_append_of_le_length (by omega)])) ?_
    rw [List.drop_append_of_le_length (by omega), List.drop_of_length_le (l := nl) (by omega), List.nil_append, hn, ← Nat.add_mul]
    by_cases hle : j + xs.length ≤ es.length
    · exact h.drop _ hle
    · rw [List.drop_of_length_le (by omega)]; simp [RepE]

theorem W.copy (i : Nat) {d : Tmp} {T T' E k bytes : Nat} {z : Value} {o1 o2 : Operand} {g off n cap j dn dc sn U : Nat} {es xs : List AV} (h1 : Ov true L o1 (.lit (.slice (some ⟨g, off + j * k, none⟩) dn dc))) (hM : M[i]? = some (ME.arr (.slice (some ⟨g, off, none⟩) n cap) U k es)) (h2 : VwOv x L M o2 k sn xs)
    (hT : x.P.underlying T = some (.slice E)) (hE : Ty x.P E k bytes z) (hq : xs.length = Nat.min sn dn) (hj : j ≤ es.length) (hc : j + xs.length ≤ cap) {n' : Nat} {es' : List AV} (he' : es' = es.take j ++ xs ++ es.drop (j + xs.length)) (hn' : n' = es'.length) (hd : Nat.blt d x.n = true)
    (next : W x ((d, true, .lit (.int .i64 (xs.length : Int))) :: L) (M.set i (ME.arr (.slice (some ⟨g, off, none⟩) n' cap) U k es')) (wpList x.P ops Q rest)) :
    W x L M (wpList x.P ops Q (⟨some d, .call ⟨.builtin .copy, #[o1, o2], #[T, T']⟩, ty, pos, aft, none⟩ :: rest)) := by
  subst he'
  refine W.opv (ι := Unit) (fun _ => M.set i (ME.arr (.slice (some ⟨g, off, none⟩) n' cap) U k (es.take j ++ xs ++ es.drop (j + xs.length)))) (fun _ => .lit (.int .i64 (xs.length : Int))) hd ?_ (fun _ => next)
  intro a w hs
  have hsrc := h2 a w hs
  have e1 := h1.lit rfl hs
  obtain ⟨ad, cp, e, hlc, hcm, hcase⟩ := hs.mem.holds _ (List.mem_of_getElem? hM)
  cases e
  rcases hcase with ⟨h3, _⟩ | ⟨g', off', cur, lo, hi, h4, hcur, hsz, hfr, hrE⟩
  · cases h3
  cases h4
  have hmul : (j + xs.length) * k ≤ cap * k := Nat.mul_le_mul_right _ hc
  rw [Nat.add_mul] at hmul
  obtain ⟨news, hn1, hn2, hrun⟩ := run_copy (ty := ty) (T' := T') (dc := dc) hT hE hcur (p := off + j * k) (by omega) (by omega) hsrc hq
  have hlt : (es.take j ++ xs ++ es.drop (j + xs.length)).length ≤ cap := by simp only [List.length_append, List.length_take, List.length_drop]; omega
  refine ⟨.int .i64 (xs.length : Int), { w with heap := w.heap.setIfInBounds g (.cells (wr cur (off + j * k) news.toList) U (lo, hi)) }, (), ?_, ?_, Rep.lit _⟩
  · simp only [execOp, resolve, invoke, builtin, Sem.run_bind, Sem.run_pure, Result.andThen_ok, List.map_toArray, List.map_cons, List.map_nil, e1, hrun]
  · refine hs.write hM rfl rfl ?_
    intro w' hother hnew hk'
    have hnl : news.toList.length = xs.length * k := by simpa using hn1
    refine ⟨some ⟨g, off, none⟩, cap, by rw [hn'], hlt, hcm, .inr ⟨g, off, _, lo, hi, rfl, hnew, ?_, hfr, ?_⟩⟩
    · rw [wr_size _ _ _ (by omega)]; exact hsz
    · simp only [wr, List.toList_toArray]
      exact RepE.over (RepE.keep hk' _ _ _ hrE) (RepE.keep hk' _ _ _ hn2) hnl hj (by simp; omega)

/-- an operation whose value nobody keeps -/
theorem W.opn {ι : Type} {op : Op} (Mf : ι → List ME)
    (step : ∀ a w, St x L M a w → ∃ w' v z, (execOp a.eval ⟨none, op, ty, "", #[], none⟩).run x.P w = .ok (.value v) w' ∧ St x L (Mf z) a w')
    (next : ∀ z, W x L (Mf z) (wpList x.P ops Q rest)) : W x L M (wpList x.P ops Q (⟨none, op, ty, pos, aft, none⟩ :: rest)) := by
  intro a w hs
  obtain ⟨w', v, z, hr, hs'⟩ := step a w hs
  refine wpList_cons_want (by simp [Region.wanted]) ?_
  unfold Oper.wp
  rw [execOp_bare, hr]
  exact next z _ _ hs'
/-- what lies behind the elements is cleared -/
theorem W.clear (i : Nat) {T E k bytes : Nat} {z : Value} {o1 : Operand} {g off n cap j m c U : Nat} {es : List AV} (h1 : Ov true L o1 (.lit (.slice (some ⟨g, off + j * k, none⟩) m c))) (hM : M[i]? = some (ME.arr (.slice (some ⟨g, off, none⟩) n cap) U k es))
    (hT : x.P.underlying T = some (.slice E)) (hE : Ty x.P E k bytes z) (hzk : z.cells.size = k) (hz : z.cells.toList.all (fun v => shV v == 0) = true) (hj : es.length ≤ j) (hc : j + m ≤ cap)
    (next : W x L M (wpList x.P ops Q rest)) :
    W x L M (wpList x.P ops Q (⟨none, .call ⟨.builtin .clear, #[o1], #[T]⟩, ty, pos, aft, none⟩ :: rest)) := by
  have hset := set_self hM
  rw [← hset] at next
  refine W.opn (ι := Unit) (fun _ => M.set i (ME.arr (.slice (some ⟨g, off, none⟩) n cap) U k es)) ?_ (fun _ => next)
  intro a w hs
  have e1 := h1.lit rfl hs
  obtain ⟨ad, cp, e, hlc, hcm, hcase⟩ := hs.mem.holds _ (List.mem_of_getElem? hM)
  cases e
  rcases hcase with ⟨h3, _⟩ | ⟨g', off', cur, lo, hi, h4, hcur, hsz, hfr, hrE⟩
  · cases h3
  cases h4
  by_cases hm : m = 0
  · subst hm
    refine ⟨w, .tuple #[], (), ?_, by rw [hset]; exact hs⟩
    simp [execOp, resolve, invoke, builtin, e1, Builtin.clear_, run_underlying hT]
  · have hzs : (Builtin.zeroCells z.cells m).size = m * k := by simp [Builtin.zeroCells, hzk]
    have hmul : (j + m) * k ≤ cap * k := Nat.mul_le_mul_right _ hc
    rw [Nat.add_mul] at hmul
    have hzl : (Builtin.zeroCells z.cells m).toList.length = m * k := by rw [Array.length_toList]; exact hzs
    have hz0 : ∀ u ∈ (Builtin.zeroCells z.cells m).toList, shV u = 0 := by
      intro u hu
      simp only [Builtin.zeroCells, Array.toList_map, List.mem_map] at hu
      obtain ⟨q, hq, rfl⟩ := hu
      have hq' : q < m * z.cells.size := by simpa using hq
      have hpos : 0 < z.cells.size := by rcases Nat.eq_zero_or_pos z.cells.size with h | h; rw [h] at hq'; omega; exact h
      have hlt : q % z.cells.size < z.cells.size := Nat.mod_lt _ hpos
      rw [List.all_eq_true] at hz
      have := hz (z.cells[q % z.cells.size]!) (by rw [Array.mem_toList_iff, getElem!_pos z.cells _ hlt]; exact Array.getElem_mem hlt)
      simpa using this
    have hst := run_storeCells (P := x.P) (g := g) (off := off + j * k) (T := U) (lo := lo) (hi := hi) (Builtin.zeroCells z.cells m).toList 0 cur w hcur (by omega) (by omega) hz0
    rw [Nat.add_zero] at hst
    refine ⟨{ w with heap := w.heap.setIfInBounds g (.cells (wr cur (off + j * k) (Builtin.zeroCells z.cells m).toList) U (lo, hi)) }, .tuple #[], (), ?_, ?_⟩
    · simp only [execOp, resolve, invoke, builtin, Sem.run_bind, Sem.run_pure, Result.andThen_ok, List.map_toArray, List.map_cons, List.map_nil, e1, Builtin.clear_, List.getElem?_toArray, List.getElem?_cons_zero, run_underlying hT]
      cases m with
      | zero => exact absurd rfl hm
      | succ m => simp only [Sem.run_bind, hE.zero, Result.andThen_ok, hst, Sem.run_pure]
    · refine hs.write hM rfl rfl ?_
      intro w' hother hnew hk'
      have hlen := hrE.len
      have hjm : es.length * k ≤ j * k := Nat.mul_le_mul_right _ hj
      refine ⟨some ⟨g, off, none⟩, cap, rfl, hlc, hcm, .inr ⟨g, off, _, lo, hi, rfl, hnew, ?_, hfr, ?_⟩⟩
      · rw [wr_size _ _ _ (by omega)]; exact hsz
      · refine RepE.congr (RepE.keep hk' _ _ _ hrE) ?_
        have hcl : cur.toList.length = cur.size := Array.length_toList
        simp only [wr, List.toList_toArray]
        rw [List.append_assoc, List.drop_append_of_le_length (by simp; omega), List.drop_take, Nat.add_sub_cancel_left, List.take_append_of_le_length (by simp; omega), List.take_take, Nat.min_eq_left hjm]
/-- a zero value as_ an element -/
theorem RepC.zero {w : World} {N : List Nat} {z : Value} {e : AV} (hz : z.cells.toList.all (fun v => shV v == 0) = true) (he : e = match z.cells.toList with | [v] => if shV z == 1 then .agg [.lit v] else .lit v | l => .agg (l.map .lit)) : RepC w N e z.cells.toList := by
  have hL : ∀ l : List Value, l.all (fun v => shV v == 0) = true → RepL w N (l.map .lit) l := by
    intro l
    induction l with
    | nil => intro _; simp [RepL]
    | cons v l ih =>
      intro hz
      simp only [List.all_cons, Bool.and_eq_true, beq_iff_eq] at hz
      simp only [List.map_cons, RepL]
      exact ⟨v, l, rfl, ⟨hz.1, hz.1, by simp only [RepC, cells_of_sh hz.1]⟩, ih hz.2⟩
  subst he
  have := hL _ hz
  revert this hz
  generalize z.cells.toList = l
  intro hz this
  match l with
  | [] => simpa [RepC] using this
  | [v] =>
    simp only [List.all_cons, List.all_nil, Bool.and_true, beq_iff_eq] at hz
    dsimp only
    split
    · simpa only [RepC, List.map_cons, List.map_nil] using this
    · simp only [RepC, cells_of_sh hz]
  | u :: v :: l => simpa only [RepC] using this
end view
end Go.Vl
end

section
set_option linter.unusedVariables false
set_option linter.unusedSimpArgs false
set_option linter.unusedSectionVars false
namespace Go.Vl
/-- the entries of such a map -/
def mEnts : Nat → List Value → List MapEntry
  | _, [] => []
  | i, k :: ks => ⟨k, .int .i64 (i : Int), i⟩ :: mEnts (i + 1) ks
def mObj (ks : List Value) : Obj := .map (mEnts 0 ks).toArray ks.length
/-- where a key stands among others -/
def place {α : Type} [DecidableEq α] (k : α) : List α → Option Nat
  | [] => none
  | q :: ks => if k = q then some 0 else (place k ks).map (· + 1)
/-- a kind of keys that the model finds at once -/
structure KeyKind (P : Program) (K : TypeId) {α : Type} [DecidableEq α] (f : α → Value) : Prop where
  check : ∀ (e : Bool) (k : α) (w : World), (Instr.checkKey e 10000 K (f k)).run P w = .ok () w
  find : ∀ (k : α) (ks : List α) (w : World), (Instr.findKey K (f k) (mEnts 0 (ks.map f))).run P w = .ok ((place k ks).map fun i => (i, .int .i64 (i : Int))) w
theorem findNow_place {α : Type} [DecidableEq α] {f : α → Value} {d : TypeDesc} (hs : ∀ a b : α, Instr.sameNow d (f a) (f b) = some (decide (a = b))) (k : α) :
    ∀ (ks : List α) (i : Nat), Instr.findNow d (f k) (mEnts i (ks.map f)) i = some ((place k ks).map fun j => (i + j, .int .i64 ((i + j : Nat) : Int)))
  | [], i => rfl
  | q :: ks, i => by
    rw [List.map_cons, mEnts, Instr.findNow, hs, place]
    by_cases h : k = q
    · rw [if_pos h, decide_eq_true h]; rfl
    · rw [if_neg h, decide_eq_false h]
      show Instr.findNow d (f k) (mEnts (i + 1) (ks.map f)) (i + 1) = _
      rw [findNow_place hs k ks (i + 1), Option.map_map]
      congr 2
      funext j
      show (i + 1 + j, Value.int .i64 ((i + 1 + j : Nat) : Int)) = (i + (j + 1), Value.int .i64 ((i + (j + 1) : Nat) : Int))
      rw [show i + 1 + j = i + (j + 1) from by omega]
theorem KeyKind.str {P : Program} {K : TypeId} (hK : P.underlying K = some .string) : KeyKind P K (fun s : List UInt8 => Value.string ⟨s.toArray⟩) := by
  refine ⟨fun e k w => ?_, fun k ks w => ?_⟩
  · exact Go.MapKept.run_checkKey hK (by trivial) e 9999
  · have h := findNow_place (d := .string) (f := fun s : List UInt8 => Value.string ⟨s.toArray⟩) (fun a b => by
      show some ((⟨a.toArray⟩ : ByteArray) == ⟨b.toArray⟩) = _
      congr 1
      show (a.toArray == b.toArray) = _
      by_cases h : a = b
      · subst h; simp
      · rw [decide_eq_false h]
        exact beq_eq_false_iff_ne.2 fun h' => h (by simpa using congrArg Array.toList h')) k ks 0
    simp only [Instr.findKey, Sem.run_bind, run_underlying hK, Result.andThen_ok, h, Sem.run_pure]
    simp
theorem KeyKind.int {P : Program} {K : TypeId} (hK : P.underlying K = some (.int .i64)) : KeyKind P K (fun n : Int => Value.int .i64 n) := by
  refine ⟨fun e k w => ?_, fun k ks w => ?_⟩
  · exact Go.MapKept.run_checkKey (k := .int .i64 k) hK rfl e 9999
  · have h := findNow_place (d := .int .i64) (f := fun n : Int => Value.int .i64 n) (fun a b => by
      by_cases h : a = b
      · subst h; simp [Instr.sameNow]
      · simp [Instr.sameNow, h]) k ks 0
    simp only [Instr.findKey, Sem.run_bind, run_underlying hK, Result.andThen_ok, h, Sem.run_pure]
    simp
theorem findAsking_place {P : Program} {K : TypeId} {α : Type} [DecidableEq α] {f : α → Value} (hq : ∀ (a b : α) (w : World), (Op.equal K (f a) (f b)).run P w = .ok (decide (a = b)) w) (k : α) (w : World) :
    ∀ (ks : List α) (i : Nat), (Instr.findAsking K (f k) (mEnts i (ks.map f)) i).run P w = .ok ((place k ks).map fun j => (i + j, .int .i64 ((i + j : Nat) : Int))) w
  | [], i => by simp [mEnts, Instr.findAsking, place]
  | q :: ks, i => by
    rw [List.map_cons, mEnts, Instr.findAsking, Sem.run_bind, hq, Result.andThen_ok, place]
    by_cases h : k = q
    · rw [if_pos h, decide_eq_true h]; simp
    · rw [if_neg h, decide_eq_false h]
      simp only [Bool.false_eq_true, if_false]
      rw [findAsking_place hq k w ks (i + 1), Option.map_map]
      congr 2
      funext j
      show (i + 1 + j, Value.int .i64 ((i + 1 + j : Nat) : Int)) = (i + (j + 1), Value.int .i64 ((i + (j + 1) : Nat) : Int))
      rw [show i + 1 + j = i + (j + 1) from by omega]
/-- keys of another kind, of which the model asks whether they are equal -/
theorem KeyKind.ask {P : Program} {K : TypeId} {d : TypeDesc} {α : Type} [DecidableEq α] {f : α → Value} (hK : P.underlying K = some d) (hs : ∀ a b : α, Instr.sameNow d (f a) (f b) = none) (hc : ∀ (e : Bool) (k : α) (w : World), (Instr.checkKey e 10000 K (f k)).run P w = .ok () w)
    (hq : ∀ (a b : α) (w : World), (Op.equal K (f a) (f b)).run P w = .ok (decide (a = b)) w) : KeyKind P K f := by
  refine ⟨hc, fun k ks w => ?_⟩
  have h := findAsking_place hq k w ks 0
  simp only [Nat.zero_add] at h
  cases ks with
  | nil => simp [Instr.findKey, run_underlying hK, Instr.findNow, mEnts, place]
  | cons q ks =>
    simp only [Instr.findKey, Sem.run_bind, run_underlying hK, Result.andThen_ok]
    rw [show Instr.findNow d (f k) (mEnts 0 ((q :: ks).map f)) 0 = none from by rw [List.map_cons, mEnts, Instr.findNow, hs]]
    exact h
/-- what a slot holds, said in another way -/
theorem W.conv {x : Cx} {L : List (Tmp × Bool × AV)} {M : List ME} {R : Act → World → Prop} {t : Tmp} {av av' : AV} (h : look L t = some (true, av)) (e : ∀ w N v, Rep w N av v → Rep w N av' v) (next : W x ((t, true, av') :: L) M R) : W x L M R := by
  intro a w hs
  refine next a w ⟨hs.defers, hs.size, ?_, hs.mem, hs.fr, hs.old⟩
  intro u g' av2 hl
  rw [look_cons] at hl
  by_cases e' : t = u
  · subst e'
    rw [if_pos rfl] at hl
    cases hl
    have := hs.slots t true av h
    exact ⟨fun hg => e _ _ _ (this.1 hg), fun hg => by cases hg⟩
  · rw [if_neg e'] at hl; exact hs.slots u g' av2 hl
/-- a struct of two numbers as_ a key -/
def pv (p : Int × Int) : Value := .agg #[.int .i64 p.1, .int .i64 p.2]
theorem Rep.pv {w : World} {N : List Nat} {a b : Int} {v : Value} (h : Rep w N (.agg [.int a, .int b]) v) : Rep w N (.lit (pv (a, b))) v := by
  obtain ⟨h1, h2⟩ := h
  cases v <;> simp [AV.sh, shV] at h1
  simp only [RepC, RepL] at h2
  rename_i cells
  obtain ⟨v1, vs1, e1, ⟨_, _, r1⟩, v2, vs2, e2, ⟨_, _, r2⟩, e3⟩ := h2
  subst e3
  subst e2
  obtain rfl := List.cons.inj r1 |>.1
  obtain rfl := List.cons.inj r2 |>.1
  have : Value.agg cells = Vl.pv (a, b) := by
    unfold Vl.pv
    congr 1
    exact Array.toList_inj.1 (by simpa [Value.cells] using e1)
  rw [this]
  exact Rep.lit _
theorem run_equal_pair {P : Program} {T I : TypeId} {f1 f2 : Field} (hU : P.underlying T = some (.struct #[f1, f2])) (hp : P.stoodInHeld T = false) (n1 : f1.name ≠ "_") (n2 : f2.name ≠ "_") (k1 : f1.offset = 0 ∧ f1.type = I) (k2 : f2.offset = 1 ∧ f2.type = I) (u : P.underlying I = some (.int .i64)) (p q : Int × Int) (w : World) :
    (Op.equal T (pv p) (pv q)).run P w = .ok (decide (p = q)) w := by
  have hi : ∀ (a b : Int) (n : Nat), (Op.equalIn (n + 1) I (.int .i64 a) (.int .i64 b)).run P w = .ok (a == b) w := fun a b n => by
    unfold Op.equalIn
    simp [run_underlying u]
  have hpt : ∀ (cs : Array Value) (o : Nat) (v : Value), cs[o]? = some v → (part I cs o).run P w = .ok v w := fun cs o v h => by
    have := IsAgg.run (P := P) (T := I) (b := false) ⟨_, u, rfl⟩ w
    simp [part, this, h]
  have hF : P.fieldsOf T = #[f1, f2] := by rw [Program.fieldsOf, hU]
  have h := run_equalIn_agg w 9999 T #[.int .i64 p.1, .int .i64 p.2] #[.int .i64 q.1, .int .i64 q.2] (hF ▸ hU) hp
  rw [hF] at h
  show (Op.equalIn 10000 T _ _).run P w = _
  unfold pv
  rw [h]
  simp only [Op.eqFields, if_pos n1, if_pos n2, k1.1, k1.2, k2.1, k2.2, Sem.run_bind]
  have hi' : ∀ a b : Int, (Op.equalIn 9999 I (.int .i64 a) (.int .i64 b)).run P w = .ok (a == b) w := fun a b => hi a b 9998
  obtain ⟨p1, p2⟩ := p
  obtain ⟨q1, q2⟩ := q
  dsimp only
  rw [hpt #[.int .i64 p1, .int .i64 p2] 0 (.int .i64 p1) rfl, Result.andThen_ok, hpt #[.int .i64 q1, .int .i64 q2] 0 (.int .i64 q1) rfl, Result.andThen_ok, hi', Result.andThen_ok]
  by_cases h1 : p1 = q1
  · subst h1
    simp only [beq_self_eq_true, Bool.not_true, Bool.false_eq_true, if_false, Sem.run_bind]
    rw [hpt #[.int .i64 p1, .int .i64 p2] 1 (.int .i64 p2) rfl, Result.andThen_ok, hpt #[.int .i64 p1, .int .i64 q2] 1 (.int .i64 q2) rfl, Result.andThen_ok, hi', Result.andThen_ok]
    by_cases h2 : p2 = q2 <;> simp [h2]
  · simp [h1]
theorem run_checkKey_pair {P : Program} {T I : TypeId} {f1 f2 : Field} (hU : P.underlying T = some (.struct #[f1, f2])) (n1 : f1.name ≠ "_") (n2 : f2.name ≠ "_") (k1 : f1.offset = 0 ∧ f1.type = I) (k2 : f2.offset = 1 ∧ f2.type = I) (u : P.underlying I = some (.int .i64)) (e : Bool) (p : Int × Int) (w : World) :
    (Instr.checkKey e 10000 T (pv p)).run P w = .ok () w := by
  have hpt : ∀ (cs : Array Value) (o : Nat) (v : Value), cs[o]? = some v → (part I cs o).run P w = .ok v w := fun cs o v h => by
    have := IsAgg.run (P := P) (T := I) (b := false) ⟨_, u, rfl⟩ w
    simp [part, this, h]
  have hi : ∀ a : Int, (Instr.checkKey e 9999 I (.int .i64 a)).run P w = .ok () w := fun a => Go.MapKept.run_checkKey (k := .int .i64 a) u rfl e 9998
  unfold pv
  rw [show (10000 : Nat) = 9999 + 1 from rfl]
  unfold Instr.checkKey
  simp only [Sem.run_bind, run_underlying hU, Result.andThen_ok]
  simp [n1, n2, k1.1, k1.2, k2.1, k2.2, hpt #[.int .i64 p.1, .int .i64 p.2] 0 _ rfl, hpt #[.int .i64 p.1, .int .i64 p.2] 1 _ rfl, hi]
theorem KeyKind.pair {P : Program} {T I : TypeId} {f1 f2 : Field} (hU : P.underlying T = some (.struct #[f1, f2])) (hp : P.stoodInHeld T = false) (n1 : f1.name ≠ "_") (n2 : f2.name ≠ "_") (k1 : f1.offset = 0 ∧ f1.type = I) (k2 : f2.offset = 1 ∧ f2.type = I) (u : P.underlying I = some (.int .i64)) : KeyKind P T pv :=
  KeyKind.ask hU (fun a b => rfl) (fun e k w => run_checkKey_pair hU n1 n2 k1 k2 u e k w) (fun a b w => run_equal_pair hU hp n1 n2 k1 k2 u a b w)
section map
variable {x : Cx} {g : Bool} {L : List (Tmp × Bool × AV)} {M : List ME} {ops : Array Oper} {Q : Exit → Act → World → Prop} {rest : List Oper} {ty : TypeId} {pos : String} {aft : Array Edge}
end map
end Go.Vl
end

section
set_option linter.unusedVariables false
set_option linter.unusedSimpArgs false
set_option linter.unusedSectionVars false
namespace Go.Vl
section arrv
variable {x : Cx} {g : Bool} {L : List (Tmp × Bool × AV)} {M : List ME} {ty T : TypeId} {o1 o2 : Operand}
end arrv
end Go.Vl
end

section
set_option linter.unusedVariables false
set_option linter.unusedSimpArgs false
namespace Go.Vl
inductive Ex where
  | mk (kind type : Int) (parts : List Ex)
namespace Ex
def kind : Ex → Int | mk k _ _ => k
def type : Ex → Int | mk _ t _ => t
def parts : Ex → List Ex | mk _ _ p => p
mutual
def av : Ex → AV
  | mk k t p => .agg [.int k, .int t, .sl 3 (avs p)]
def avs : List Ex → List AV
  | [] => []
  | d :: l => av d :: avs l
end
theorem avs_map (l : List Ex) : avs l = l.map av := by
  induction l with
  | nil => rfl
  | cons d l ih => rw [avs, ih]; rfl
abbrev avx (d : Ex) : AV := .agg [.int d.kind, .int d.type, .sl 3 (d.parts.map av)]
theorem av_eq (d : Ex) : d.av = avx d := by
  cases d with | mk n a p => rw [av, avs_map]; rfl
def dflt : Ex := mk 0 0 []
theorem at_av (l : List Ex) (i : Nat) (h : i < l.length) : (l.map av)[i]? = some (avx (l.getD i dflt)) := by
  rw [← av_eq]; exact getD_mapG av dflt l i h
theorem map_snoc (l : List Ex) (d : Ex) : (l ++ [d]).map av = l.map av ++ [avx d] := by rw [List.map_append, ← av_eq]; rfl
theorem take_snoc (l : List Ex) (i : Nat) (h : i < l.length) : (l.take (i + 1)).map av = (l.take i).map av ++ [avx (l.getD i dflt)] := by
  rw [take_getDG dflt l i h, map_snoc]
theorem okc_avs (l : List Ex) : ∀ e ∈ l.map av, e.okc = true := by
  intro e he
  obtain ⟨d, _, rfl⟩ := List.mem_map.1 he
  rw [av_eq]; rfl
mutual
def sz : Ex → Nat
  | mk _ _ p => 1 + szs p
def szs : List Ex → Nat
  | [] => 0
  | d :: l => sz d + szs l
end
theorem sz_eq (d : Ex) : d.sz = 1 + szs d.parts := by cases d; rfl
theorem szs_append (l m : List Ex) : szs (l ++ m) = szs l + szs m := by
  induction l with
  | nil => simp [szs]
  | cons d l ih => rw [List.cons_append, szs, szs, ih]; omega
theorem szs_len (l : List Ex) : l.length ≤ szs l := by
  induction l with
  | nil => simp [szs]
  | cons d l ih => rw [szs, List.length_cons, sz_eq]; omega
theorem szs_mem {l : List Ex} {d : Ex} (h : d ∈ l) : d.sz ≤ szs l := by
  induction l with
  | nil => cases h
  | cons e l ih =>
    rw [szs]
    rcases List.mem_cons.1 h with rfl | h
    · omega
    · have := ih h; omega
theorem part_sz {x d : Ex} (h : d ∈ x.parts) : d.sz < x.sz := by
  have := szs_mem h; have := sz_eq x; omega
/-- induction over expressions -/
theorem rec' {P : Ex → Prop} (h : ∀ x, (∀ d ∈ x.parts, P d) → P x) : ∀ x, P x := by
  suffices H : ∀ n x, sz x ≤ n → P x from fun x => H _ x (Nat.le_refl _)
  intro n
  induction n with
  | zero => intro x hx; have := sz_eq x; omega
  | succ n ih => exact fun x hx => h x fun d hd => ih d (by have := part_sz hd; omega)
/-- an expression that may be, but for its parts -/
def ok1 (x : Ex) : Prop :=
  (x.kind = 1 ∧ x.parts = [] ∧ 0 ≤ x.type ∧ x.type < 8) ∨ (x.kind = 2 ∧ x.type = 0 ∧ x.parts.length ≠ 1 ∧ ∀ q ∈ x.parts, q.kind ≠ 2) ∨
  (x.kind = 3 ∧ x.type = 0 ∧ 2 ≤ x.parts.length ∧ ∀ q ∈ x.parts, q.kind ≠ 3) ∨ (4 ≤ x.kind ∧ x.kind ≤ 6 ∧ x.type = 0 ∧ x.parts.length = 1)
mutual
def ok : Ex → Prop
  | mk k t p => ok1 (mk k t p) ∧ oks p
def oks : List Ex → Prop
  | [] => True
  | d :: l => ok d ∧ oks l
end
theorem oks_iff (l : List Ex) : oks l ↔ ∀ d ∈ l, ok d := by
  induction l with
  | nil => simp [oks]
  | cons d l ih => simp [oks, ih]
/-- the signs behind a part -/
def sgn (k : Int) : UInt8 := if k = 4 then 42 else if k = 5 then 43 else 63
def par (k : Int) (q : Ex) : Prop := (q.kind = 3 ∧ k ≠ 3) ∨ (q.kind = 2 ∧ 4 ≤ k)
instance (k : Int) (q : Ex) : Decidable (par k q) := by unfold par; infer_instance
/-- texts, with a sign between -/
def joinW (sep : List UInt8) : List (List UInt8) → List UInt8
  | [] => []
  | [s] => s
  | s :: t :: l => s ++ (sep ++ joinW sep (t :: l))
mutual
def txt : Ex → List UInt8
  | mk k t p => if k = 1 then [97 + UInt8.ofNat t.toNat] else if k = 2 then joinW [] (ptx k p) else if k = 3 then joinW [124] (ptx k p) else joinW [] (ptx k p) ++ [sgn k]
def ptx (k : Int) : List Ex → List (List UInt8)
  | [] => []
  | q :: l => (if par k q then 40 :: (txt q ++ [41]) else txt q) :: ptx k l
end
def ptx1 (k : Int) (q : Ex) : List UInt8 := if par k q then 40 :: (txt q ++ [41]) else txt q
end Ex

/-! ### what is written -/
inductive It where
  | ch (n : Nat) (sf : List Nat)
  | gr (s : List It) (a : List (List It)) (sf : List Nat)
def sg (k : Nat) : UInt8 := if k = 0 then 42 else if k = 1 then 43 else 63
def Ex.sfe (x : Ex) (sf : List Nat) : Ex := sf.foldl (fun x (k : Nat) => .mk (4 + (k : Int)) 0 [x]) x
def Ex.flat (k : Int) (l : List Ex) : List Ex := l.flatMap fun p => if p.kind = k then p.parts else [p]
def Ex.tog (k : Int) (l : List Ex) : Ex :=
  match l with
  | [x] => x
  | l => match Ex.flat k l with
    | [y] => y
    | ps => .mk k 0 ps
namespace It
def sfs : It → List Nat | ch _ sf => sf | gr _ _ sf => sf
mutual
def tx : It → List UInt8
  | ch n sf => (97 + UInt8.ofNat n) :: sf.map sg
  | gr s a sf => 40 :: (stx s ++ (atl a ++ 41 :: sf.map sg))
def stx : List It → List UInt8
  | [] => []
  | i :: s => tx i ++ stx s
def atl : List (List It) → List UInt8
  | [] => []
  | s :: a => 124 :: (stx s ++ atl a)
end
mutual
def ev : It → Ex
  | ch n sf => Ex.sfe (.mk 1 n []) sf
  | gr s a sf => Ex.sfe (Ex.tog 3 (Ex.tog 2 (sev s) :: aev a)) sf
def sev : List It → List Ex
  | [] => []
  | i :: s => ev i :: sev s
def aev : List (List It) → List Ex
  | [] => []
  | s :: a => Ex.tog 2 (sev s) :: aev a
end
mutual
/-- letters and signs that may be -/
def ok : It → Prop
  | ch n sf => n < 8 ∧ ∀ k ∈ sf, k < 3
  | gr s a sf => (oks s ∧ oka a) ∧ ∀ k ∈ sf, k < 3
def oks : List It → Prop
  | [] => True
  | i :: s => ok i ∧ oks s
def oka : List (List It) → Prop
  | [] => True
  | s :: a => oks s ∧ oka a
end
mutual
def sz : It → Nat
  | ch _ _ => 1
  | gr s a _ => 1 + szs s + sza a
def szs : List It → Nat
  | [] => 0
  | i :: s => sz i + szs s
def sza : List (List It) → Nat
  | [] => 0
  | s :: a => 1 + szs s + sza a
end
abbrev sq (s : List It) : Ex := Ex.tog 2 (sev s)
abbrev al (s : List It) (a : List (List It)) : Ex := Ex.tog 3 (sq s :: aev a)
theorem oks_iff (s : List It) : oks s ↔ ∀ i ∈ s, ok i := by
  induction s with
  | nil => simp [oks]
  | cons d l ih => simp [oks, ih]
theorem sz_mem {s : List It} {i : It} (h : i ∈ s) : sz i ≤ szs s := by
  induction s with
  | nil => cases h
  | cons e l ih =>
    rw [szs]
    rcases List.mem_cons.1 h with rfl | h
    · omega
    · have := ih h; omega
theorem szs_mem {a : List (List It)} {s : List It} (h : s ∈ a) : szs s < sza a := by
  induction a with
  | nil => cases h
  | cons e l ih =>
    rw [sza]
    rcases List.mem_cons.1 h with rfl | h
    · omega
    · have := ih h; omega
/-- induction over what is written -/
theorem rec' {P : It → Prop} (h1 : ∀ n sf, P (ch n sf)) (h2 : ∀ s a sf, (∀ i ∈ s, P i) → (∀ t ∈ a, ∀ i ∈ t, P i) → P (gr s a sf)) : ∀ i, P i := by
  suffices H : ∀ n i, sz i ≤ n → P i from fun i => H _ i (Nat.le_refl _)
  intro n
  induction n with
  | zero => intro i hi; cases i <;> simp only [sz] at hi <;> omega
  | succ n ih =>
    intro i hi
    cases i with
    | ch n sf => exact h1 n sf
    | gr s a sf =>
      simp only [sz] at hi
      exact h2 s a sf (fun i h => ih i (by have := sz_mem h; omega)) (fun t ht i h => ih i (by have := sz_mem h; have := szs_mem ht; omega))
end It

/-! ### together -/
namespace Ex
theorem flat_append (k : Int) (l m : List Ex) : flat k (l ++ m) = flat k l ++ flat k m := by simp [flat]
end Ex
namespace It
end It
end Go.Vl
end

section
set_option linter.unusedVariables false
set_option linter.unusedSimpArgs false
namespace Go.Vl
namespace Ex
def sumL (l : List (List UInt8)) : Nat := (l.map List.length).sum
def cost (l : List Ex) : Nat := sumL (l.map txt) + l.length
end Ex
namespace It
/-- a sign more -/
def adds : It → Nat → It
  | ch n sf, k => ch n (sf ++ [k])
  | gr s a sf, k => gr s a (sf ++ [k])
end It

/-! ### which words are meant -/
abbrev Lg := List Int → Prop
namespace Lg
def one (n : Int) : Lg := fun w => w = [n]
def eps : Lg := fun w => w = []
def none : Lg := fun _ => False
def cat (A B : Lg) : Lg := fun w => ∃ u v, w = u ++ v ∧ A u ∧ B v
def alt (A B : Lg) : Lg := fun w => A w ∨ B w
inductive star (A : Lg) : Lg
  | nil : star A []
  | cons (u v : List Int) : A u → star A v → star A (u ++ v)
theorem ext {A B : Lg} (h : ∀ w, A w ↔ B w) : A = B := funext fun w => propext (h w)
theorem star_append {A : Lg} {u v : List Int} (hu : star A u) (hv : star A v) : star A (u ++ v) := by
  induction hu with
  | nil => simpa using hv
  | cons a b ha _ ih => rw [List.append_assoc]; exact .cons a _ ha ih
theorem star_unfold (A : Lg) : star A = alt eps (cat A (star A)) := ext fun w => by
  constructor
  · intro h
    cases h with
    | nil => exact .inl rfl
    | cons u v hu hv => exact .inr ⟨u, v, rfl, hu, hv⟩
  · rintro (h | ⟨u, v, rfl, hu, hv⟩)
    · rw [h]; exact .nil
    · exact .cons u v hu hv
end Lg
namespace Ex
mutual
def lg : Ex → Lg
  | mk k t p => if k = 1 then Lg.one t else if k = 2 then seqs p else if k = 3 then alts p else if k = 4 then Lg.star (alts p) else if k = 5 then Lg.cat (alts p) (Lg.star (alts p)) else Lg.alt Lg.eps (alts p)
def seqs : List Ex → Lg
  | [] => Lg.eps
  | q :: l => Lg.cat (lg q) (seqs l)
def alts : List Ex → Lg
  | [] => Lg.none
  | q :: l => Lg.alt (lg q) (alts l)
end
end Ex
/-- what a sign makes of words -/
def Lg.sfl (A : Lg) (k : Nat) : Lg := if k = 0 then Lg.star A else if k = 1 then Lg.cat A (Lg.star A) else Lg.alt Lg.eps A
namespace It
mutual
def lg : It → Lg
  | ch n sf => sf.foldl Lg.sfl (Lg.one n)
  | gr s a sf => sf.foldl Lg.sfl (Lg.alt (slg s) (alg a))
def slg : List It → Lg
  | [] => Lg.eps
  | i :: s => Lg.cat (lg i) (slg s)
def alg : List (List It) → Lg
  | [] => Lg.none
  | s :: a => Lg.alt (slg s) (alg a)
end
end It
end Go.Vl
end

section
set_option linter.unusedVariables false
set_option linter.unusedSimpArgs false
namespace Go.Vl
structure Au where
  next : List (List Int)
  final : List Bool
namespace Au
/-- where a letter leads -/
def to (a : Au) (i : Int) (c : Int) : Int := (a.next.getD i.toNat []).getD c.toNat (-1)
/-- words from a state on -/
def acc (a : Au) : Int → Lg
  | i, [] => 0 ≤ i ∧ a.final.getD i.toNat false = true
  | i, c :: w => 0 ≤ i ∧ 0 ≤ c ∧ c < 8 ∧ acc a (a.to i c) w
def av (a : Au) : AV := .agg [.sl 1 (a.next.map fun r => .sl 1 (r.map AV.int)), .sl 1 (a.final.map AV.bool)]
/-- as_ many rows as_ finals, rows of eight, that lead somewhere -/
structure Shape (a : Au) : Prop where
  pos : 0 < a.next.length
  fin : a.final.length = a.next.length
  row : ∀ i, i < a.next.length → (a.next.getD i []).length = 8
  ent : ∀ i, i < a.next.length → ∀ c, c < 8 → -1 ≤ (a.next.getD i []).getD c (-1) ∧ (a.next.getD i []).getD c (-1) < a.next.length
theorem acc_neg {a : Au} {i : Int} (h : i < 0) (w : List Int) : ¬ a.acc i w := by
  cases w <;> simp only [acc] <;> omega
theorem acc_cons {a : Au} {i c : Int} {w : List Int} (hi : 0 ≤ i) (h0 : 0 ≤ c) (h8 : c < 8) : a.acc i (c :: w) ↔ a.acc (a.to i c) w := by
  simp only [acc]; exact ⟨fun h => h.2.2.2, fun h => ⟨hi, h0, h8, h⟩⟩
theorem acc_over {a : Au} : ∀ {w : List Int} {i : Int}, a.acc i w → ∀ c ∈ w, 0 ≤ c ∧ c < 8
  | [], _, _, c, hc => by cases hc
  | d :: w, i, h, c, hc => by
    simp only [acc] at h
    rcases List.mem_cons.1 hc with rfl | hc
    · exact ⟨h.2.1, h.2.2.1⟩
    · exact acc_over h.2.2.2 c hc
/-- the state behind a word -/
def run (a : Au) (i : Int) (w : List Int) : Int := w.foldl (fun i c => if 0 ≤ i then a.to i c else i) i
theorem run_neg {a : Au} {i : Int} (h : i < 0) : ∀ w : List Int, a.run i w = i
  | [] => rfl
  | c :: w => by
    show a.run (if 0 ≤ i then a.to i c else i) w = i
    rw [if_neg (by omega)]; exact run_neg h w
theorem run_cons (a : Au) (i c : Int) (w : List Int) (hi : 0 ≤ i) : a.run i (c :: w) = a.run (a.to i c) w := by
  show a.run (if 0 ≤ i then a.to i c else i) w = _
  rw [if_pos hi]
theorem run_snoc (a : Au) (i c : Int) (w : List Int) : a.run i (w ++ [c]) = if 0 ≤ a.run i w then a.to (a.run i w) c else a.run i w := by
  rw [run, List.foldl_append]; rfl
theorem acc_run {a : Au} : ∀ (w : List Int) (i : Int), (∀ c ∈ w, 0 ≤ c ∧ c < 8) → (a.acc i w ↔ 0 ≤ a.run i w ∧ a.final.getD (a.run i w).toNat false = true)
  | [], i, _ => Iff.rfl
  | c :: w, i, h => by
    by_cases hi : 0 ≤ i
    · rw [acc_cons hi (h c List.mem_cons_self).1 (h c List.mem_cons_self).2, run_cons a i c w hi]
      exact acc_run w _ fun d hd => h d (List.mem_cons_of_mem _ hd)
    · rw [run_neg (by omega)]
      exact ⟨fun h' => absurd h' (acc_neg (by omega) _), fun h' => absurd h'.1 hi⟩
theorem to_range {a : Au} (h : a.Shape) {i c : Int} (hi0 : 0 ≤ i) (hi : i < a.next.length) (h0 : 0 ≤ c) (h8 : c < 8) : -1 ≤ a.to i c ∧ a.to i c < a.next.length :=
  h.ent i.toNat (by omega) c.toNat (by omega)
/-- a machine in order, each of whose states leads to an end -/
structure Canon (a : Au) : Prop extends Shape a where
  live : ∀ i : Nat, i < a.next.length → ∃ w, a.acc (i : Int) w
  apart : ∀ i j : Nat, i < a.next.length → j < a.next.length → (∀ w, a.acc (i : Int) w ↔ a.acc (j : Int) w) → i = j
  first : ∀ k : Nat, 0 < k → k < a.next.length → ∃ i c : Nat, i < k ∧ c < 8 ∧ a.to (i : Int) (c : Int) = k ∧
    ∀ i' c' : Nat, (i' < i ∨ i' = i ∧ c' < c) → c' < 8 → a.to (i' : Int) (c' : Int) < k
def dead : Au := ⟨[List.replicate 8 (-1)], [false]⟩
theorem dead_to (c : Int) : dead.to 0 c = -1 := by
  simp only [to, dead, Int.toNat_zero, List.getD_cons_zero]
  rw [List.getD_eq_getElem?_getD, List.getElem?_replicate]
  split <;> rfl
theorem dead_acc (w : List Int) : ¬ dead.acc 0 w := by
  cases w with
  | nil => simp [acc, dead]
  | cons c w => simp only [acc, dead_to]; intro h; exact acc_neg (by decide) _ h.2.2.2
/-- a machine that belongs to its words -/
def Ord (a : Au) : Prop := a.Canon ∨ a = dead
theorem Ord.shape {a : Au} (h : a.Ord) : a.Shape := by
  rcases h with h | rfl
  · exact h.toShape
  · refine ⟨by decide, rfl, ?_, ?_⟩ <;> (intro i hi; obtain rfl : i = 0 := by simp [dead] at hi; omega)
    · rfl
    · intro c hc
      have := dead_to (c : Int)
      simp only [to, Int.toNat_zero, Int.toNat_natCast] at this
      rw [this]; decide
private theorem same_upto {a b : Au} (ha : a.Canon) (hb : b.Canon) (h0 : ∀ w, a.acc 0 w ↔ b.acc 0 w) :
    ∀ k, k ≤ a.next.length → (k ≤ b.next.length ∧ ∀ j, j < k → ∀ w, a.acc (j : Int) w ↔ b.acc (j : Int) w) := by
  have lem : ∀ {a b : Au}, a.Canon → b.Canon → ∀ k, 0 < k → k ≤ b.next.length → (∀ j, j < k → ∀ w, a.acc (j : Int) w ↔ b.acc (j : Int) w) →
      ∀ i c : Nat, i < k → c < 8 → a.to (i : Int) (c : Int) = (k : Int) → k < a.next.length →
      (k : Int) ≤ b.to (i : Int) (c : Int) := by
    intro a b ha hb k hk hkb hj i c hi hc he hka
    have hr := to_range hb.toShape (i := (i : Int)) (c := (c : Int)) (by omega) (by omega) (by omega) (by omega)
    rcases Int.lt_or_le (b.to (i : Int) (c : Int)) (k : Int) with h | h
    · exfalso
      have hw : ∀ w, a.acc (k : Int) w ↔ b.acc (b.to (i : Int) (c : Int)) w := fun w => by
        rw [← he, ← acc_cons (by omega) (by omega) (by omega), ← acc_cons (by omega) (by omega) (by omega)]
        exact hj i hi _
      rcases Int.lt_or_le (b.to (i : Int) (c : Int)) 0 with h1 | h1
      · obtain ⟨w, hl⟩ := ha.live k hka
        exact acc_neg h1 w ((hw w).1 hl)
      · obtain ⟨j, hjj⟩ : ∃ j : Nat, b.to (i : Int) (c : Int) = (j : Int) := ⟨_, (Int.toNat_of_nonneg h1).symm⟩
        rw [hjj] at hw h
        have := ha.apart k j hka (by omega) fun w => (hw w).trans (hj j (by omega) w).symm
        omega
    · exact h
  intro k
  induction k with
  | zero => exact fun _ => ⟨Nat.zero_le _, fun j hj => absurd hj (Nat.not_lt_zero _)⟩
  | succ k ih =>
    intro hk
    obtain ⟨h1, h2⟩ := ih (by omega)
    rcases Nat.eq_zero_or_pos k with rfl | hk0
    · refine ⟨hb.pos, fun j hj => ?_⟩
      obtain rfl : j = 0 := by omega
      exact h0
    · obtain ⟨i, c, hi, hc, he, hmin⟩ := ha.first k hk0 (by omega)
      have hge := lem ha hb k hk0 h1 h2 i c hi hc he (by omega)
      have hr := to_range hb.toShape (i := (i : Int)) (c := (c : Int)) (by omega) (by omega) (by omega) (by omega)
      have hkb : k < b.next.length := by omega
      obtain ⟨i2, c2, hi2, hc2, he2, hmin2⟩ := hb.first k hk0 hkb
      have hge2 := lem hb ha k hk0 (by omega) (fun j hj w => (h2 j hj w).symm) i2 c2 hi2 hc2 he2 hkb
      have heq : i = i2 ∧ c = c2 := by
        rcases Nat.lt_trichotomy i i2 with h | h | h
        · have := hmin2 i c (.inl h) hc; omega
        · subst h
          rcases Nat.lt_trichotomy c c2 with h | h | h
          · have := hmin2 i c (.inr ⟨rfl, h⟩) hc; omega
          · exact ⟨rfl, h⟩
          · have := hmin i c2 (.inr ⟨rfl, h⟩) hc2; omega
        · have := hmin i2 c2 (.inl h) hc2; omega
      obtain ⟨rfl, rfl⟩ := heq
      refine ⟨hkb, fun j hj w => ?_⟩
      rcases Nat.lt_or_ge j k with h | h
      · exact h2 j h w
      · obtain rfl : j = k := by omega
        have e1 := acc_cons (a := a) (i := (i : Int)) (c := (c : Int)) (w := w) (by omega) (by omega) (by omega)
        have e2 := acc_cons (a := b) (i := (i : Int)) (c := (c : Int)) (w := w) (by omega) (by omega) (by omega)
        rw [he] at e1
        rw [he2] at e2
        rw [← e1, ← e2]
        exact h2 i hi _
theorem list_ext {α : Type} (z : α) {l m : List α} (h : l.length = m.length) (hs : ∀ i, i < l.length → l.getD i z = m.getD i z) : l = m := by
  refine List.ext_getElem h fun i h1 h2 => ?_
  have := hs i h1
  rwa [List.getD_eq_getElem?_getD, List.getD_eq_getElem?_getD, List.getElem?_eq_getElem h1, List.getElem?_eq_getElem h2] at this
/-- TO EACH SET OF WORDS BELONGS JUST ONE MACHINE IN ORDER. -/
theorem Canon.unique {a b : Au} (ha : a.Canon) (hb : b.Canon) (h0 : ∀ w, a.acc 0 w ↔ b.acc 0 w) : a = b := by
  obtain ⟨h1, h2⟩ := same_upto ha hb h0 _ (Nat.le_refl _)
  obtain ⟨h3, _⟩ := same_upto hb ha (fun w => (h0 w).symm) _ (Nat.le_refl _)
  have hn : a.next.length = b.next.length := by omega
  have hto : ∀ i c : Nat, i < a.next.length → c < 8 → a.to (i : Int) (c : Int) = b.to (i : Int) (c : Int) := by
    intro i c hi hc
    have ra := to_range ha.toShape (i := (i : Int)) (c := (c : Int)) (by omega) (by omega) (by omega) (by omega)
    have rb := to_range hb.toShape (i := (i : Int)) (c := (c : Int)) (by omega) (by omega) (by omega) (by omega)
    have hw : ∀ w, a.acc (a.to (i : Int) (c : Int)) w ↔ b.acc (b.to (i : Int) (c : Int)) w := fun w => by
      rw [← acc_cons (by omega) (by omega) (by omega), ← acc_cons (by omega) (by omega) (by omega)]
      exact h2 i hi _
    rcases Int.lt_or_le (a.to (i : Int) (c : Int)) 0 with g1 | g1
    · rcases Int.lt_or_le (b.to (i : Int) (c : Int)) 0 with g2 | g2
      · omega
      · obtain ⟨j, hj⟩ : ∃ j : Nat, b.to (i : Int) (c : Int) = (j : Int) := ⟨_, (Int.toNat_of_nonneg g2).symm⟩
        obtain ⟨w, hl⟩ := hb.live j (by omega)
        rw [hj] at hw
        exact absurd ((hw w).2 hl) (acc_neg g1 w)
    · obtain ⟨j, hj⟩ : ∃ j : Nat, a.to (i : Int) (c : Int) = (j : Int) := ⟨_, (Int.toNat_of_nonneg g1).symm⟩
      obtain ⟨w, hl⟩ := ha.live j (by omega)
      rcases Int.lt_or_le (b.to (i : Int) (c : Int)) 0 with g2 | g2
      · rw [hj] at hw
        exact absurd ((hw w).1 hl) (acc_neg g2 w)
      · obtain ⟨k, hk⟩ : ∃ k : Nat, b.to (i : Int) (c : Int) = (k : Int) := ⟨_, (Int.toNat_of_nonneg g2).symm⟩
        rw [hj, hk] at hw
        have := hb.apart j k (by omega) (by omega) fun w => (h2 j (by omega) w).symm.trans (hw w)
        omega
  have e1 : a.next = b.next := by
    refine list_ext [] hn fun i hi => ?_
    refine list_ext (-1) ((ha.row i hi).trans (hb.row i (by omega)).symm) fun c hc => ?_
    rw [ha.row i hi] at hc
    have := hto i c hi hc
    simpa only [to, Int.toNat_natCast] using this
  have e2 : a.final = b.final := by
    refine list_ext false (by rw [ha.fin, hb.fin, hn]) fun i hi => ?_
    rw [ha.fin] at hi
    have := h2 i hi []
    simp only [acc, Int.toNat_natCast] at this
    have h4 : (a.final.getD i false = true) ↔ (b.final.getD i false = true) := ⟨fun h => (this.1 ⟨by omega, h⟩).2, fun h => (this.2 ⟨by omega, h⟩).2⟩
    exact Bool.eq_iff_iff.2 h4
  cases a; cases b; simp only at e1 e2; subst e1 e2; rfl
theorem Ord.unique {a b : Au} (ha : a.Ord) (hb : b.Ord) (h0 : ∀ w, a.acc 0 w ↔ b.acc 0 w) : a = b := by
  rcases ha with ha | rfl
  · rcases hb with hb | rfl
    · exact ha.unique hb h0
    · obtain ⟨w, hw⟩ := ha.live 0 ha.pos
      exact absurd ((h0 w).1 hw) (dead_acc w)
  · rcases hb with hb | rfl
    · obtain ⟨w, hw⟩ := hb.live 0 hb.pos
      exact absurd ((h0 w).2 hw) (dead_acc w)
    · rfl
end Au
end Go.Vl
end

section
set_option linter.unusedVariables false
set_option linter.unusedSimpArgs false
namespace Go.Vl
namespace Lg
/-- behind whatever letters words are those of some of m sets -/
def Wid (A : Lg) (m : Nat) : Prop := ∃ l : List Lg, l.length ≤ m ∧ ∀ u : List Int, u ≠ [] → ∃ S : Lg → Prop, ∀ w, A (u ++ w) ↔ ∃ B, B ∈ l ∧ S B ∧ B w
theorem Wid.mono {A : Lg} {m n : Nat} (h : Wid A m) (hn : m ≤ n) : Wid A n := by
  obtain ⟨l, h1, h2⟩ := h; exact ⟨l, by omega, h2⟩
theorem Wid.alt {A B : Lg} {m n : Nat} (ha : Wid A m) (hb : Wid B n) : Wid (alt A B) (m + n) := by
  obtain ⟨la, a1, a2⟩ := ha
  obtain ⟨lb, b1, b2⟩ := hb
  refine ⟨la ++ lb, by rw [List.length_append]; omega, fun u hu => ?_⟩
  obtain ⟨SA, hA⟩ := a2 u hu
  obtain ⟨SB, hB⟩ := b2 u hu
  refine ⟨fun E => (E ∈ la ∧ SA E) ∨ (E ∈ lb ∧ SB E), fun w => ?_⟩
  constructor
  · rintro (h | h)
    · obtain ⟨E, h1, h2, h3⟩ := (hA w).1 h
      exact ⟨E, List.mem_append_left _ h1, .inl ⟨h1, h2⟩, h3⟩
    · obtain ⟨E, h1, h2, h3⟩ := (hB w).1 h
      exact ⟨E, List.mem_append_right _ h1, .inr ⟨h1, h2⟩, h3⟩
  · rintro ⟨E, _, ⟨h1, h2⟩ | ⟨h1, h2⟩, h3⟩
    · exact .inl ((hA w).2 ⟨E, h1, h2, h3⟩)
    · exact .inr ((hB w).2 ⟨E, h1, h2, h3⟩)
theorem cat_split {A B : Lg} {u w : List Int} (h : cat A B (u ++ w)) : (∃ p q, w = p ++ q ∧ A (u ++ p) ∧ B q) ∨ (∃ p v, u = p ++ v ∧ v ≠ [] ∧ A p ∧ B (v ++ w)) := by
  obtain ⟨p, q, e, hp, hq⟩ := h
  rcases List.append_eq_append_iff.1 e with ⟨t, h1, h2⟩ | ⟨t, h1, h2⟩
  · subst h1; exact .inl ⟨t, q, h2, hp, hq⟩
  · subst h1 h2
    rcases t with _ | ⟨x, t⟩
    · exact .inl ⟨[], w, rfl, by simpa using hp, by simpa using hq⟩
    · exact .inr ⟨p, x :: t, rfl, by simp, hp, hq⟩
theorem Wid.cat {A B : Lg} {m n : Nat} (ha : Wid A m) (hb : Wid B n) : Wid (cat A B) (m + n) := by
  obtain ⟨la, a1, a2⟩ := ha
  obtain ⟨lb, b1, b2⟩ := hb
  refine ⟨la.map (fun C => Lg.cat C B) ++ lb, by rw [List.length_append, List.length_map]; omega, fun u hu => ?_⟩
  obtain ⟨SA, hA⟩ := a2 u hu
  refine ⟨fun E => (∃ C, C ∈ la ∧ SA C ∧ E = Lg.cat C B) ∨ (∃ p v, u = p ++ v ∧ v ≠ [] ∧ A p ∧ E ∈ lb ∧ ∀ w, E w → B (v ++ w)), fun w => ?_⟩
  constructor
  · intro h
    rcases cat_split h with ⟨p, q, rfl, hp, hq⟩ | ⟨p, v, rfl, hv, hp, hq⟩
    · obtain ⟨C, h1, h2, h3⟩ := (hA p).1 hp
      exact ⟨Lg.cat C B, List.mem_append_left _ (List.mem_map_of_mem h1), .inl ⟨C, h1, h2, rfl⟩, p, q, rfl, h3, hq⟩
    · obtain ⟨SB, hB⟩ := b2 v hv
      obtain ⟨E, h1, h2, h3⟩ := (hB w).1 hq
      exact ⟨E, List.mem_append_right _ h1, .inr ⟨p, v, rfl, hv, hp, h1, fun w' hw' => (hB w').2 ⟨E, h1, h2, hw'⟩⟩, h3⟩
  · rintro ⟨E, _, ⟨C, h1, h2, rfl⟩ | ⟨p, v, rfl, hv, hp, h1, h2⟩, h3⟩
    · obtain ⟨p, q, rfl, hp, hq⟩ := h3
      exact ⟨u ++ p, q, by simp, (hA p).2 ⟨C, h1, h2, hp⟩, hq⟩
    · exact ⟨p, v ++ w, by simp, hp, h2 w h3⟩
theorem star_split {A : Lg} {z : List Int} (h : star A z) : ∀ u w : List Int, u ≠ [] → z = u ++ w → ∃ p v w1 w2, u = p ++ v ∧ v ≠ [] ∧ star A p ∧ w = w1 ++ w2 ∧ A (v ++ w1) ∧ star A w2 := by
  induction h with
  | nil => intro u w hu e; exact absurd (List.append_eq_nil_iff.1 e.symm).1 hu
  | cons a b ha hb ih =>
    intro u w hu e
    rcases List.append_eq_append_iff.1 e with ⟨t, h1, h2⟩ | ⟨t, h1, h2⟩
    · subst h1 h2
      rcases t with _ | ⟨x, t⟩
      · exact ⟨[], a ++ [], [], w, by simp, hu, .nil, rfl, by simpa using ha, by simpa using hb⟩
      · obtain ⟨p, v, w1, w2, h3, h4, h5, h6, h7, h8⟩ := ih (x :: t) w (by simp) rfl
        exact ⟨a ++ p, v, w1, w2, by rw [h3, List.append_assoc], h4, .cons a p ha h5, h6, h7, h8⟩
    · subst h1 h2
      exact ⟨[], u, t, b, rfl, hu, .nil, rfl, ha, hb⟩
theorem Wid.star {A : Lg} {m : Nat} (ha : Wid A m) : Wid (star A) m := by
  obtain ⟨la, a1, a2⟩ := ha
  refine ⟨la.map (fun C => Lg.cat C (Lg.star A)), by rw [List.length_map]; exact a1, fun u hu => ?_⟩
  refine ⟨fun E => ∃ p v C, u = p ++ v ∧ v ≠ [] ∧ Lg.star A p ∧ C ∈ la ∧ (∀ w, C w → A (v ++ w)) ∧ E = Lg.cat C (Lg.star A), fun w => ?_⟩
  constructor
  · intro h
    obtain ⟨p, v, w1, w2, rfl, hv, hp, rfl, h1, h2⟩ := star_split h u w hu rfl
    obtain ⟨S, hS⟩ := a2 v hv
    obtain ⟨C, c1, c2, c3⟩ := (hS w1).1 h1
    exact ⟨_, List.mem_map_of_mem c1, ⟨p, v, C, rfl, hv, hp, c1, fun w hw => (hS w).2 ⟨C, c1, c2, hw⟩, rfl⟩, w1, w2, rfl, c3, h2⟩
  · rintro ⟨E, _, ⟨p, v, C, rfl, hv, hp, c1, c2, rfl⟩, w1, w2, rfl, h1, h2⟩
    rw [List.append_assoc]
    refine star_append hp ?_
    rw [← List.append_assoc]
    exact .cons _ _ (c2 w1 h1) h2
theorem Wid.same {A B : Lg} {m : Nat} (ha : Wid A m) (h : ∀ w, w ≠ [] → (B w ↔ A w)) : Wid B m := by
  obtain ⟨la, a1, a2⟩ := ha
  refine ⟨la, a1, fun u hu => ?_⟩
  obtain ⟨S, hS⟩ := a2 u hu
  exact ⟨S, fun w => (h (u ++ w) (fun e => hu (List.append_eq_nil_iff.1 e).1)).trans (hS w)⟩
theorem Wid.sfl {A : Lg} {m : Nat} (ha : Wid A m) (k : Nat) : Wid (sfl A k) m := by
  unfold Lg.sfl
  split
  · exact ha.star
  · split
    · refine ha.star.same fun w hw => ?_
      have e : Lg.star A w ↔ Lg.alt eps (Lg.cat A (Lg.star A)) w := by rw [← star_unfold A]
      rw [e]
      exact ⟨.inr, fun h => h.resolve_left hw⟩
    · exact ha.same fun w hw => ⟨fun h => h.resolve_left hw, .inr⟩
theorem Wid.foldl : ∀ (sf : List Nat) {A : Lg} {m : Nat}, Wid A m → Wid (sf.foldl Lg.sfl A) m
  | [], _, _, h => h
  | k :: sf, _, _, h => Wid.foldl sf (h.sfl k)
end Lg
namespace It
mutual
/-- how many letters -/
def nl : It → Nat
  | ch _ _ => 1
  | gr s a _ => snl s + anl a
def snl : List It → Nat
  | [] => 0
  | i :: s => nl i + snl s
def anl : List (List It) → Nat
  | [] => 0
  | s :: a => snl s + anl a
end
end It
/-- what is parted into fewer places has two in one place -/
theorem pigeon : ∀ (N n : Nat) (f : Nat → Nat), (∀ i, i < n → f i < N) → (∀ i j, i < n → j < n → f i = f j → i = j) → n ≤ N
  | 0, n, f, h1, _ => by
    rcases Nat.eq_zero_or_pos n with h | h
    · omega
    · exact absurd (h1 0 h) (Nat.not_lt_zero _)
  | N + 1, n, f, h1, h2 => by
    by_cases h : ∃ i, i < n ∧ f i = N
    · obtain ⟨i0, h3, h4⟩ := h
      have := pigeon N (n - 1) (fun i => f (if i < i0 then i else i + 1)) (fun i hi => by
        have h5 := h1 (if i < i0 then i else i + 1) (by split <;> omega)
        have h6 : f (if i < i0 then i else i + 1) ≠ N := fun e => by
          have := h2 _ i0 (by split <;> omega) h3 (e.trans h4.symm)
          split at this <;> omega
        show f (if i < i0 then i else i + 1) < N
        omega) (fun i j hi hj e => by
          have := h2 _ _ (by split <;> omega) (by split <;> omega) e
          split at this <;> split at this <;> omega)
      omega
    · have := pigeon N n f (fun i hi => by have := h1 i hi; have : f i ≠ N := fun e => h ⟨i, hi, e⟩; omega) h2
      omega
/-- a row of bools as_ a number -/
def bval : List Bool → Nat
  | [] => 0
  | b :: l => (if b then 1 else 0) + 2 * bval l
theorem bval_lt : ∀ l : List Bool, bval l < 2 ^ l.length
  | [] => by simp [bval]
  | b :: l => by
    have := bval_lt l
    rw [bval, List.length_cons, Nat.pow_succ]; split <;> omega
theorem bval_inj : ∀ l m : List Bool, l.length = m.length → bval l = bval m → l = m
  | [], [], _, _ => rfl
  | a :: l, b :: m, h, e => by
    simp only [List.length_cons, bval] at h e
    have hab : a = b := by cases a <;> cases b <;> simp at e ⊢ <;> omega
    subst hab
    rw [bval_inj l m (by omega) (by omega)]
  | [], b :: m, h, _ => by simp at h
  | a :: l, [], h, _ => by simp at h
namespace Au
/-- each state is behind a word -/
theorem Canon.word {a : Au} (h : a.Canon) : ∀ k : Nat, k < a.next.length → ∃ u, (0 < k → u ≠ []) ∧ ∀ w, a.acc 0 (u ++ w) ↔ a.acc (k : Int) w := by
  intro k
  induction k using Nat.strongRecOn with
  | _ k ih =>
    intro hk
    rcases Nat.eq_zero_or_pos k with rfl | h0
    · exact ⟨[], fun h => absurd h (Nat.lt_irrefl _), fun w => Iff.rfl⟩
    · obtain ⟨i, c, hi, hc, he, _⟩ := h.first k h0 hk
      obtain ⟨u, _, hu⟩ := ih i hi (by omega)
      refine ⟨u ++ [(c : Int)], fun _ => by simp, fun w => ?_⟩
      rw [List.append_assoc, hu, List.singleton_append, acc_cons (by omega) (by omega) (by omega), he]
theorem Canon.size {a : Au} (h : a.Canon) {m : Nat} (hw : Lg.Wid (a.acc 0) m) : a.next.length ≤ 2 ^ m := by
  classical
  obtain ⟨l, hl, hS⟩ := hw
  have key : ∀ k : Nat, k < a.next.length → ∃ S : Lg → Prop, (0 < k → ∀ w, a.acc (k : Int) w ↔ ∃ B, B ∈ l ∧ S B ∧ B w) ∧ (k = 0 → ∀ B, ¬ S B) := by
    intro k hk
    obtain ⟨u, hu, hw⟩ := h.word k hk
    rcases Nat.eq_zero_or_pos k with h0 | h0
    · exact ⟨fun _ => False, fun h => by omega, fun _ B h => h⟩
    · obtain ⟨S, hS⟩ := hS u (hu h0)
      exact ⟨S, fun _ w => (hw w).symm.trans (hS w), fun h => by omega⟩
  let F : Nat → Lg → Prop := fun k => if hk : k < a.next.length then Classical.choose (key k hk) else fun _ => False
  have hF : ∀ k, k < a.next.length → (0 < k → ∀ w, a.acc (k : Int) w ↔ ∃ B, B ∈ l ∧ F k B ∧ B w) ∧ (k = 0 → ∀ B, ¬ F k B) := by
    intro k hk
    have := Classical.choose_spec (key k hk)
    simp only [F, dif_pos hk]
    exact this
  let f : Nat → Nat := fun k => bval (l.map fun B => decide (F k B))
  refine Nat.le_trans (pigeon (2 ^ l.length) a.next.length f (fun i hi => ?_) (fun i j hi hj e => ?_)) (Nat.pow_le_pow_right (by decide) hl)
  · have := bval_lt (l.map fun B => decide (F i B))
    rwa [List.length_map] at this
  · have e := bval_inj _ _ (by rw [List.length_map, List.length_map]) e
    have e2 : ∀ B ∈ l, (F i B ↔ F j B) := fun B hB => by
      have := List.map_inj_left.1 e B hB
      simpa using this
    obtain ⟨i1, i2⟩ := hF i hi
    obtain ⟨j1, j2⟩ := hF j hj
    have emp : ∀ i j : Nat, i < a.next.length → i = 0 → 0 < j → j < a.next.length → (∀ B ∈ l, (F i B ↔ F j B)) → False := fun i j hi h0 hj0 hj e2 => by
      obtain ⟨w, hw⟩ := h.live j hj
      obtain ⟨B, hB, hs, _⟩ := ((hF j hj).1 hj0 w).1 hw
      exact (hF i hi).2 h0 B ((e2 B hB).2 hs)
    rcases Nat.eq_zero_or_pos i with hi0 | hi0
    · rcases Nat.eq_zero_or_pos j with hj0 | hj0
      · omega
      · exact (emp i j hi hi0 hj0 hj e2).elim
    · rcases Nat.eq_zero_or_pos j with hj0 | hj0
      · exact (emp j i hj hj0 hi0 hi fun B hB => (e2 B hB).symm).elim
      · refine h.apart i j hi hj fun w => ?_
        rw [i1 hi0 w, j1 hj0 w]
        exact ⟨fun ⟨B, hB, hs, hw⟩ => ⟨B, hB, (e2 B hB).1 hs, hw⟩, fun ⟨B, hB, hs, hw⟩ => ⟨B, hB, (e2 B hB).2 hs, hw⟩⟩
theorem Ord.size {a : Au} (h : a.Ord) {m : Nat} (hw : Lg.Wid (a.acc 0) m) : a.next.length ≤ 2 ^ m := by
  rcases h with h | rfl
  · exact h.size hw
  · exact Nat.one_le_two_pow
end Au
end Go.Vl
end

section
set_option linter.unusedVariables false
set_option linter.unusedSimpArgs false
namespace Go.Vl
namespace Au
def lives (w : Au) (i : Nat) : Prop := ∃ u, w.acc (i : Int) u
/-- the class that a letter leads to -/
def cto (w : Au) (out : Nat → Int) (i c : Nat) : Int := if 0 ≤ w.to (i : Int) (c : Int) then out (w.to (i : Int) (c : Int)).toNat else -1
/-- classes that are yet to be divided: so many -/
structure Moore (w : Au) (out : Nat → Int) (many : Nat) : Prop where
  neg : ∀ i, i < w.next.length → (out i < 0 ↔ ¬ w.lives i)
  same : ∀ i j, i < w.next.length → j < w.next.length → w.lives i → (∀ u, w.acc (i : Int) u ↔ w.acc (j : Int) u) → out i = out j
  fin : ∀ i j, i < w.next.length → j < w.next.length → 0 ≤ out i → out i = out j → w.final.getD i false = w.final.getD j false
  cnt : many ≠ 0 → (∀ i, i < w.next.length → out i < (many : Int)) ∧ ∀ v : Nat, v < many → ∃ i, i < w.next.length ∧ out i = (v : Int)
/-- they are divided once more, into m -/
structure Div (w : Au) (out next : Nat → Int) (m : Nat) : Prop where
  neg : ∀ i, i < w.next.length → (next i < 0 ↔ out i < 0)
  eq : ∀ i j, i < w.next.length → j < w.next.length → 0 ≤ out i → 0 ≤ out j → (next i = next j ↔ (out i = out j ∧ ∀ c : Nat, c < 8 → w.cto out i c = w.cto out j c))
  lt : ∀ i, i < w.next.length → next i < (m : Int)
  hit : ∀ v : Nat, v < m → ∃ i, i < w.next.length ∧ next i = (v : Int)
theorem to_state {w : Au} (hs : w.Shape) {i c : Nat} (hi : i < w.next.length) (hc : c < 8) : w.to (i : Int) (c : Int) < 0 ∨ ∃ j : Nat, j < w.next.length ∧ w.to (i : Int) (c : Int) = (j : Int) := by
  have := to_range hs (i := (i : Int)) (c := (c : Int)) (by omega) (by omega) (by omega) (by omega)
  rcases Int.lt_or_le (w.to (i : Int) (c : Int)) 0 with h | h
  · exact .inl h
  · exact .inr ⟨(w.to (i : Int) (c : Int)).toNat, by omega, by omega⟩
theorem cto_neg {w : Au} {out : Nat → Int} {i c : Nat} (h : w.to (i : Int) (c : Int) < 0) : w.cto out i c = -1 := by
  unfold cto; rw [if_neg (by omega)]
theorem cto_nat {w : Au} {out : Nat → Int} {i c j : Nat} (h : w.to (i : Int) (c : Int) = (j : Int)) : w.cto out i c = out j := by
  unfold cto; rw [h, if_pos (by omega)]; rfl
theorem acc_step {w : Au} (i : Nat) (c : Nat) (hc : c < 8) (u : List Int) : w.acc (i : Int) ((c : Int) :: u) ↔ w.acc (w.to (i : Int) (c : Int)) u := acc_cons (by omega) (by omega) (by omega)
section div
variable {w : Au} {out next : Nat → Int} {many m : Nat}
/-- what means the same leads to the same class -/
theorem Moore.step (hs : w.Shape) (h : w.Moore out many) {i j : Nat} (hi : i < w.next.length) (hj : j < w.next.length) (hl : ∀ u, w.acc (i : Int) u ↔ w.acc (j : Int) u) {c : Nat} (hc : c < 8) (hneg1 : ∀ k, k < w.next.length → out k < 0 → out k = -1) : w.cto out i c = w.cto out j c := by
  have hl2 : ∀ u, w.acc (w.to (i : Int) (c : Int)) u ↔ w.acc (w.to (j : Int) (c : Int)) u := fun u => by
    rw [← acc_step i c hc, ← acc_step j c hc]; exact hl _
  rcases to_state hs hi hc with h1 | ⟨a, ha, h1⟩ <;> rcases to_state hs hj hc with h2 | ⟨b, hb, h2⟩
  · rw [cto_neg h1, cto_neg h2]
  · rw [cto_neg h1, cto_nat h2]
    rw [h2] at hl2
    have : out b < 0 := (h.neg b hb).2 fun ⟨u, hu⟩ => acc_neg h1 u ((hl2 u).2 hu)
    rw [hneg1 b hb this]
  · rw [cto_nat h1, cto_neg h2]
    rw [h1] at hl2
    have : out a < 0 := (h.neg a ha).2 fun ⟨u, hu⟩ => acc_neg h2 u ((hl2 u).1 hu)
    rw [hneg1 a ha this]
  · rw [cto_nat h1, cto_nat h2]
    rw [h1, h2] at hl2
    by_cases hlv : w.lives a
    · exact h.same a b ha hb hlv hl2
    · have h3 := (h.neg a ha).2 hlv
      have h4 : out b < 0 := (h.neg b hb).2 fun ⟨u, hu⟩ => hlv ⟨u, (hl2 u).2 hu⟩
      rw [hneg1 a ha h3, hneg1 b hb h4]
theorem Moore.div (hs : w.Shape) (h : w.Moore out many) (hn : ∀ k, k < w.next.length → out k < 0 → out k = -1) (hd : w.Div out next m) : w.Moore next m := by
  refine ⟨fun i hi => (hd.neg i hi).trans (h.neg i hi), fun i j hi hj hl he => ?_, fun i j hi hj h0 he => ?_, fun _ => ⟨hd.lt, hd.hit⟩⟩
  · have hi0 : 0 ≤ out i := Int.not_lt.1 fun h' => ((h.neg i hi).1 h') hl
    have hlj : w.lives j := by obtain ⟨u, hu⟩ := hl; exact ⟨u, (he u).1 hu⟩
    have hj0 : 0 ≤ out j := Int.not_lt.1 fun h' => ((h.neg j hj).1 h') hlj
    exact (hd.eq i j hi hj hi0 hj0).2 ⟨h.same i j hi hj hl he, fun c hc => h.step hs hi hj he hc hn⟩
  · have hi0 : 0 ≤ out i := Int.not_lt.1 fun h' => by have := (hd.neg i hi).2 h'; omega
    have hj0 : 0 ≤ out j := Int.not_lt.1 fun h' => by have := (hd.neg j hj).2 h'; omega
    exact h.fin i j hi hj hi0 ((hd.eq i j hi hj hi0 hj0).1 he).1
/-- not fewer than there were -/
theorem Moore.grows (h : w.Moore out many) (hd : w.Div out next m) : many ≤ m := by
  classical
  rcases Nat.eq_zero_or_pos many with h0 | h0
  · omega
  · obtain ⟨_, hh⟩ := h.cnt (by omega)
    let g : Nat → Nat := fun v => if hv : v < many then (next (Classical.choose (hh v hv))).toNat else 0
    refine pigeon m many g (fun v hv => ?_) (fun v u hv hu e => ?_)
    · simp only [g, dif_pos hv]
      obtain ⟨h1, h2⟩ := Classical.choose_spec (hh v hv)
      have h3 := hd.lt _ h1
      have h4 : ¬ next (Classical.choose (hh v hv)) < 0 := fun h' => by have := (hd.neg _ h1).1 h'; omega
      omega
    · simp only [g, dif_pos hv, dif_pos hu] at e
      obtain ⟨h1, h2⟩ := Classical.choose_spec (hh v hv)
      obtain ⟨h3, h4⟩ := Classical.choose_spec (hh u hu)
      have h5 : ¬ next (Classical.choose (hh v hv)) < 0 := fun h' => by have := (hd.neg _ h1).1 h'; omega
      have h6 : ¬ next (Classical.choose (hh u hu)) < 0 := fun h' => by have := (hd.neg _ h3).1 h'; omega
      have := ((hd.eq _ _ h1 h3 (by omega) (by omega)).1 (by omega)).1
      omega
/-- not more than there are states -/
theorem Div.most (hd : w.Div out next m) : m ≤ w.next.length := by
  classical
  let g : Nat → Nat := fun v => if hv : v < m then Classical.choose (hd.hit v hv) else 0
  refine pigeon w.next.length m g (fun v hv => ?_) (fun v u hv hu e => ?_)
  · simp only [g, dif_pos hv]; exact (Classical.choose_spec (hd.hit v hv)).1
  · simp only [g, dif_pos hv, dif_pos hu] at e
    have h1 := (Classical.choose_spec (hd.hit v hv)).2
    have h2 := (Classical.choose_spec (hd.hit u hu)).2
    rw [e] at h1
    omega
/-- as_ many as_ before: the same ones -/
theorem Moore.still (h : w.Moore out many) (hd : w.Div out next many) {i j : Nat} (hi : i < w.next.length) (hj : j < w.next.length) (hi0 : 0 ≤ out i) (he : out i = out j) : next i = next j := by
  classical
  by_cases hne : next i = next j
  · exact hne
  exfalso
  have hj0 : 0 ≤ out j := by omega
  have ni : 0 ≤ next i := Int.not_lt.1 fun h' => by have := (hd.neg i hi).1 h'; omega
  have nj : 0 ≤ next j := Int.not_lt.1 fun h' => by have := (hd.neg j hj).1 h'; omega
  have hm : many ≠ 0 := fun h0 => by have := hd.lt i hi; omega
  obtain ⟨hlt, hh⟩ := h.cnt hm
  -- a state of each class; that of i's class is i
  let rep : Nat → Nat := fun v => if (v : Int) = out i then i else if hv : v < many then Classical.choose (hh v hv) else 0
  have hrep : ∀ v, v < many → rep v < w.next.length ∧ out (rep v) = (v : Int) := fun v hv => by
    by_cases e : (v : Int) = out i
    · have : rep v = i := if_pos e
      rw [this]; exact ⟨hi, e.symm⟩
    · have : rep v = Classical.choose (hh v hv) := by simp only [rep]; rw [if_neg e, dif_pos hv]
      rw [this]; exact Classical.choose_spec (hh v hv)
  have hnot : ∀ v, v < many → next (rep v) ≠ next j := fun v hv e => by
    obtain ⟨h1, h2⟩ := hrep v hv
    have h3 : out (rep v) = out j := ((hd.eq _ _ h1 hj (by omega) hj0).1 e).1
    have h4 : rep v = i := by simp only [rep]; rw [if_pos (by omega)]
    rw [h4] at e
    exact hne e
  have hpos : ∀ v, v < many → 0 ≤ next (rep v) := fun v hv => by
    obtain ⟨h1, h2⟩ := hrep v hv
    exact Int.not_lt.1 fun h' => by have := (hd.neg _ h1).1 h'; omega
  have := pigeon (many - 1) many (fun v => if next (rep v) < next j then (next (rep v)).toNat else (next (rep v)).toNat - 1) (fun v hv => by
      have h1 := hnot v hv; have h2 := hpos v hv; have h3 := hd.lt _ (hrep v hv).1; have h4 := hd.lt j hj
      show (if next (rep v) < next j then (next (rep v)).toNat else (next (rep v)).toNat - 1) < many - 1
      split <;> omega) (fun v u hv hu e => by
      have h1 := hnot v hv; have h2 := hpos v hv
      have g1 := hnot u hu; have g2 := hpos u hu
      have e : next (rep v) = next (rep u) := by
        have e : (if next (rep v) < next j then (next (rep v)).toNat else (next (rep v)).toNat - 1) = (if next (rep u) < next j then (next (rep u)).toNat else (next (rep u)).toNat - 1) := e
        split at e <;> split at e <;> omega
      obtain ⟨a1, a2⟩ := hrep v hv
      obtain ⟨b1, b2⟩ := hrep u hu
      have := ((hd.eq _ _ a1 b1 (by omega) (by omega)).1 e).1
      omega)
  omega
/-- as_ many as_ before: those of one class mean the same -/
theorem Moore.done (hs : w.Shape) (h : w.Moore out many) (hd : w.Div out next many) (hn : ∀ k, k < w.next.length → out k < 0 → out k = -1) :
    ∀ (u : List Int) (i j : Nat), i < w.next.length → j < w.next.length → 0 ≤ next i → next i = next j → (w.acc (i : Int) u ↔ w.acc (j : Int) u) := by
  intro u
  induction u with
  | nil =>
    intro i j hi hj h0 he
    have hi0 : 0 ≤ out i := Int.not_lt.1 fun h' => by have := (hd.neg i hi).2 h'; omega
    have hj0 : 0 ≤ out j := Int.not_lt.1 fun h' => by have := (hd.neg j hj).2 h'; omega
    have := h.fin i j hi hj hi0 ((hd.eq i j hi hj hi0 hj0).1 he).1
    simp only [acc, Int.toNat_natCast, this]
    exact ⟨fun h => ⟨by omega, h.2⟩, fun h => ⟨by omega, h.2⟩⟩
  | cons c u ih =>
    intro i j hi hj h0 he
    have hi0 : 0 ≤ out i := Int.not_lt.1 fun h' => by have := (hd.neg i hi).2 h'; omega
    have hj0 : 0 ≤ out j := Int.not_lt.1 fun h' => by have := (hd.neg j hj).2 h'; omega
    by_cases hc : 0 ≤ c ∧ c < 8
    · obtain ⟨c, rfl⟩ : ∃ k : Nat, c = (k : Int) := ⟨c.toNat, by omega⟩
      rw [acc_step i c (by omega), acc_step j c (by omega)]
      have hct := ((hd.eq i j hi hj hi0 hj0).1 he).2 c (by omega)
      rcases to_state hs hi (c := c) (by omega) with h1 | ⟨a, ha, h1⟩ <;> rcases to_state hs hj (c := c) (by omega) with h2 | ⟨b, hb, h2⟩
      · exact ⟨fun h => absurd h (acc_neg h1 _), fun h => absurd h (acc_neg h2 _)⟩
      · rw [cto_neg h1, cto_nat h2] at hct
        have hnl := (h.neg b hb).1 (by omega)
        rw [h2]
        exact ⟨fun h => absurd h (acc_neg h1 _), fun h => absurd ⟨u, h⟩ hnl⟩
      · rw [cto_nat h1, cto_neg h2] at hct
        have hnl := (h.neg a ha).1 (by omega)
        rw [h1]
        exact ⟨fun h => absurd ⟨u, h⟩ hnl, fun h => absurd h (acc_neg h2 _)⟩
      · rw [cto_nat h1, cto_nat h2] at hct
        rw [h1, h2]
        rcases Int.lt_or_le (out a) 0 with h3 | h3
        · have n1 := (h.neg a ha).1 h3
          have n2 := (h.neg b hb).1 (by omega)
          exact ⟨fun h => absurd ⟨u, h⟩ n1, fun h => absurd ⟨u, h⟩ n2⟩
        · have h4 := h.still hd ha hb h3 hct
          refine ih a b ha hb (Int.not_lt.1 fun h' => by have := (hd.neg a ha).1 h'; omega) h4
    · simp only [acc]
      exact ⟨fun h => absurd ⟨h.2.1, h.2.2.1⟩ hc, fun h => absurd ⟨h.2.1, h.2.2.1⟩ hc⟩
end div
/-- CLASSES OF STATES: those of one class mean the same; -1: they lead nowhere. -/
structure Cls (w : Au) (cl : Nat → Int) : Prop where
  neg : ∀ i, i < w.next.length → (cl i < 0 ↔ ¬ w.lives i)
  eq : ∀ i j, i < w.next.length → j < w.next.length → 0 ≤ cl i → (cl i = cl j ↔ ∀ u, w.acc (i : Int) u ↔ w.acc (j : Int) u)
/-! ### a machine in order -/
/-- states (of the wide machine) that are met, and rows: all entries ahead of (i, c) -/
structure Bfs (w : Au) (cl : Nat → Int) (S : List Nat) (T : Nat → Nat → Int) (i c : Nat) : Prop where
  zero : S.getD 0 0 = 0 ∧ 0 < S.length
  lt : ∀ k, k < S.length → S.getD k 0 < w.next.length ∧ 0 ≤ cl (S.getD k 0)
  apart : ∀ j k, j < S.length → k < S.length → cl (S.getD j 0) = cl (S.getD k 0) → j = k
  ent : ∀ i' c', (i' < i ∨ i' = i ∧ c' < c) → c' < 8 → i' < S.length → (T i' c' = -1 ∧ w.cto cl (S.getD i' 0) c' < 0) ∨ ∃ k : Nat, k < S.length ∧ T i' c' = (k : Int) ∧ cl (S.getD k 0) = w.cto cl (S.getD i' 0) c'
  first : ∀ k, 0 < k → k < S.length → ∃ i' c', (i' < i ∨ i' = i ∧ c' < c) ∧ i' < k ∧ c' < 8 ∧ T i' c' = (k : Int) ∧ ∀ i2 c2, (i2 < i' ∨ i2 = i' ∧ c2 < c') → c2 < 8 → T i2 c2 < (k : Int)
theorem Bfs.congr {w : Au} {cl : Nat → Int} {S : List Nat} {T T' : Nat → Nat → Int} {i c : Nat} (h : Bfs w cl S T i c) (hT : ∀ i' c', (i' < i ∨ i' = i ∧ c' < c) → c' < 8 → T' i' c' = T i' c') : Bfs w cl S T' i c := by
  refine ⟨h.zero, h.lt, h.apart, fun i' c' hp hc hi => ?_, fun k h0 hk => ?_⟩
  · rw [hT i' c' hp hc]; exact h.ent i' c' hp hc hi
  · obtain ⟨i', c', hp, h1, h2, h3, h4⟩ := h.first k h0 hk
    refine ⟨i', c', hp, h1, h2, by rw [hT i' c' hp h2]; exact h3, fun i2 c2 hp2 hc2 => ?_⟩
    rw [hT i2 c2 (by omega) hc2]; exact h4 i2 c2 hp2 hc2
theorem Bfs.start {w : Au} {cl : Nat → Int} (T : Nat → Nat → Int) (hs : w.Shape) (h : 0 ≤ cl 0) : Bfs w cl [0] T 0 0 := by
  refine ⟨⟨rfl, by simp⟩, fun k hk => ?_, fun j k hj hk _ => ?_, fun i' c' hp _ _ => by omega, fun k h0 hk => ?_⟩
  · obtain rfl : k = 0 := by simpa using hk
    exact ⟨hs.pos, h⟩
  · simp only [List.length_singleton] at hj hk; omega
  · simp only [List.length_singleton] at hk; omega
/-- a row is done -/
theorem Bfs.row {w : Au} {cl : Nat → Int} {S : List Nat} {T : Nat → Nat → Int} {i : Nat} (h : Bfs w cl S T i 8) : Bfs w cl S T (i + 1) 0 := by
  refine ⟨h.zero, h.lt, h.apart, fun i' c' hp hc hi => h.ent i' c' (by omega) hc hi, fun k h0 hk => ?_⟩
  obtain ⟨i', c', hp, h1, h2, h3, h4⟩ := h.first k h0 hk
  exact ⟨i', c', by omega, h1, h2, h3, h4⟩
section bfs
variable {w : Au} {cl : Nat → Int} {S : List Nat} {T : Nat → Nat → Int} {i c : Nat}
/-- a letter that leads nowhere -/
theorem Bfs.none (h : Bfs w cl S T i c) (hT : T i c = -1) (hn : w.cto cl (S.getD i 0) c < 0) : Bfs w cl S T i (c + 1) := by
  refine ⟨h.zero, h.lt, h.apart, fun i' c' hp hc hi => ?_, fun k h0 hk => ?_⟩
  · by_cases hh : i' < i ∨ i' = i ∧ c' < c
    · exact h.ent i' c' hh hc hi
    · obtain ⟨rfl, rfl⟩ : i' = i ∧ c' = c := by omega
      exact .inl ⟨hT, hn⟩
  · obtain ⟨i', c', hp, h1, h2, h3, h4⟩ := h.first k h0 hk
    exact ⟨i', c', by omega, h1, h2, h3, h4⟩
/-- to a state that was met -/
theorem Bfs.old (h : Bfs w cl S T i c) {k : Nat} (hT : T i c = (k : Int)) (hk : k < S.length) (he : cl (S.getD k 0) = w.cto cl (S.getD i 0) c) : Bfs w cl S T i (c + 1) := by
  refine ⟨h.zero, h.lt, h.apart, fun i' c' hp hc hi => ?_, fun k h0 hk => ?_⟩
  · by_cases hh : i' < i ∨ i' = i ∧ c' < c
    · exact h.ent i' c' hh hc hi
    · obtain ⟨rfl, rfl⟩ : i' = i ∧ c' = c := by omega
      exact .inr ⟨k, hk, hT, he⟩
  · obtain ⟨i', c', hp, h1, h2, h3, h4⟩ := h.first k h0 hk
    exact ⟨i', c', by omega, h1, h2, h3, h4⟩
theorem getD_snoc_lt {α : Type} (z : α) (l : List α) (x : α) (k : Nat) (h : k < l.length) : (l ++ [x]).getD k z = l.getD k z := by
  rw [List.getD_eq_getElem?_getD, List.getD_eq_getElem?_getD, List.getElem?_append_left h]
theorem getD_snoc_eq {α : Type} (z : α) (l : List α) (x : α) : (l ++ [x]).getD l.length z = x := by
  rw [List.getD_eq_getElem?_getD, List.getElem?_append_right (Nat.le_refl _)]; simp
/-- to a new one -/
theorem Bfs.new (h : Bfs w cl S T i c) {t : Nat} (hT : T i c = (S.length : Int)) (hi : i < S.length) (hc : c < 8) (ht : t < w.next.length) (hto : w.to ((S.getD i 0 : Nat) : Int) (c : Int) = (t : Int)) (h0 : 0 ≤ cl t) (hnew : ∀ k, k < S.length → cl (S.getD k 0) ≠ cl t) :
    Bfs w cl (S ++ [t]) T i (c + 1) := by
  have hl : (S ++ [t]).length = S.length + 1 := by simp
  refine ⟨⟨by rw [getD_snoc_lt 0 S t 0 h.zero.2]; exact h.zero.1, by omega⟩, fun k hk => ?_, fun j k hj hk e => ?_, fun i' c' hp hc' hi' => ?_, fun k hk0 hk => ?_⟩
  · rcases Nat.lt_or_ge k S.length with h1 | h1
    · rw [getD_snoc_lt 0 S t k h1]; exact h.lt k h1
    · obtain rfl : k = S.length := by omega
      rw [getD_snoc_eq]; exact ⟨ht, h0⟩
  · rcases Nat.lt_or_ge k S.length with h1 | h1 <;> rcases Nat.lt_or_ge j S.length with h2 | h2
    · rw [getD_snoc_lt 0 S t k h1, getD_snoc_lt 0 S t j h2] at e; exact h.apart j k h2 h1 e
    · obtain rfl : j = S.length := by omega
      rw [getD_snoc_lt 0 S t k h1, getD_snoc_eq] at e; exact absurd e.symm (hnew k h1)
    · obtain rfl : k = S.length := by omega
      rw [getD_snoc_lt 0 S t j h2, getD_snoc_eq] at e; exact absurd e (hnew j h2)
    · omega
  · by_cases hh : i' < i ∨ i' = i ∧ c' < c
    · have hi2 : i' < S.length := by omega
      rw [getD_snoc_lt 0 S t i' hi2]
      rcases h.ent i' c' hh hc' hi2 with h1 | ⟨k, h1, h2, h3⟩
      · exact .inl h1
      · exact .inr ⟨k, by omega, h2, by rw [getD_snoc_lt 0 S t k h1]; exact h3⟩
    · obtain ⟨rfl, rfl⟩ : i' = i ∧ c' = c := by omega
      refine .inr ⟨S.length, by omega, hT, ?_⟩
      rw [getD_snoc_eq, getD_snoc_lt 0 S t i' hi, cto_nat hto]
  · rcases Nat.lt_or_ge k S.length with h1 | h1
    · obtain ⟨i', c', hp, h2, h3, h4, h5⟩ := h.first k hk0 h1
      exact ⟨i', c', by omega, h2, h3, h4, h5⟩
    · obtain rfl : k = S.length := by omega
      refine ⟨i, c, by omega, hi, hc, hT, fun i2 c2 hp2 hc2 => ?_⟩
      rcases h.ent i2 c2 (by omega) hc2 (by omega) with ⟨h2, _⟩ | ⟨k, h2, h3, _⟩ <;> omega
end bfs
end Au
end Go.Vl
end
