/-
  Merged: Change WParseS WEqD WStyled ExprR ExprP WTextS StyJ WDecls StyB LawS.
-/
import Derived.Test.YtlglnmafddnmmaaDoorG6
import Derived.Lib.Join

section
set_option linter.unusedVariables false
set_option linter.unusedSimpArgs false
namespace Go.Vl
/-- a change -/
structure Ch where
  kind : Int
  path : List Int
  node : Nd
abbrev cav (c : Ch) : AV := .agg [.int c.kind, .sl 1 (c.path.map AV.int), .str c.node.name, .sl 2 (c.node.attrs.map dav), .str c.node.text, .sl 4 (c.node.parts.map Nd.av)]
abbrev Ch.dfl : Ch := ⟨0, [], Nd.dflt⟩
namespace Nd
abbrev withP (d : Nd) (q : List Nd) : Nd := mk d.name d.attrs d.text q
/-- x instead of what is at a path -/
def setP : List Nd → List Int → Nd → List Nd
  | l, [], _ => l
  | l, i :: p, x => l.set i.toNat (if p = [] then x else withP (l.getD i.toNat dflt) (setP (l.getD i.toNat dflt).parts p x))
/-- x behind all that is at a path -/
def putP : List Nd → List Int → Nd → List Nd
  | l, [], _ => l
  | l, i :: p, x => if p = [] then l ++ [x] else l.set i.toNat (withP (l.getD i.toNat dflt) (putP (l.getD i.toNat dflt).parts p x))
/-- a path behind all of a tree's: where putP puts -/
def endP : List Nd → List Int → Prop
  | _, [] => False
  | l, k :: p => ∃ i : Nat, k = (i : Int) ∧ ((p = [] ∧ i = l.length) ∨ (p ≠ [] ∧ i < l.length ∧ (l.getD i dflt).name ≠ [] ∧ endP (l.getD i dflt).parts p))
end Nd
section app0
open Go Go.Sem
variable {x : Cx} {L : List En} {M : List ME} {ty : TypeId} {pos : String} {aft : Array Edge}
/-- append onto nil: a row of its own that nothing writes -/
theorem Sv.app0 {d : Tmp} {T T' E k bytes : Nat} {z : Value} {o1 o2 : Operand} {xs : List AV} (h1 : Ov true L o1 (.lit (.slice none 0 0))) (h2 : SrcOv x L M o2 k xs) (hT : x.P.underlying T = some (.slice E)) (hT' : NotInt x.P T') (hE : Ty x.P E k bytes z) (hzk : z.cells.size = k)
    (hb1 : Nat.ble 1 bytes = true) (hb : xs.length * bytes ≤ 140737488355328) : Sv x L M ⟨some d, .call ⟨.builtin .append, #[o1, o2], #[T, T']⟩, ty, pos, aft, none⟩ (.sl k xs) := by
  intro a w hs K Q hK
  have hsrc := h2.src hs
  have e1 : a.eval o1 = .slice none 0 0 := h1.lit rfl hs
  have hb1' := Nat.le_of_ble_eq_true hb1
  have h63 : xs.length ≤ maxLen := by
    have : xs.length ≤ xs.length * bytes := Nat.le_mul_of_pos_right _ hb1'
    simp only [maxLen]; omega
  unfold Oper.wp
  by_cases hx : xs = []
  · subst hx
    obtain ⟨hlen, news, hn1, _, _, hn4⟩ := hsrc
    have hf := hn4 w rfl
    obtain ⟨ii, hi1, hi2, hi3, hi4⟩ := hE
    have hlen' : (Builtin.lenOf (a.eval o2)).run x.P w = .ok 0 w := hlen
    have hf' : (Builtin.firstCells k 0 (a.eval o2)).run x.P w = .ok news w := hf
    have hr : (execOp a.eval ⟨some d, .call ⟨.builtin .append, #[o1, o2], #[T, T']⟩, ty, pos, aft, none⟩).run x.P w = .ok (.value (.slice none 0 0)) w := by
      rcases hT' with ⟨e', hd'⟩ | hd' <;>
        simp [execOp, resolve, invoke, builtin, e1, Builtin.append_, run_underlying hT, run_underlying hd', sizeOf, typeInfo, hi1, hi2, hlen', hf']
    rw [hr]
    exact hK _ _ (fun b c T fr hb hc => ⟨hb, hc⟩) hs.mem hs.fr (Rep.slI (es := []) (Nat.le_refl _) (by simp [maxLen]) (.inl rfl))
  · have hpos : 0 < xs.length := List.length_pos_iff.2 hx
    have hold : Src0 x.P w (bl M ++ x.F) k (.slice none 0 0) [] := src0_cells rfl (.inl rfl)
    obtain ⟨cells, hsz, hrE, hrun⟩ := run_append_new (ty := ty) hT hT' hE hzk hold hsrc.to0 rfl (by omega) (by simpa using hb) hb1'
    simp only [Nat.zero_add, List.nil_append] at hrun hrE hsz
    obtain ⟨hg1, hg2⟩ := cap_cut w xs.length 0 E h63
    have hd1 : St x L M a w.drew := hs.same rfl rfl rfl rfl
    obtain ⟨hs', hk, hnew⟩ := hd1.allocI (.cells cells E)
    have hk0 : Keep w (bl M ++ x.F) (w.drew.alloc (.cells cells E)) (bl M ++ x.F) := hk
    have hr : (execOp a.eval ⟨some d, .call ⟨.builtin .append, #[o1, o2], #[T, T']⟩, ty, pos, aft, none⟩).run x.P w = .ok (.value (.slice (some ⟨w.heap.size, 0, none⟩) xs.length (grownCap w xs.length 0 E))) (w.drew.alloc (.cells cells E)) := by
      simp only [execOp, resolve, invoke, builtin, Sem.run_bind, Sem.run_pure, Result.andThen_ok, List.map_toArray, List.map_cons, List.map_nil, e1, hrun]
    rw [hr]
    refine hK _ _ hk0 hs'.mem hs'.fr ?_
    exact Rep.slI hg1 hg2 (.inr ⟨w.heap.size, 0, cells, E, (0, 0), rfl, hnew, alloc_new w.drew _, RepE.keep hk0 _ _ _ (by simpa using hrE)⟩)
theorem DP.app0 {ops : Array Oper} {R : Act → World → Prop} {rest : List Oper} {done : List En} {d : Tmp} {T T' E k bytes : Nat} {z : Value} {o1 o2 : Operand} {xs : List AV} (h1 : Ov true (sel (Oper.looksAt ops ⟨some d, .call ⟨.builtin .append, #[o1, o2], #[T, T']⟩, ty, pos, aft, none⟩) (done ++ L)) o1 (.lit (.slice none 0 0)))
    (h2 : SrcOv x (sel (Oper.looksAt ops ⟨some d, .call ⟨.builtin .append, #[o1, o2], #[T, T']⟩, ty, pos, aft, none⟩) (done ++ L)) M o2 k xs) (hT : x.P.underlying T = some (.slice E)) (hT' : NotInt x.P T') (hE : Ty x.P E k bytes z) (hzk : z.cells.size = k)
    (hb1 : Nat.ble 1 bytes = true) (hb : xs.length * bytes ≤ 140737488355328) (hd : Nat.blt d x.n = true) (next : DP x M ops L R rest ((d, true, .sl k xs) :: done)) :
    DP x M ops L R (⟨some d, .call ⟨.builtin .append, #[o1, o2], #[T, T']⟩, ty, pos, aft, none⟩ :: rest) done := ⟨d, true, _, rfl, hd, .inl ⟨rfl, rfl⟩, fun _ => Sv.app0 h1 h2 hT hT' hE hzk hb1 hb, next⟩
theorem DE.app0 {ι : Type} {Mf : (Nat → Bool) → ι → List ME} {i0 i : Nat} {ops : Array Oper} {R : Act → World → Prop} {rest : List Oper} {done : ι → List En} {d : Tmp} {T T' E k bytes : Nat} {z : Value} {o1 o2 : Operand} {xs : List AV}
    (h1 : ∀ c, Ov true (sel (Oper.looksAt ops ⟨some d, .call ⟨.builtin .append, #[o1, o2], #[T, T']⟩, ty, pos, aft, none⟩) (done c ++ L)) o1 (.lit (.slice none 0 0)))
    (h2 : ∀ e c, SrcOv x (sel (Oper.looksAt ops ⟨some d, .call ⟨.builtin .append, #[o1, o2], #[T, T']⟩, ty, pos, aft, none⟩) (done c ++ L)) (Mf e c) o2 k xs) (hT : x.P.underlying T = some (.slice E)) (hT' : NotInt x.P T') (hE : Ty x.P E k bytes z) (hzk : z.cells.size = k)
    (hb1 : Nat.ble 1 bytes = true) (hb : xs.length * bytes ≤ 140737488355328) (hdn : Nat.blt d x.n = true)
    (hMf : ∀ e c, Mf (addE e i) c = Mf e c) (next : DE x ops L Mf i0 R (i + 1) rest (fun c => (d, true, .sl k xs) :: done c)) :
    DE x ops L Mf i0 R i (⟨some d, .call ⟨.builtin .append, #[o1, o2], #[T, T']⟩, ty, pos, aft, none⟩ :: rest) done :=
  DE.pure rfl hdn (fun _ => .inl ⟨rfl, rfl⟩) (fun e c _ _ => Sv.app0 (h1 c) (h2 e c) hT hT' hE hzk hb1 hb) hMf (.inr fun _ _ => rfl) next
end app0
end Go.Vl
end

section
set_option linter.unusedVariables false
set_option linter.unusedSimpArgs false
set_option maxRecDepth 100000
namespace Go.Proofs.YtlglnmafddnmmaaDoor
open Go.Vl

namespace WParseS
theorem ty9 : Ty Tryd.prog 9 1 16 (.string ⟨#[]⟩) := Ty.of (by kernel_rfl)
theorem ty60 : Ty Tryd.prog 60 2 32 (.agg #[.string ⟨#[]⟩, .string ⟨#[]⟩]) := Ty.of (by kernel_rfl)
theorem ag9 : IsAgg Tryd.prog 9 false := ⟨_, Tryd.underlying9, rfl⟩
theorem ag60 : IsAgg Tryd.prog 60 true := ⟨_, Tryd.underlying60, rfl⟩
theorem fa60_0 : FieldAt Tryd.prog 60 0 0 1 false := ⟨_, _, Tryd.underlying60, rfl, rfl, ty9.size, ag9, by decide⟩
theorem fa60_1 : FieldAt Tryd.prog 60 1 1 1 false := ⟨_, _, Tryd.underlying60, rfl, rfl, ty9.size, ag9, by decide⟩
theorem st60 : StructAt Tryd.prog 60 [(0, 1), (1, 1)] := ⟨_, Tryd.underlying60, rfl, ty9.size, rfl, ty9.size, trivial⟩
theorem ni54 : NotInt Tryd.prog 54 := .inl ⟨_, Tryd.underlying54⟩
theorem c_parse (s : List UInt8) (hs : s.length ≤ 65536) (M0 : List ME) (hC : ∀ s p : List UInt8, s.length ≤ 1048576 → FnC Tryd.prog 33 [.str s, .str p] M0 (fun r M => r = .tup [.str (Lib.cut s p).1, .str (Lib.cut s p).2.1, .bool (Lib.cut s p).2.2] ∧ M = M0)) : FnC Tryd.prog 41 [.str s] M0 (fun r M => r = .sl 2 ((Sty.parse s).map dav) ∧ M = M0) :=  by
  refine FnC.mk Tryd.func41 (by kernel_rfl) rfl Tryd.ntmps41 rfl (fun w0 F => ?_)
  have hbl := Sty.bare_len s
  have hpl0 := Sty.pieces_len (Sty.bare s)
  have hpi := Sty.pieces_in (Sty.bare s)
  refine W.seq ?_
  refine W.region ?_
  refine W.q (Ev.assign .k) rfl ?_
  refine W.nil ?_
  refine W.then ?_
  refine W.seq ?_
  refine W.region ?_
  refine W.q (Ev.assign .k) rfl ?_
  refine W.nil ?_
  refine W.then ?_
  refine W.seq ?_
  refine W.seq ?_
  refine W.region ?_
  refine W.q (Ev.move (.t rfl)) rfl ?_
  refine W.call (WBare.c_bare s (by omega) M0 hC) ⟨(.t rfl), trivial⟩ ((List.Perm.of_eq (List.append_nil M0).symm)) rfl ?_
  rintro _ M' ⟨rfl, hM'⟩
  rw [hM']
  rw [List.append_nil]
  refine W.call (WPieces.c_pieces (Sty.bare s) (by omega)) ⟨(.t rfl), trivial⟩ (.refl _) rfl ?_
  rintro _ _ ⟨rfl, rfl⟩
  obtain ⟨P, hP⟩ : ∃ P, Sty.pieces (Sty.bare s) = P := ⟨_, rfl⟩
  rw [hP] at hpl0 hpi ⊢
  (refine W.q (Ev.lensl (.t rfl) Tryd.underlying23) rfl ?_)
  refine W.q (Ev.move .k) rfl ?_
  refine W.nil ?_
  refine W.then ?_
  refine W.block ?_
  refine W.own_nil 60 2 ?_
  refine W.loop (D := []) (ι := Nat × Value) (fun z => [(14, true, .int (z.1 : Int)), (13, true, .int ((P.map AV.str).length : Int)), (12, true, .sl 1 (P.map AV.str)), (3, true, .lit z.2)]) (fun z => .arr z.2 60 2 ((Sty.decs (P.take z.1)).map dav) :: M0) (fun z => z.1 ≤ P.length) (fun z => P.length - z.1) (0, .slice none 0 0) ⟨rfl, rfl, rfl, rfl, trivial⟩ (by ((rw [List.append_nil]; exact .refl _))) (Nat.zero_le _) ?_
  rintro ⟨i, v⟩ hi
  dsimp only at hi ⊢
  have hml : (P.map AV.str).length = P.length := List.length_map ..
  have hdl := Sty.decs_len (P.take i)
  rw [List.length_take] at hdl
  rcases (show i < P.length ∨ i = P.length from by omega) with hlt | hend
  · have hga := getD_mapG AV.str [] P i hlt
    have htk := take_getDG [] P i hlt
    have hqm := hpi _ (getD_memG [] P i hlt)
    generalize P.getD i [] = q at hga htk hqm
    have hsn := Sty.decs_snoc (P.take i) q
    have hcl := Sty.cut_len q [58]
    have hc1 := hcl.1
    have hc2 := hcl.2.1
    have ht1 := Sty.trim_len (Lib.cut q [58]).1 Sty.spc
    have hd1 : (Sty.dec1 q).1.length ≤ q.length := by show (Sty.small _).length ≤ _; unfold Sty.small; rw [List.length_map]; omega
    refine W.seq ?_
    refine W.region ?_
    refine W.q (Ev.lti (.t rfl) (.t rfl)) rfl ?_
    refine W.nil ?_
    refine W.then ?_
    refine W.seq ?_
    refine W.is (t := 15) (g := true) (av' := .lit (.bool true)) rfl (congrArg (fun b => AV.lit (.bool b)) (by exact decide_eq_true (by omega))) ?_
    refine W.condT (.t rfl) ?_
    refine W.skip ?_
    refine W.then ?_
    refine W.seq ?_
    refine W.block ?_
    refine W.seq ?_
    refine W.region ?_
    refine W.q (Ev.at (E := 9) (.t rfl) (.t rfl) Tryd.underlying23 ty9 (fun _ => ⟨by omega, hga⟩) rfl rfl) rfl ?_
    (refine W.q (Ev.lde1 (.t rfl) ag9) rfl ?_)
    refine W.q (Ev.assign (.t rfl)) rfl ?_
    refine W.nil ?_
    refine W.then ?_
    refine W.seq ?_
    refine W.region ?_
    refine W.q (Ev.move (.t rfl)) rfl ?_
    refine W.call (hC q [58] (by omega)) ⟨(.t rfl), .k, trivial⟩ ((List.perm_append_comm (l₁ := [_]))) rfl ?_
    rintro _ M' ⟨rfl, hM'⟩
    rw [hM']
    refine W.perm (List.perm_append_comm (l₂ := [_])) ?_
    refine W.q (Ev.move (.t rfl)) rfl ?_
    refine W.q (Ev.extract (.t rfl) rfl) rfl ?_
    refine W.q (Ev.extract (.t rfl) rfl) rfl ?_
    refine W.q (Ev.extract (.t rfl) rfl) rfl ?_
    refine W.q (Ev.assign (.t rfl)) rfl ?_
    refine W.q (Ev.assign (.t rfl)) rfl ?_
    refine W.q (Ev.assign (.t rfl)) rfl ?_
    refine W.nil ?_
    refine W.then ?_
    refine W.seq ?_
    refine W.region ?_
    refine W.q (Ev.move (.t rfl)) rfl ?_
    refine W.callp (WLibS.c_Trim (Lib.cut q [58]).1 (by omega)) ⟨(.t rfl), .k, trivial⟩ rfl ?_
    refine W.callp (WSmall.c_Small (Lib.trimS (Lib.cut q [58]).1 Sty.spc) (by omega)) ⟨(.t rfl), trivial⟩ rfl ?_
    refine W.q (Ev.move (.t rfl)) rfl ?_
    refine W.callp (WLibS.c_Trim (Lib.cut q [58]).2.1 (by omega)) ⟨(.t rfl), .k, trivial⟩ rfl ?_
    refine W.q (Ev.build ty60 st60 rfl (fun hg => ⟨_, _, _, rfl, (.t rfl), rfl, rfl, rfl, _, _, _, rfl, (.t rfl), rfl, rfl, rfl, rfl⟩)) rfl ?_
    refine W.alloc ty60 rfl rfl ?_
    intro b9
    (refine W.stb 0 (.t rfl) (.t rfl) rfl ty60 rfl rfl rfl ?_)
    refine W.nil ?_
    refine W.then ?_
    refine W.seq ?_
    refine W.region ?_
    refine W.q (Ev.move (.t rfl)) rfl ?_
    refine W.q (Ev.move (.t rfl)) rfl ?_
    (refine W.qgT rfl rfl (Ev.fab (.t rfl) fa60_0) rfl ?_)
    (refine W.qgT rfl rfl (Ev.ldb1 0 (.c rfl) rfl ag9 rfl) rfl ?_)
    refine W.callgT (Min := []) (caps := []) (avs := [_]) rfl rfl (fun hg => WName.c_Name (Sty.dec1 q).1 (by omega)) (fun hg => .f) (fun hg => ⟨(.i rfl (fun _ => hg)), trivial⟩) rfl (.refl _) rfl ?_
    refine W.q (Ev.and (.t rfl) ⟨_, _, rfl, rfl, by ((simp; done))⟩) rfl ?_
    refine W.q (Ev.move (.t rfl)) rfl ?_
    (refine W.qgT rfl rfl (Ev.fab (.t rfl) fa60_1) rfl ?_)
    (refine W.qgT rfl rfl (Ev.ldb1 0 (.c rfl) rfl ag9 rfl) rfl ?_)
    refine W.qgT rfl rfl (Ev.nes (.c rfl) .k) rfl ?_
    refine W.q (Ev.and (.t rfl) ⟨_, _, rfl, rfl, by ((simp; done))⟩) rfl ?_
    refine W.nil ?_
    refine W.then ?_
    refine W.cond (.t rfl) (fun hc_t40 => ?_) (fun hc_t40 => ?_)
    · have h1 : Sty.is1 q = true := by have h := hc_t40; simp at h; unfold Sty.is1; rw [Bool.and_eq_true, Bool.and_eq_true]; exact ⟨h.1.1, h.1.2, by simpa [Sty.dec1] using h.2⟩
      rw [if_pos h1] at hsn
      refine W.region ?_
      refine W.q (Ev.move (.t rfl)) rfl ?_
      (refine W.q (Ev.ldbn 0 (.t rfl) rfl ag60 ty60 rfl) rfl ?_)
      refine W.bs (es := [_]) Tryd.underlying54 ty60 ⟨rfl, (.t rfl), rfl, rfl, trivial⟩ rfl (by decide) rfl rfl ?_
      (refine W.app 1 (.t rfl) rfl (.sl (.t rfl) (by intro e he; rw [List.mem_singleton.1 he]; rfl)) Tryd.underlying54 ni54 ty60 rfl rfl (by rw [List.length_map]; simp only [List.length_cons, List.length_nil]; omega) rfl ?_)
      intro v44
      refine W.q (Ev.assign (.t rfl)) rfl ?_
      refine W.nil ?_
      refine W.blk_normal ?_
      refine W.then ?_
      refine W.region ?_
      (refine W.q (Ev.add (.t rfl) .k (fun _ => by omega)) rfl ?_)
      refine W.q (Ev.move (.t rfl)) rfl ?_
      refine W.nil ?_
      refine W.then ?_
      refine W.reach (D := [.box b9 60 [.str (Sty.dec1 q).1, .str (Sty.dec1 q).2]]) (i + 1, v44) ⟨rfl, rfl, rfl, rfl, trivial⟩ ?_ ⟨hlt, by show P.length - (i + 1) < P.length - i; omega⟩
      dsimp only
      rw [htk, hsn, List.map_append]
      exact List.perm_append_comm (l₁ := [_])
    · have h1 : ¬ Sty.is1 q = true := by intro h; unfold Sty.is1 at h; rw [Bool.and_eq_true, Bool.and_eq_true] at h; have h3 := hc_t40; simp at h3; have h4 := h3 h.1 h.2.1; have h5 := h.2.2; simp [Sty.dec1, h4] at h5
      rw [if_neg h1, List.append_nil] at hsn
      refine W.skip ?_
      refine W.blk_normal ?_
      refine W.then ?_
      refine W.region ?_
      (refine W.q (Ev.add (.t rfl) .k (fun _ => by omega)) rfl ?_)
      refine W.q (Ev.move (.t rfl)) rfl ?_
      refine W.nil ?_
      refine W.then ?_
      refine W.reach (D := [.box b9 60 [.str (Sty.dec1 q).1, .str (Sty.dec1 q).2]]) (i + 1, v) ⟨rfl, rfl, rfl, rfl, trivial⟩ ?_ ⟨hlt, by show P.length - (i + 1) < P.length - i; omega⟩
      dsimp only
      rw [htk, hsn]
      exact List.perm_append_comm (l₁ := [_])
  · rw [hend, List.take_length]
    have hres : Sty.decs P = Sty.parse s := by unfold Sty.parse; rw [hP]
    refine W.seq ?_
    refine W.region ?_
    refine W.q (Ev.lti (.t rfl) (.t rfl)) rfl ?_
    refine W.nil ?_
    refine W.then ?_
    refine W.seq ?_
    refine W.is (t := 15) (g := true) (av' := .lit (.bool false)) rfl (congrArg (fun b => AV.lit (.bool b)) (by exact decide_eq_false (by omega))) ?_
    refine W.condF (.t rfl) ?_
    refine W.exit ?_
    refine W.then_exit ?_
    refine W.then_exit ?_
    refine W.blk_hit ?_
    refine W.then ?_
    refine W.seq ?_
    refine W.region ?_
    refine W.freezeA (M1 := _) (M2 := _) (D := []) (v := v) (L' := [(3, true, .sl 2 ((Sty.parse s).map dav))]) (by rw [List.append_nil] <;> exact .refl _) ⟨⟨_, rfl, .one (by rw [← hres]; exact .hit)⟩, trivial⟩ (FrzMs.refl _) ?_
    refine W.q (Ev.move (.t rfl)) rfl ?_
    refine W.q (Ev.assign (.t rfl)) rfl ?_
    refine W.nil ?_
    refine W.then ?_
    refine W.ret ?_
    refine W.retn (M' := M0) (D := []) (rs := [.tmp 2]) (avs := [_]) Tryd.results41 ⟨rfl, trivial⟩ rfl (by (simp)) ?_
    exact ⟨rfl, rfl⟩

end WParseS

end Go.Proofs.YtlglnmafddnmmaaDoor
end

section
set_option linter.unusedVariables false
set_option linter.unusedSimpArgs false
set_option maxRecDepth 100000
namespace Go.Proofs.YtlglnmafddnmmaaDoor
open Go.Vl

namespace WEqD
theorem ty60 : Ty Tryd.prog 60 2 32 (.agg #[.string ⟨#[]⟩, .string ⟨#[]⟩]) := Ty.of (by kernel_rfl)
theorem ag60 : IsAgg Tryd.prog 60 true := ⟨_, Tryd.underlying60, rfl⟩
theorem s2_60 : Str2 Tryd.prog 60 := Str2.of Tryd.underlying60 (by kernel_rfl) (by kernel_rfl) (by decide) (by decide) rfl rfl Tryd.underlying9 Tryd.underlying9
theorem c_Equal (a b : List Dc) (ha : a.length ≤ 1048576) : FnP Tryd.prog 40 [.sl 2 (a.map dav), .sl 2 (b.map dav)] (.bool (decide (a = b))) :=  by
  refine FnC.mk Tryd.func40 (by kernel_rfl) rfl Tryd.ntmps40 rfl (fun w0 F => ?_)
  have hla : (a.map dav).length = a.length := List.length_map ..
  have hlb : (b.map dav).length = b.length := List.length_map ..
  refine W.seq ?_
  refine W.region ?_
  refine W.q (Ev.assign .k) rfl ?_
  refine W.nil ?_
  refine W.then ?_
  refine W.seq ?_
  refine W.seq ?_
  refine W.region ?_
  refine W.q (Ev.move (.t rfl)) rfl ?_
  (refine W.q (Ev.lensl (.t rfl) Tryd.underlying54) rfl ?_)
  refine W.q (Ev.move (.t rfl)) rfl ?_
  (refine W.q (Ev.lensl (.t rfl) Tryd.underlying54) rfl ?_)
  refine W.q (Ev.nei (.t rfl) (.t rfl)) rfl ?_
  refine W.nil ?_
  refine W.then ?_
  refine W.cond (.t rfl) (fun hc_t10 => ?_) (fun hc_t10 => ?_)
  · have hne : a ≠ b := by rintro rfl; simp at hc_t10
    refine W.seq ?_
    refine W.region ?_
    refine W.q (Ev.assign .k) rfl ?_
    refine W.nil ?_
    refine W.then ?_
    refine W.ret ?_
    refine W.then_ret ?_
    refine W.retn (M' := []) (rs := [.tmp 4]) (avs := [_]) Tryd.results40 ⟨rfl, trivial⟩ rfl (.refl _) ?_
    (exact ⟨congrArg AV.bool (decide_eq_false hne).symm, rfl⟩)
  · have hlen : a.length = b.length := by simp at hc_t10; omega
    refine W.skip ?_
    refine W.then ?_
    refine W.seq ?_
    refine W.seq ?_
    refine W.region ?_
    refine W.q (Ev.move (.t rfl)) rfl ?_
    (refine W.q (Ev.lensl (.t rfl) Tryd.underlying54) rfl ?_)
    refine W.q (Ev.move .k) rfl ?_
    refine W.nil ?_
    refine W.then ?_
    refine W.block ?_
    refine W.loop (D := []) (ι := Nat) (fun i => [(13, true, .int (i : Int)), (12, true, .int ((a.map dav).length : Int)), (0, true, .sl 2 (a.map dav)), (1, true, .sl 2 (b.map dav))]) (fun _ => []) (fun i => i ≤ a.length ∧ ∀ j, j < i → a.getD j ([], []) = b.getD j ([], [])) (fun i => a.length - i) 0 ⟨rfl, rfl, rfl, rfl, trivial⟩ (.refl _) ⟨Nat.zero_le _, by intro j hj; omega⟩ ?_
    rintro i ⟨hi1, hi2⟩
    dsimp only at hi1 hi2 ⊢
    refine W.seq ?_
    refine W.region ?_
    refine W.q (Ev.lti (.t rfl) (.t rfl)) rfl ?_
    refine W.nil ?_
    refine W.then ?_
    refine W.seq ?_
    refine W.cond (.t rfl) (fun hc_t14 => ?_) (fun hc_t14 => ?_)
    · have hlt : i < a.length := by simp at hc_t14; omega
      have hga := getD_mapG dav ([], []) a i hlt
      have hgb := getD_mapG dav ([], []) b i (by omega)
      refine W.skip ?_
      refine W.then ?_
      refine W.seq ?_
      refine W.block ?_
      refine W.seq ?_
      refine W.region ?_
      refine W.q (Ev.move (.t rfl)) rfl ?_
      refine W.q (Ev.assign (.t rfl)) rfl ?_
      refine W.nil ?_
      refine W.then ?_
      refine W.seq ?_
      refine W.drawn (by kernel_rfl) (by kernel_rfl) ?_
      refine DP.q (Ev.move (.t rfl)) rfl ?_
      refine DP.q (Ev.move (.t rfl)) rfl ?_
      refine DP.q (Ev.at (E := 60) (.t rfl) (.t rfl) Tryd.underlying54 ty60 (fun _ => ⟨by omega, hga⟩) rfl rfl) rfl ?_
      (refine DP.q (Ev.lden (.t rfl) ag60 ty60 rfl rfl) rfl ?_)
      refine DP.q (Ev.move (.t rfl)) rfl ?_
      refine DP.q (Ev.move (.t rfl)) rfl ?_
      refine DP.q (Ev.at (E := 60) (.t rfl) (.t rfl) Tryd.underlying54 ty60 (fun _ => ⟨by omega, hgb⟩) rfl rfl) rfl ?_
      (refine DP.q (Ev.lden (.t rfl) ag60 ty60 rfl rfl) rfl ?_)
      refine DP.q (Ev.ne2 s2_60 (.t rfl) (.t rfl)) rfl ?_
      refine DP.nil ?_
      refine W.then ?_
      refine W.cond (.t rfl) (fun hc_t24 => ?_) (fun hc_t24 => ?_)
      · have hne : a ≠ b := by rintro rfl; simp at hc_t24
        refine W.seq ?_
        refine W.region ?_
        refine W.q (Ev.assign .k) rfl ?_
        refine W.nil ?_
        refine W.then ?_
        refine W.ret ?_
        refine W.blk_ret ?_
        refine W.then_ret ?_
        refine W.then_ret ?_
        refine W.blk_ret ?_
        refine W.then_ret ?_
        refine W.retn (M' := []) (rs := [.tmp 4]) (avs := [_]) Tryd.results40 ⟨rfl, trivial⟩ rfl (.refl _) ?_
        (exact ⟨congrArg AV.bool (decide_eq_false hne).symm, rfl⟩)
      · have hsame : a.getD i ([], []) = b.getD i ([], []) := by have h := hc_t24; simp at h; exact Prod.ext h.1 h.2
        refine W.skip ?_
        refine W.blk_normal ?_
        refine W.then ?_
        refine W.region ?_
        (refine W.q (Ev.add (.t rfl) .k (fun _ => by omega)) rfl ?_)
        refine W.q (Ev.move (.t rfl)) rfl ?_
        refine W.nil ?_
        refine W.then ?_
        refine W.reach (D := []) (i + 1) ⟨rfl, rfl, rfl, rfl, trivial⟩ (.refl _) ⟨⟨by omega, fun j hj => ?_⟩, by omega⟩
        rcases Nat.lt_or_ge j i with h | h
        · exact hi2 j h
        · obtain rfl : j = i := by omega
          exact hsame
    · have hge : i = a.length := by simp at hc_t14; omega
      have heq : a = b := Au0.list_ext ([], []) hlen (fun j hj => hi2 j (by omega))
      refine W.exit ?_
      refine W.then_exit ?_
      refine W.then_exit ?_
      refine W.blk_hit ?_
      refine W.then ?_
      refine W.seq ?_
      refine W.region ?_
      refine W.q (Ev.assign .k) rfl ?_
      refine W.nil ?_
      refine W.then ?_
      refine W.ret ?_
      refine W.retn (M' := []) (rs := [.tmp 4]) (avs := [_]) Tryd.results40 ⟨rfl, trivial⟩ rfl (.refl _) ?_
      (exact ⟨congrArg AV.bool (decide_eq_true heq).symm, rfl⟩)

theorem c_sameD (a b : List Dc) (ha : a.length ≤ 1048576) : FnP Tryd.prog 28 [.sl 2 (a.map dav), .sl 2 (b.map dav)] (.bool (decide (a = b))) :=  by
  refine FnC.mk Tryd.func28 (by kernel_rfl) rfl Tryd.ntmps28 rfl (fun w0 F => ?_)
  have hla : (a.map dav).length = a.length := List.length_map ..
  have hlb : (b.map dav).length = b.length := List.length_map ..
  refine W.seq ?_
  refine W.region ?_
  refine W.q (Ev.assign .k) rfl ?_
  refine W.nil ?_
  refine W.then ?_
  refine W.seq ?_
  refine W.seq ?_
  refine W.region ?_
  refine W.q (Ev.move (.t rfl)) rfl ?_
  (refine W.q (Ev.lensl (.t rfl) Tryd.underlying54) rfl ?_)
  refine W.q (Ev.move (.t rfl)) rfl ?_
  (refine W.q (Ev.lensl (.t rfl) Tryd.underlying54) rfl ?_)
  refine W.q (Ev.nei (.t rfl) (.t rfl)) rfl ?_
  refine W.nil ?_
  refine W.then ?_
  refine W.cond (.t rfl) (fun hc_t10 => ?_) (fun hc_t10 => ?_)
  · have hne : a ≠ b := by rintro rfl; simp at hc_t10
    refine W.seq ?_
    refine W.region ?_
    refine W.q (Ev.assign .k) rfl ?_
    refine W.nil ?_
    refine W.then ?_
    refine W.ret ?_
    refine W.then_ret ?_
    refine W.retn (M' := []) (rs := [.tmp 4]) (avs := [_]) Tryd.results28 ⟨rfl, trivial⟩ rfl (.refl _) ?_
    (exact ⟨congrArg AV.bool (decide_eq_false hne).symm, rfl⟩)
  · have hlen : a.length = b.length := by simp at hc_t10; omega
    refine W.skip ?_
    refine W.then ?_
    refine W.seq ?_
    refine W.seq ?_
    refine W.region ?_
    refine W.q (Ev.assign .k) rfl ?_
    refine W.nil ?_
    refine W.then ?_
    refine W.block ?_
    refine W.loop (D := []) (ι := Nat) (fun i => [(5, true, .int (i : Int)), (0, true, .sl 2 (a.map dav)), (1, true, .sl 2 (b.map dav))]) (fun _ => []) (fun i => i ≤ a.length ∧ ∀ j, j < i → a.getD j ([], []) = b.getD j ([], [])) (fun i => a.length - i) 0 ⟨rfl, rfl, rfl, trivial⟩ (.refl _) ⟨Nat.zero_le _, by intro j hj; omega⟩ ?_
    rintro i ⟨hi1, hi2⟩
    dsimp only at hi1 hi2 ⊢
    refine W.seq ?_
    refine W.seq ?_
    refine W.region ?_
    refine W.q (Ev.move (.t rfl)) rfl ?_
    refine W.q (Ev.move (.t rfl)) rfl ?_
    (refine W.q (Ev.lensl (.t rfl) Tryd.underlying54) rfl ?_)
    refine W.q (Ev.lti (.t rfl) (.t rfl)) rfl ?_
    refine W.nil ?_
    refine W.then ?_
    refine W.cond (.t rfl) (fun hc_t14 => ?_) (fun hc_t14 => ?_)
    · have hlt : i < a.length := by simp at hc_t14; omega
      have hga := getD_mapG dav ([], []) a i hlt
      have hgb := getD_mapG dav ([], []) b i (by omega)
      refine W.skip ?_
      refine W.then ?_
      refine W.seq ?_
      refine W.block ?_
      refine W.seq ?_
      refine W.drawn (by kernel_rfl) (by kernel_rfl) ?_
      refine DP.q (Ev.move (.t rfl)) rfl ?_
      refine DP.q (Ev.move (.t rfl)) rfl ?_
      refine DP.q (Ev.at (E := 60) (.t rfl) (.t rfl) Tryd.underlying54 ty60 (fun _ => ⟨by omega, hga⟩) rfl rfl) rfl ?_
      (refine DP.q (Ev.lden (.t rfl) ag60 ty60 rfl rfl) rfl ?_)
      refine DP.q (Ev.move (.t rfl)) rfl ?_
      refine DP.q (Ev.move (.t rfl)) rfl ?_
      refine DP.q (Ev.at (E := 60) (.t rfl) (.t rfl) Tryd.underlying54 ty60 (fun _ => ⟨by omega, hgb⟩) rfl rfl) rfl ?_
      (refine DP.q (Ev.lden (.t rfl) ag60 ty60 rfl rfl) rfl ?_)
      refine DP.q (Ev.ne2 s2_60 (.t rfl) (.t rfl)) rfl ?_
      refine DP.nil ?_
      refine W.then ?_
      refine W.cond (.t rfl) (fun hc_t25 => ?_) (fun hc_t25 => ?_)
      · have hne : a ≠ b := by rintro rfl; simp at hc_t25
        refine W.seq ?_
        refine W.region ?_
        refine W.q (Ev.assign .k) rfl ?_
        refine W.nil ?_
        refine W.then ?_
        refine W.ret ?_
        refine W.blk_ret ?_
        refine W.then_ret ?_
        refine W.then_ret ?_
        refine W.blk_ret ?_
        refine W.then_ret ?_
        refine W.retn (M' := []) (rs := [.tmp 4]) (avs := [_]) Tryd.results28 ⟨rfl, trivial⟩ rfl (.refl _) ?_
        (exact ⟨congrArg AV.bool (decide_eq_false hne).symm, rfl⟩)
      · have hsame : a.getD i ([], []) = b.getD i ([], []) := by have h := hc_t25; simp at h; exact Prod.ext h.1 h.2
        refine W.skip ?_
        refine W.blk_normal ?_
        refine W.then ?_
        refine W.region ?_
        refine W.q (Ev.move (.t rfl)) rfl ?_
        (refine W.q (Ev.add (.t rfl) .k (fun _ => by omega)) rfl ?_)
        refine W.q (Ev.assign (.t rfl)) rfl ?_
        refine W.nil ?_
        refine W.then ?_
        refine W.reach (D := []) (i + 1) ⟨rfl, rfl, rfl, trivial⟩ (.refl _) ⟨⟨by omega, fun j hj => ?_⟩, by omega⟩
        rcases Nat.lt_or_ge j i with h | h
        · exact hi2 j h
        · obtain rfl : j = i := by omega
          exact hsame
    · have hge : i = a.length := by simp at hc_t14; omega
      have heq : a = b := Au0.list_ext ([], []) hlen (fun j hj => hi2 j (by omega))
      refine W.exit ?_
      refine W.then_exit ?_
      refine W.then_exit ?_
      refine W.blk_hit ?_
      refine W.then ?_
      refine W.seq ?_
      refine W.region ?_
      refine W.q (Ev.assign .k) rfl ?_
      refine W.nil ?_
      refine W.then ?_
      refine W.ret ?_
      refine W.retn (M' := []) (rs := [.tmp 4]) (avs := [_]) Tryd.results28 ⟨rfl, trivial⟩ rfl (.refl _) ?_
      (exact ⟨congrArg AV.bool (decide_eq_true heq).symm, rfl⟩)

end WEqD

end Go.Proofs.YtlglnmafddnmmaaDoor
end

section
set_option linter.unusedVariables false
set_option linter.unusedSimpArgs false
set_option maxRecDepth 100000
namespace Go.Proofs.YtlglnmafddnmmaaDoor
open Go.Vl

namespace WStyled
theorem ty9 : Ty Tryd.prog 9 1 16 (.string ⟨#[]⟩) := Ty.of (by kernel_rfl)
theorem ty60 : Ty Tryd.prog 60 2 32 (.agg #[.string ⟨#[]⟩, .string ⟨#[]⟩]) := Ty.of (by kernel_rfl)
theorem ag9 : IsAgg Tryd.prog 9 false := ⟨_, Tryd.underlying9, rfl⟩
theorem fa60_1 : FieldAt Tryd.prog 60 1 1 1 false := ⟨_, _, Tryd.underlying60, rfl, rfl, ty9.size, ag9, by decide⟩
theorem c_Parse (s : List UInt8) (hs : s.length ≤ 600) (M0 : List ME) (hC : ∀ s p : List UInt8, s.length ≤ 1048576 → FnC Tryd.prog 33 [.str s, .str p] M0 (fun r M => r = .tup [.str (Lib.cut s p).1, .str (Lib.cut s p).2.1, .bool (Lib.cut s p).2.2] ∧ M = M0)) : FnC Tryd.prog 43 [.str s] M0 (fun r M => r = .tup [.sl 2 ((Sty.parse s).map dav), .int 0] ∧ M = M0) :=  by
  refine FnC.mk Tryd.func43 (by kernel_rfl) rfl Tryd.ntmps43 rfl (fun w0 F => ?_)
  refine W.seq ?_
  refine W.region ?_
  refine W.q (Ev.assign .k) rfl ?_
  refine W.q (Ev.assign .k) rfl ?_
  refine W.nil ?_
  refine W.then ?_
  refine W.seq ?_
  refine W.seq ?_
  refine W.region ?_
  refine W.q (Ev.move (.t rfl)) rfl ?_
  refine W.q (Ev.lens (.t rfl) Tryd.underlying9) rfl ?_
  refine W.q (Ev.gti (.t rfl) .k) rfl ?_
  refine W.nil ?_
  refine W.then ?_
  refine W.is (t := 6) (g := true) (av' := .lit (.bool false)) rfl (congrArg (fun b => AV.lit (.bool b)) (by exact decide_eq_false (by omega))) ?_
  refine W.condF (.t rfl) ?_
  refine W.skip ?_
  refine W.then ?_
  refine W.seq ?_
  refine W.region ?_
  refine W.q (Ev.move (.t rfl)) rfl ?_
  refine W.call (WParseS.c_parse s (by omega) M0 hC) ⟨(.t rfl), trivial⟩ ((List.Perm.of_eq (List.append_nil M0).symm)) rfl ?_
  rintro _ M' ⟨rfl, hM'⟩
  rw [hM']
  rw [List.append_nil]
  refine W.q (Ev.assign (.t rfl)) rfl ?_
  refine W.q (Ev.assign .k) rfl ?_
  refine W.nil ?_
  refine W.then ?_
  refine W.ret ?_
  refine W.retn (M' := M0) (D := []) (rs := [.tmp 2, .tmp 3]) (avs := [_, _]) Tryd.results43 ⟨rfl, rfl, trivial⟩ rfl (List.Perm.of_eq (List.append_nil M0).symm) ?_
  exact ⟨rfl, rfl⟩

theorem c_styled (s : List UInt8) (hs : s.length ≤ 600) (M0 : List ME) (hC : ∀ s p : List UInt8, s.length ≤ 1048576 → FnC Tryd.prog 33 [.str s, .str p] M0 (fun r M => r = .tup [.str (Lib.cut s p).1, .str (Lib.cut s p).2.1, .bool (Lib.cut s p).2.2] ∧ M = M0)) : FnC Tryd.prog 27 [.str s] M0 (fun r M => r = .tup [.sl 2 ((Sty.parse s).map dav), .bool true] ∧ M = M0) :=  by
  refine FnC.mk Tryd.func27 (by kernel_rfl) rfl Tryd.ntmps27 rfl (fun w0 F => ?_)
  have hab : Sty.parse [97, 58, 98] = [([97], [98])] := Sty.parse_ab
  refine W.seq ?_
  refine W.region ?_
  refine W.q (Ev.assign .k) rfl ?_
  refine W.q (Ev.assign .k) rfl ?_
  refine W.nil ?_
  refine W.then ?_
  refine W.seq ?_
  refine W.region ?_
  refine W.q (Ev.move (.t rfl)) rfl ?_
  refine W.call (c_Parse s hs M0 hC) ⟨(.t rfl), trivial⟩ ((List.Perm.of_eq (List.append_nil M0).symm)) rfl ?_
  rintro _ M' ⟨rfl, hM'⟩
  rw [hM']
  rw [List.append_nil]
  refine W.q (Ev.move (.t rfl)) rfl ?_
  refine W.q (Ev.extract (.t rfl) rfl) rfl ?_
  refine W.q (Ev.extract (.t rfl) rfl) rfl ?_
  refine W.q (Ev.assign (.t rfl)) rfl ?_
  refine W.q (Ev.assign (.t rfl)) rfl ?_
  refine W.nil ?_
  refine W.then ?_
  refine W.seq ?_
  refine W.region ?_
  refine W.call (c_Parse [97, 58, 98] (by decide) M0 hC) ⟨.k, trivial⟩ ((List.Perm.of_eq (List.append_nil M0).symm)) rfl ?_
  rintro _ M' ⟨rfl, hM'⟩
  rw [hM']
  rw [List.append_nil, hab]
  refine W.q (Ev.move (.t rfl)) rfl ?_
  refine W.q (Ev.extract (.t rfl) rfl) rfl ?_
  refine W.q (Ev.extract (.t rfl) rfl) rfl ?_
  refine W.q (Ev.assign (.t rfl)) rfl ?_
  refine W.q (Ev.assign (.t rfl)) rfl ?_
  refine W.nil ?_
  refine W.then ?_
  refine W.seq ?_
  refine W.drawnE (ι := Unit) (fun _ _ => _) 21 () (by kernel_rfl) (by kernel_rfl) rfl ?_
  refine DE.q (fun e c hk => (Ev.move (.t rfl))) rfl (fun _ _ => rfl) (by (exact .inr (fun _ _ => rfl))) ?_
  refine DE.q (fun e c hk => (Ev.move (.t rfl))) rfl (fun _ _ => rfl) (by (exact .inr (fun _ _ => rfl))) ?_
  refine DE.q (fun e c hk => (Ev.eqi (.t rfl) .k)) rfl (fun _ _ => rfl) (by (exact .inr (fun _ _ => rfl))) ?_
  refine DE.q (fun e c hk => (Ev.move (.t rfl))) rfl (fun _ _ => rfl) (by (exact .inr (fun _ _ => rfl))) ?_
  refine DE.qg rfl (fun _ => rfl) (fun e c hk => (Ev.move (.t rfl))) rfl (fun _ _ => rfl) (by (exact .inr (fun _ _ => rfl))) ?_
  refine DE.qg rfl (fun _ => rfl) (fun e c hk => (Ev.eqi (.c rfl) .k)) rfl (fun _ _ => rfl) (by (exact .inr (fun _ _ => rfl))) ?_
  refine DE.q (fun e c hk => (Ev.and (.t rfl) ⟨_, _, rfl, rfl, by ((simp; done))⟩)) rfl (fun _ _ => rfl) (by (exact .inr (fun _ _ => rfl))) ?_
  refine DE.q (fun e c hk => (Ev.move (.t rfl))) rfl (fun _ _ => rfl) (by (exact .inr (fun _ _ => rfl))) ?_
  refine DE.qg rfl (fun _ => rfl) (fun e c hk => (Ev.move (.t rfl))) rfl (fun _ _ => rfl) (by (exact .inr (fun _ _ => rfl))) ?_
  (refine DE.qg rfl (fun _ => rfl) (fun e c hk => (Ev.lensl (.c rfl) Tryd.underlying54)) rfl (fun _ _ => rfl) (by (exact .inr (fun _ _ => rfl))) ?_)
  refine DE.qg rfl (fun _ => rfl) (fun e c hk => (Ev.eqi (.c rfl) .k)) rfl (fun _ _ => rfl) (by (exact .inr (fun _ _ => rfl))) ?_
  refine DE.q (fun e c hk => (Ev.and (.t rfl) ⟨_, _, rfl, rfl, by ((simp; done))⟩)) rfl (fun _ _ => rfl) (by (exact .inr (fun _ _ => rfl))) ?_
  refine DE.q (fun e c hk => (Ev.move (.t rfl))) rfl (fun _ _ => rfl) (by (exact .inr (fun _ _ => rfl))) ?_
  refine DE.qg rfl (fun _ => rfl) (fun e c hk => (Ev.move (.t rfl))) rfl (fun _ _ => rfl) (by (exact .inr (fun _ _ => rfl))) ?_
  refine DE.qg rfl (fun _ => rfl) (fun e c hk => Ev.at (E := 60) (e := dav ([97], [98])) (.c rfl) .k Tryd.underlying54 ty60 (fun _ => ⟨by decide, rfl⟩) rfl rfl) rfl (fun _ _ => rfl) (by (exact .inr (fun _ _ => rfl))) ?_
  (refine DE.qg rfl (fun _ => rfl) (fun e c hk => (Ev.fae (.c rfl) fa60_1 rfl)) rfl (fun _ _ => rfl) (by (exact .inr (fun _ _ => rfl))) ?_)
  (refine DE.qg rfl (fun _ => rfl) (fun e c hk => (Ev.lde1 (.c rfl) ag9)) rfl (fun _ _ => rfl) (by (exact .inr (fun _ _ => rfl))) ?_)
  refine DE.qg rfl (fun _ => rfl) (fun e c hk => (Ev.eqs (.c rfl) .k)) rfl (fun _ _ => rfl) (by (exact .inr (fun _ _ => rfl))) ?_
  refine DE.q (fun e c hk => (Ev.and (.t rfl) ⟨_, _, rfl, rfl, by ((simp; done))⟩)) rfl (fun _ _ => rfl) (by (exact .inr (fun _ _ => rfl))) ?_
  refine DE.q (fun e c hk => (Ev.assign (.t rfl))) rfl (fun _ _ => rfl) (by (exact .inr (fun _ _ => rfl))) ?_
  refine DE.q (fun e c hk => (Ev.assign (.t rfl))) rfl (fun _ _ => rfl) (by (exact .inr (fun _ _ => rfl))) ?_
  refine DE.nil (fun c_ e_ he_ => ?_)
  dsimp only
  refine W.then ?_
  refine W.ret ?_
  refine W.retn (M' := M0) (D := []) (rs := [.tmp 2, .tmp 3]) (avs := [_, _]) Tryd.results27 ⟨rfl, rfl, trivial⟩ rfl (List.Perm.of_eq (List.append_nil M0).symm) ?_
  exact ⟨congrArg (fun b => AV.tup [_, .bool b]) (by decide), rfl⟩

end WStyled

end Go.Proofs.YtlglnmafddnmmaaDoor
end

section
set_option linter.unusedVariables false
set_option linter.unusedSimpArgs false
namespace Go.Vl
namespace Lg
def over (N : Int) (A : Lg) : Prop := ∀ w, A w → ∀ c ∈ w, 0 ≤ c ∧ c < N
def live (A : Lg) : Prop := ∃ w, A w
section closed
variable {N : Int} {A B : Lg}
theorem over_eps : over N eps := fun w h c hc => by rw [show w = [] from h] at hc; cases hc
theorem over.cat (ha : over N A) (hb : over N B) : over N (cat A B) := by
  rintro _ ⟨u, v, rfl, hu, hv⟩ c hc
  rcases List.mem_append.1 hc with hc | hc
  · exact ha u hu c hc
  · exact hb v hv c hc
theorem over.alt (ha : over N A) (hb : over N B) : over N (alt A B) := by
  rintro w (h | h)
  · exact ha w h
  · exact hb w h
theorem over.star (ha : over N A) : over N (star A) := by
  intro w hw
  induction hw with
  | nil => intro c hc; cases hc
  | cons u v hu _ ih =>
    intro c hc
    rcases List.mem_append.1 hc with hc | hc
    · exact ha u hu c hc
    · exact ih c hc
theorem over.sfl (ha : over N A) (k : Nat) : over N (sfl A k) := by
  unfold Lg.sfl
  split
  · exact ha.star
  · split
    · exact ha.cat ha.star
    · exact over_eps.alt ha
theorem over.foldl : ∀ (sf : List Nat) {A : Lg}, over N A → over N (sf.foldl Lg.sfl A)
  | [], _, h => h
  | k :: sf, _, h => over.foldl sf (h.sfl k)
theorem live.cat (ha : live A) (hb : live B) : live (cat A B) := by
  obtain ⟨u, hu⟩ := ha; obtain ⟨v, hv⟩ := hb; exact ⟨u ++ v, u, v, rfl, hu, hv⟩
theorem live.sfl (ha : live A) (k : Nat) : live (sfl A k) := by
  unfold Lg.sfl
  split
  · exact ⟨[], .nil⟩
  · split
    · exact ha.cat ⟨[], .nil⟩
    · exact ⟨[], .inl rfl⟩
theorem live.foldl : ∀ (sf : List Nat) {A : Lg}, live A → live (sf.foldl Lg.sfl A)
  | [], _, h => h
  | k :: sf, _, h => live.foldl sf (h.sfl k)
end closed
/-- all letters changed by so much -/
def shift (k : Int) (A : Lg) : Lg := fun w => ∃ v, w = v.map (· + k) ∧ A v
end Lg
namespace It
mutual
/-- letters blw N -/
def blw (N : Nat) : It → Prop
  | ch n _ => n < N
  | gr s a _ => blws N s ∧ blwa N a
def blws (N : Nat) : List It → Prop
  | [] => True
  | i :: s => blw N i ∧ blws N s
def blwa (N : Nat) : List (List It) → Prop
  | [] => True
  | s :: a => blws N s ∧ blwa N a
end
mutual
/-- letters that are changed -/
def ren (k : Nat) : It → It
  | ch n sf => ch (n + k) sf
  | gr s a sf => gr (rens k s) (rena k a) sf
def rens (k : Nat) : List It → List It
  | [] => []
  | i :: s => ren k i :: rens k s
def rena (k : Nat) : List (List It) → List (List It)
  | [] => []
  | s :: a => rens k s :: rena k a
end
/-- .. and their texts -/
def rc (k : Nat) (c : UInt8) : UInt8 := if 97 ≤ c.toNat ∧ c.toNat ≤ 99 then c + UInt8.ofNat k else c
end It
end Go.Vl
end

section
set_option linter.unusedVariables false
set_option linter.unusedSimpArgs false
namespace Go.Vl
namespace It
/-- what may stand behind alternatives; a sequence; an item -/
def endA (r : List UInt8) : Prop := r = [] ∨ ∃ t, r = 41 :: t
def endS (r : List UInt8) : Prop := r = [] ∨ ∃ t, r = 41 :: t ∨ r = 124 :: t
def endI (r : List UInt8) : Prop := ∀ c t, r = c :: t → c ≠ 42 ∧ c ≠ 43 ∧ c ≠ 63
theorem endA.s {r : List UInt8} (h : endA r) : endS r := by
  rcases h with h | ⟨t, h⟩
  · exact .inl h
  · exact .inr ⟨t, .inl h⟩
theorem endS.i {r : List UInt8} (h : endS r) : endI r := by
  rintro c t rfl
  rcases h with h | ⟨t', h | h⟩
  · cases h
  · obtain ⟨rfl, rfl⟩ := List.cons.inj h; decide
  · obtain ⟨rfl, rfl⟩ := List.cons.inj h; decide
end It
theorem Ex.joinW_lib (sep : List UInt8) : ∀ l : List (List UInt8), Ex.joinW sep l = Lib.join l sep
  | [] => rfl
  | [s] => by simp [Ex.joinW, Lib.join, List.intercalate]
  | s :: t :: l => by
    rw [Ex.joinW, Ex.joinW_lib sep (t :: l)]
    simp [Lib.join, List.intercalate]
/-- how long the parts' texts are -/
def Ex.wz (x : Ex) : Nat := Ex.sumL (x.parts.map (Ex.ptx1 x.kind)) + x.parts.length + 2
namespace It
end It
end Go.Vl
end

section
set_option linter.unusedVariables false
set_option linter.unusedSimpArgs false
set_option maxRecDepth 100000
namespace Go.Proofs.YtlglnmafddnmmaaDoor
open Go.Vl

namespace WTextS
theorem ty9 : Ty Tryd.prog 9 1 16 (.string ⟨#[]⟩) := Ty.of (by kernel_rfl)
theorem ty60 : Ty Tryd.prog 60 2 32 (.agg #[.string ⟨#[]⟩, .string ⟨#[]⟩]) := Ty.of (by kernel_rfl)
theorem ag9 : IsAgg Tryd.prog 9 false := ⟨_, Tryd.underlying9, rfl⟩
theorem ag60 : IsAgg Tryd.prog 60 true := ⟨_, Tryd.underlying60, rfl⟩
theorem fa60_0 : FieldAt Tryd.prog 60 0 0 1 false := ⟨_, _, Tryd.underlying60, rfl, rfl, ty9.size, ag9, by decide⟩
theorem fa60_1 : FieldAt Tryd.prog 60 1 1 1 false := ⟨_, _, Tryd.underlying60, rfl, rfl, ty9.size, ag9, by decide⟩
theorem ni23 : NotInt Tryd.prog 23 := .inl ⟨_, Tryd.underlying23⟩
theorem c_Join (l : List (List UInt8)) (sep : List UInt8) (hl : l.length ≤ 1048576) (hj : (Ex.joinW sep l).length ≤ 1048576) : FnP Tryd.prog 42 [.sl 1 (l.map AV.str), .str sep] (.str (Ex.joinW sep l)) := by
  rw [Ex.joinW_lib] at hj ⊢
  exact joinP (CallOk.of Tryd.func42 (by kernel_rfl) rfl) (fun a c sep w => Tryd.strings_Join_none a c sep w) (fun bk o c xs sep w h1 h2 h3 h4 h5 => Tryd.strings_Join bk o c xs sep w h1 h2 h3 h4 h5) l sep (by omega) (by omega)

theorem c_Text (l : List Dc) (hl : l.length ≤ 100) (hn : ∀ d ∈ l, nameOk d.1 = true) (hv : ∀ d ∈ l, (Sty.dtx d).length ≤ 600) (ht : (Ex.joinW [59, 32] (l.map Sty.dtx)).length ≤ 600) (M0 : List ME) (hC : ∀ s p : List UInt8, s.length ≤ 1048576 → FnC Tryd.prog 33 [.str s, .str p] M0 (fun r M => r = .tup [.str (Lib.cut s p).1, .str (Lib.cut s p).2.1, .bool (Lib.cut s p).2.2] ∧ M = M0)) : FnC Tryd.prog 26 [.sl 2 (l.map dav)] M0 (fun r M => ((∃ d ∈ l, Sty.parse (Sty.dtx d) ≠ [d]) ∧ r = .tup [.str [], .int 4] ∨ (∀ d ∈ l, Sty.parse (Sty.dtx d) = [d]) ∧ r = .tup [.str (Ex.joinW [59, 32] (l.map Sty.dtx)), .int 0]) ∧ M = M0) :=  by
  refine FnC.mk Tryd.func26 (by kernel_rfl) rfl Tryd.ntmps26 rfl (fun w0 F => ?_)
  have hll : (l.map dav).length = l.length := List.length_map ..
  refine W.seq ?_
  refine W.region ?_
  refine W.q (Ev.assign .k) rfl ?_
  refine W.q (Ev.assign .k) rfl ?_
  refine W.nil ?_
  refine W.then ?_
  refine W.seq ?_
  refine W.region ?_
  refine W.q (Ev.assign .k) rfl ?_
  refine W.nil ?_
  refine W.then ?_
  refine W.seq ?_
  refine W.seq ?_
  refine W.region ?_
  refine W.q (Ev.move (.t rfl)) rfl ?_
  (refine W.q (Ev.lensl (.t rfl) Tryd.underlying54) rfl ?_)
  refine W.q (Ev.move .k) rfl ?_
  refine W.nil ?_
  refine W.then ?_
  refine W.block ?_
  refine W.own_nil 9 1 ?_
  refine W.loop (D := []) (ι := Nat × Value) (fun z => [(11, true, .int (z.1 : Int)), (10, true, .int ((l.map dav).length : Int)), (9, true, .sl 2 (l.map dav)), (4, true, .lit z.2)]) (fun z => .arr z.2 9 1 (((l.take z.1).map Sty.dtx).map AV.str) :: M0) (fun z => z.1 ≤ l.length ∧ ∀ d ∈ l.take z.1, Sty.parse (Sty.dtx d) = [d]) (fun z => l.length - z.1) (0, .slice none 0 0) ⟨rfl, rfl, rfl, rfl, trivial⟩ (by ((rw [List.append_nil]; exact .refl _))) ⟨Nat.zero_le _, fun d hd => by cases hd⟩ ?_
  rintro ⟨i, v⟩ ⟨hi, hall⟩
  dsimp only at hi hall ⊢
  rcases (show i < l.length ∨ i = l.length from by omega) with hlt | hend
  · have hga := getD_mapG dav ([], []) l i hlt
    have htk := take_getDG ([], []) l i hlt
    have hdm := getD_memG ([], []) l i hlt
    generalize l.getD i ([], []) = d at hga htk hdm
    have hnd := hn d hdm
    have hvd := hv d hdm
    have hdl : (Sty.dtx d).length = d.1.length + 2 + d.2.length := by show ((d.1 ++ [58, 32]) ++ d.2).length = _; rw [List.length_append, List.length_append]; rfl
    refine W.seq ?_
    refine W.region ?_
    refine W.q (Ev.lti (.t rfl) (.t rfl)) rfl ?_
    refine W.nil ?_
    refine W.then ?_
    refine W.seq ?_
    refine W.is (t := 12) (g := true) (av' := .lit (.bool true)) rfl (congrArg (fun b => AV.lit (.bool b)) (by exact decide_eq_true (by omega))) ?_
    refine W.condT (.t rfl) ?_
    refine W.skip ?_
    refine W.then ?_
    refine W.seq ?_
    refine W.block ?_
    refine W.seq ?_
    refine W.region ?_
    refine W.q (Ev.at (E := 60) (.t rfl) (.t rfl) Tryd.underlying54 ty60 (fun _ => ⟨by omega, hga⟩) rfl rfl) rfl ?_
    (refine W.q (Ev.lden (.t rfl) ag60 ty60 rfl rfl) rfl ?_)
    refine W.alloc ty60 rfl rfl ?_
    intro b6
    (refine W.stb 0 (.t rfl) (.t rfl) rfl ty60 rfl rfl rfl ?_)
    refine W.nil ?_
    refine W.then ?_
    refine W.seq ?_
    refine W.seq ?_
    refine W.region ?_
    (refine W.q (Ev.fab (.t rfl) fa60_0) rfl ?_)
    (refine W.q (Ev.ldb1 0 (.t rfl) rfl ag9 rfl) rfl ?_)
    refine W.callp (WName.c_Name d.1 (by omega)) ⟨(.t rfl), trivial⟩ rfl ?_
    refine W.q (Ev.not (.t rfl)) rfl ?_
    refine W.nil ?_
    refine W.then ?_
    refine W.is (t := 18) (g := true) (av' := .lit (.bool false)) rfl (congrArg (fun b => AV.lit (.bool b)) (by rw [hnd]; rfl)) ?_
    refine W.condF (.t rfl) ?_
    refine W.skip ?_
    refine W.then ?_
    refine W.seq ?_
    refine W.region ?_
    (refine W.q (Ev.fab (.t rfl) fa60_0) rfl ?_)
    (refine W.q (Ev.ldb1 0 (.t rfl) rfl ag9 rfl) rfl ?_)
    refine W.q (Ev.cat (.t rfl) .k (fun _ => by simp only [List.length_cons, List.length_nil]; omega)) rfl ?_
    (refine W.q (Ev.fab (.t rfl) fa60_1) rfl ?_)
    (refine W.q (Ev.ldb1 0 (.t rfl) rfl ag9 rfl) rfl ?_)
    refine W.q (Ev.cat (.t rfl) (.t rfl) (fun _ => by rw [List.length_append]; simp only [List.length_cons, List.length_nil]; omega)) rfl ?_
    refine W.is (t := 24) (g := true) (av' := .str (Sty.dtx d)) rfl rfl ?_
    refine W.q (Ev.assign (.t rfl)) rfl ?_
    refine W.nil ?_
    refine W.then ?_
    refine W.seq ?_
    refine W.seq ?_
    refine W.drawnM (fun _ _ => .box b6 60 [.str d.1, .str d.2] :: .arr v 9 1 (((l.take i).map Sty.dtx).map AV.str) :: M0) (c0 := ks0) (by kernel_rfl) (by kernel_rfl) rfl ?_
    refine DM.q (fun e c hk => (Ev.move (.t rfl))) rfl (fun _ _ => rfl) (fun c c_ h => by first | rfl) ?_
    refine DM.eff1 (av := fun c => .sl 2 ((Sty.parse (Sty.dtx d)).map dav)) rfl (fun c c_ h => by (rfl)) (fun e c hk L_ hs Q h => ?_) ?_
    · have hk_1 := hk.not
      simp only [addE, upd, eq_self, List.nil_append, List.cons_append, List.append_nil, hk_1, Nat.reduceAdd, Nat.reduceEqDiff, ↓reduceIte, cond_true, cond_false] at h ⊢
      refine W.call (WParseS.c_parse (Sty.dtx d) (by omega) M0 hC) ⟨(.t (hs _ _ rfl)), trivial⟩ ((List.perm_append_comm (l₁ := [_, _]))) rfl ?_
      rintro _ M' ⟨rfl, hM'⟩
      rw [hM']
      exact h (0, undef) _ (List.perm_append_comm (l₂ := [_, _]))
    (refine DM.q (fun e c hk => (Ev.ldbn 0 (.t rfl) rfl ag60 ty60 rfl)) rfl (fun _ _ => rfl) (fun c c_ h => by first | rfl) ?_)
    refine DM.bs (es := fun _ => [_]) Tryd.underlying54 ty60 (fun c => ⟨rfl, (.t rfl), rfl, rfl, trivial⟩) (fun _ => rfl) (by decide) rfl rfl (fun _ _ => rfl) (fun c c_ h => by first | rfl) ?_
    refine DM.callp (fun c => WEqD.c_Equal (Sty.parse (Sty.dtx d)) [d] (by have := Sty.parse_len (Sty.dtx d); omega)) (fun c => ⟨(.t rfl), (.t rfl), trivial⟩) rfl (fun _ _ => rfl) (fun c c_ h => by (rfl)) ?_
    refine DM.q (fun e c hk => (Ev.not (.t rfl))) rfl (fun _ _ => rfl) (fun c c_ h => by (rfl)) ?_
    refine DM.nil (fun cc e_ he_ => ?_)
    simp only [he_ 1 (by decide), cond_true, cond_false]
    refine W.then ?_
    refine W.cond (.t rfl) (fun hc_t30 => ?_) (fun hc_t30 => ?_)
    · have hbad : Sty.parse (Sty.dtx d) ≠ [d] := by have h := hc_t30; simp at h; exact h
      refine W.seq ?_
      refine W.region ?_
      refine W.q (Ev.assign .k) rfl ?_
      refine W.q (Ev.assign .k) rfl ?_
      refine W.nil ?_
      refine W.then ?_
      refine W.ret ?_
      refine W.then_ret ?_
      refine W.blk_ret ?_
      refine W.then_ret ?_
      refine W.then_ret ?_
      refine W.blk_ret ?_
      refine W.then_ret ?_
      refine W.retn (M' := M0) (D := _) (rs := [.tmp 2, .tmp 3]) (avs := [_, _]) Tryd.results26 ⟨rfl, rfl, trivial⟩ rfl (by (exact List.perm_append_comm (l₁ := [_, _]))) ?_
      (exact ⟨.inl ⟨⟨d, hdm, hbad⟩, rfl⟩, rfl⟩)
    · have hgood : Sty.parse (Sty.dtx d) = [d] := by have h := hc_t30; simp at h; exact h
      refine W.skip ?_
      refine W.then ?_
      refine W.region ?_
      refine W.q (Ev.move (.t rfl)) rfl ?_
      refine W.q (Ev.move (.t rfl)) rfl ?_
      refine W.bs (es := [_]) Tryd.underlying23 ty9 ⟨rfl, (.t rfl), rfl, rfl, trivial⟩ rfl (by decide) rfl rfl ?_
      (refine W.app 1 (.t rfl) rfl (.sl (.t rfl) (by intro e he; rw [List.mem_singleton.1 he]; rfl)) Tryd.underlying23 ni23 ty9 rfl rfl (by rw [List.length_map, List.length_map, List.length_take]; simp only [List.length_cons, List.length_nil]; omega) rfl ?_)
      intro v34
      refine W.q (Ev.assign (.t rfl)) rfl ?_
      refine W.nil ?_
      refine W.blk_normal ?_
      refine W.then ?_
      refine W.region ?_
      (refine W.q (Ev.add (.t rfl) .k (fun _ => by omega)) rfl ?_)
      refine W.q (Ev.move (.t rfl)) rfl ?_
      refine W.nil ?_
      refine W.then ?_
      refine W.reach (D := [.box b6 60 [.str d.1, .str d.2]]) (i + 1, v34) ⟨rfl, rfl, rfl, rfl, trivial⟩ ?_ ⟨⟨hlt, fun x hx => ?_⟩, by show l.length - (i + 1) < l.length - i; omega⟩
      · dsimp only; rw [htk, List.map_append, List.map_append]; exact List.perm_append_comm (l₁ := [_])
      · rw [htk] at hx; rcases List.mem_append.1 hx with hx | hx
        · exact hall x hx
        · rw [List.mem_singleton.1 hx]; exact hgood
  · rw [hend, List.take_length] at hall ⊢
    refine W.seq ?_
    refine W.region ?_
    refine W.q (Ev.lti (.t rfl) (.t rfl)) rfl ?_
    refine W.nil ?_
    refine W.then ?_
    refine W.seq ?_
    refine W.is (t := 12) (g := true) (av' := .lit (.bool false)) rfl (congrArg (fun b => AV.lit (.bool b)) (by exact decide_eq_false (by omega))) ?_
    refine W.condF (.t rfl) ?_
    refine W.exit ?_
    refine W.then_exit ?_
    refine W.then_exit ?_
    refine W.blk_hit ?_
    refine W.then ?_
    refine W.seq ?_
    refine W.region ?_
    refine W.freezeA (M1 := _) (M2 := _) (D := []) (v := v) (L' := [(4, true, .sl 1 ((l.map Sty.dtx).map AV.str))]) (by rw [List.append_nil] <;> exact .refl _) ⟨⟨_, rfl, .one .hit⟩, trivial⟩ (FrzMs.refl _) ?_
    refine W.q (Ev.move (.t rfl)) rfl ?_
    refine W.callp (c_Join (l.map Sty.dtx) [59, 32] (by rw [List.length_map]; omega) (by omega)) ⟨(.t rfl), .k, trivial⟩ rfl ?_
    refine W.q (Ev.assign (.t rfl)) rfl ?_
    refine W.nil ?_
    refine W.then ?_
    refine W.seq ?_
    refine W.seq ?_
    refine W.region ?_
    refine W.q (Ev.move (.t rfl)) rfl ?_
    refine W.q (Ev.lens (.t rfl) Tryd.underlying9) rfl ?_
    refine W.q (Ev.gti (.t rfl) .k) rfl ?_
    refine W.nil ?_
    refine W.then ?_
    refine W.is (t := 40) (g := true) (av' := .lit (.bool false)) rfl (congrArg (fun b => AV.lit (.bool b)) (by exact decide_eq_false (by omega))) ?_
    refine W.condF (.t rfl) ?_
    refine W.skip ?_
    refine W.then ?_
    refine W.seq ?_
    refine W.region ?_
    refine W.q (Ev.move (.t rfl)) rfl ?_
    refine W.q (Ev.assign (.t rfl)) rfl ?_
    refine W.q (Ev.assign .k) rfl ?_
    refine W.nil ?_
    refine W.then ?_
    refine W.ret ?_
    refine W.retn (M' := M0) (D := _) (rs := [.tmp 2, .tmp 3]) (avs := [_, _]) Tryd.results26 ⟨rfl, rfl, trivial⟩ rfl (by (exact List.Perm.of_eq (List.append_nil M0).symm)) ?_
    (exact ⟨.inr ⟨hall, rfl⟩, rfl⟩)

end WTextS

end Go.Proofs.YtlglnmafddnmmaaDoor
end

section
set_option linter.unusedVariables false
set_option linter.unusedSimpArgs false
namespace Go.Vl
namespace Sty
def pcs : UInt8 → Nat → List UInt8 → List UInt8 → List (List UInt8)
  | _, _, cur, [] => [cur]
  | q, dp, cur, c :: s =>
    if q ≠ 0 then pcs (if c = q then 0 else q) dp (cur ++ [c]) s
    else if c = 34 ∨ c = 39 then pcs c dp (cur ++ [c]) s
    else if c = 40 then pcs q (dp + 1) (cur ++ [c]) s
    else if c = 41 then pcs q (dp - 1) (cur ++ [c]) s
    else if c = 59 ∧ dp = 0 then cur :: pcs q dp [] s
    else pcs q dp (cur ++ [c]) s
theorem pst_pcs (s : List UInt8) : ∀ i, i ≤ s.length → (pst s i).out ++ pcs (pst s i).qt (pst s i).dp ((s.take i).drop (pst s i).fr) (s.drop i) = pcs 0 0 [] s
  | 0, _ => by simp [pst]
  | i + 1, hi => by
    rw [← pst_pcs s i (by omega)]
    have hok := pst_ok s i
    obtain ⟨k1, _, _, _⟩ := hok
    rw [pst]
    generalize pst s i = p at k1
    have hd : s.drop i = s.getD i 0 :: s.drop (i + 1) := by
      rw [List.drop_eq_getElem_cons (by omega), List.getD_eq_getElem?_getD, List.getElem?_eq_getElem (by omega)]; rfl
    have ht : ∀ fr, fr ≤ i → (s.take (i + 1)).drop fr = (s.take i).drop fr ++ [s.getD i 0] := fun fr hf => by
      rw [List.take_succ_eq_append_getElem (by omega), List.drop_append_of_le_length (by rw [List.length_take]; omega), List.getD_eq_getElem?_getD, List.getElem?_eq_getElem (by omega)]; rfl
    rw [hd]
    unfold Ps.step
    generalize s.getD i 0 = c at ht ⊢
    rw [pcs]
    split
    · split
      · simp only; rw [ht _ k1]
      · rw [ht _ k1]
    · split
      · simp only; rw [ht _ k1]
      · split
        · simp only; rw [ht _ k1]
        · split
          · simp only; rw [ht _ k1]
          · split
            · simp only
              rw [show (s.take (i + 1)).drop (i + 1) = [] from List.drop_of_length_le (by rw [List.length_take]; omega), List.append_assoc]; rfl
            · rw [ht _ k1]
theorem pieces_pcs (s : List UInt8) : pieces s = pcs 0 0 [] s := by
  rw [← pst_pcs s s.length (Nat.le_refl _), List.take_length, List.drop_length]
  unfold pieces
  cases (pst s s.length).qt == 0 <;> rfl
/-- where a text that is not parted leads to -/
def clo : UInt8 → Nat → List UInt8 → Option (UInt8 × Nat)
  | q, dp, [] => some (q, dp)
  | q, dp, c :: s =>
    if q ≠ 0 then clo (if c = q then 0 else q) dp s
    else if c = 34 ∨ c = 39 then clo c dp s
    else if c = 40 then clo q (dp + 1) s
    else if c = 41 then clo q (dp - 1) s
    else if c = 59 ∧ dp = 0 then none
    else clo q dp s
theorem pcs_clo : ∀ (p : List UInt8) (q : UInt8) (dp : Nat) (cur s : List UInt8) (q' : UInt8) (dp' : Nat), clo q dp p = some (q', dp') → pcs q dp cur (p ++ s) = pcs q' dp' (cur ++ p) s
  | [], q, dp, cur, s, q', dp', h => by
    rw [clo] at h
    cases h
    rw [List.append_nil]; rfl
  | c :: p, q, dp, cur, s, q', dp', h => by
    rw [clo] at h
    rw [List.cons_append, pcs]
    have e : cur ++ c :: p = (cur ++ [c]) ++ p := by simp
    rw [e]
    split
    · rw [if_pos ‹_›] at h; exact pcs_clo p _ _ _ s _ _ h
    · rw [if_neg ‹_›] at h
      split
      · rw [if_pos ‹_›] at h; exact pcs_clo p _ _ _ s _ _ h
      · rw [if_neg ‹_›] at h
        split
        · rw [if_pos ‹_›] at h; exact pcs_clo p _ _ _ s _ _ h
        · rw [if_neg ‹_›] at h
          split
          · rw [if_pos ‹_›] at h; exact pcs_clo p _ _ _ s _ _ h
          · rw [if_neg ‹_›] at h
            split
            · rw [if_pos ‹_›] at h; cases h
            · rw [if_neg ‹_›] at h; exact pcs_clo p _ _ _ s _ _ h
theorem pcs_part {p : List UInt8} (h : clo 0 0 p = some (0, 0)) (s : List UInt8) : pcs 0 0 [] (p ++ 59 :: s) = p :: pcs 0 0 [] s := by
  rw [pcs_clo p 0 0 [] (59 :: s) 0 0 h, pcs, if_neg (by simp), if_neg (by decide), if_neg (by decide), if_neg (by decide), if_pos ⟨rfl, rfl⟩]; rfl
theorem pcs_all {p : List UInt8} (h : clo 0 0 p = some (0, 0)) : pcs 0 0 [] p = [p] := by
  have := pcs_clo p 0 0 [] [] 0 0 h
  rw [List.append_nil] at this
  rw [this]; rfl
theorem cut_cons {c : UInt8} (h : c ≠ 47) (s : List UInt8) : Lib.cut (c :: s) [47, 42] = (c :: (Lib.cut s [47, 42]).1, (Lib.cut s [47, 42]).2.1, (Lib.cut s [47, 42]).2.2) := by
  have hp : ([47, 42] : List UInt8).isPrefixOf (c :: s) = false := by
    simp only [List.isPrefixOf, Bool.and_eq_false_iff]
    exact .inl (beq_eq_false_iff_ne.2 fun e => h e.symm)
  have hi : Lib.index (c :: s) [47, 42] = if Lib.index s [47, 42] == -1 then -1 else Lib.index s [47, 42] + 1 := by
    rw [Lib.index, hp]; rfl
  unfold Lib.cut
  rw [hi]
  rcases index_ge s [47, 42] with h1 | ⟨h1, h2⟩
  · rw [h1]; rfl
  · have hi2 : (if (Lib.index s [47, 42] == -1) = true then (-1 : Int) else Lib.index s [47, 42] + 1) = Lib.index s [47, 42] + 1 := if_neg (by simp; omega)
    rw [hi2, if_pos h1, if_pos (by omega), show (Lib.index s [47, 42] + 1).toNat = (Lib.index s [47, 42]).toNat + 1 from by omega]
    simp only [List.take_succ_cons, List.length_cons, List.length_nil]
    rw [show (Lib.index s [47, 42]).toNat + 1 + (0 + 1 + 1) = ((Lib.index s [47, 42]).toNat + (0 + 1 + 1)) + 1 from by omega, List.drop_succ_cons]
theorem bare_cons {c : UInt8} (h : c ≠ 47) (s : List UInt8) : bare (c :: s) = c :: bare s := by
  rw [bare_eq (c :: s), bare_eq s, cut_cons h]
  simp only
  split <;> rfl
theorem bare_pre : ∀ (p u : List UInt8), (∀ c ∈ p, c ≠ 47) → bare (p ++ u) = p ++ bare u
  | [], u, _ => rfl
  | c :: p, u, h => by
    rw [List.cons_append, bare_cons (h c List.mem_cons_self), bare_pre p u fun d hd => h d (List.mem_cons_of_mem _ hd)]; rfl
theorem bare_nil : bare [] = [] := by decide +kernel
theorem bare_id {p : List UInt8} (h : ∀ c ∈ p, c ≠ 47) : bare p = p := by
  have := bare_pre p [] h
  rwa [List.append_nil, bare_nil, List.append_nil] at this
def dnames : List (List UInt8) := [[99, 111, 108, 111, 114], [119, 105, 100, 116, 104], [97, 45, 98], [120, 49]]
def dvals : List (List UInt8) := [[114, 101, 100], [49, 112, 120, 32, 50, 112, 120], [117, 114, 108, 40, 97, 59, 98, 41], [34, 59, 58, 34], [97, 58, 98], [102, 40, 103, 40, 59, 41, 41], [39, 120, 39]]
def okD (d : List UInt8 × List UInt8) : Bool := clo 0 0 (dtx d) == some (0, 0) && clo 0 0 (32 :: dtx d) == some (0, 0) && is1 (dtx d) && is1 (32 :: dtx d) && dec1 (dtx d) == d && dec1 (32 :: dtx d) == d && !((dtx d).contains 47) && nameOk d.1 && decide ((dtx d).length ≤ 16)
theorem okD_all : ∀ n ∈ dnames, ∀ v ∈ dvals, okD (n, v) = true := by decide +kernel
structure Dd (d : List UInt8 × List UInt8) : Prop where
  c1 : clo 0 0 (dtx d) = some (0, 0)
  c2 : clo 0 0 (32 :: dtx d) = some (0, 0)
  i1 : is1 (dtx d) = true
  i2 : is1 (32 :: dtx d) = true
  d1 : dec1 (dtx d) = d
  d2 : dec1 (32 :: dtx d) = d
  no : ∀ c ∈ dtx d, c ≠ 47
  nm : nameOk d.1 = true
  len : (dtx d).length ≤ 16
  mn : d.1 ∈ dnames
  mv : d.2 ∈ dvals
theorem dd_of {d : List UInt8 × List UInt8} (h1 : d.1 ∈ dnames) (h2 : d.2 ∈ dvals) : Dd d := by
  have h := okD_all _ h1 _ h2
  unfold okD at h
  simp only [Bool.and_eq_true, beq_iff_eq, decide_eq_true_eq, Bool.not_eq_true'] at h
  obtain ⟨⟨⟨⟨⟨⟨⟨⟨a, b⟩, c⟩, e⟩, f⟩, g⟩, i⟩, j⟩, k⟩ := h
  refine ⟨a, b, c, e, f, g, fun x hx => ?_, j, k, h1, h2⟩
  rintro rfl
  simp at i
  exact i hx
theorem Dd.self {d : List UInt8 × List UInt8} (h : Dd d) : parse (dtx d) = [d] := by
  unfold parse
  rw [bare_id h.no, pieces_pcs, pcs_all h.c1]
  simp [decs, h.i1, h.d1]
theorem decs_cons (p : List UInt8) (l : List (List UInt8)) : decs (p :: l) = (if is1 p = true then [dec1 p] else []) ++ decs l := by simp [decs]
theorem join_no (ds : List (List UInt8 × List UInt8)) (h : ∀ d ∈ ds, Dd d) : ∀ c ∈ Ex.joinW [59, 32] (ds.map dtx), c ≠ 47 := by
  induction ds with
  | nil => intro c hc; cases hc
  | cons d l ih =>
    cases l with
    | nil => exact (h d List.mem_cons_self).no
    | cons e l =>
      intro c hc
      rw [show Ex.joinW [59, 32] ((d :: e :: l).map dtx) = dtx d ++ ([59, 32] ++ Ex.joinW [59, 32] ((e :: l).map dtx)) from rfl] at hc
      rcases List.mem_append.1 hc with hc | hc
      · exact (h d List.mem_cons_self).no c hc
      · rcases List.mem_append.1 hc with hc | hc
        · rintro rfl; simp at hc
        · exact ih (fun x hx => h x (List.mem_cons_of_mem _ hx)) c hc
theorem join_len (ds : List (List UInt8 × List UInt8)) (h : ∀ d ∈ ds, Dd d) : (Ex.joinW [59, 32] (ds.map dtx)).length ≤ 18 * ds.length := by
  induction ds with
  | nil => exact Nat.le_refl _
  | cons d l ih =>
    have h1 := (h d List.mem_cons_self).len
    cases l with
    | nil => show (dtx d).length ≤ 18 * 1; omega
    | cons e l =>
      have h2 := ih fun x hx => h x (List.mem_cons_of_mem _ hx)
      rw [show Ex.joinW [59, 32] ((d :: e :: l).map dtx) = dtx d ++ ([59, 32] ++ Ex.joinW [59, 32] ((e :: l).map dtx)) from rfl, List.length_append, List.length_append]
      simp only [List.length_cons, List.length_nil] at h2 ⊢
      omega
theorem okc_davs (l : List (List UInt8 × List UInt8)) : ∀ e ∈ l.map dav, e.okc = true := fun e he => by
  obtain ⟨d, _, rfl⟩ := List.mem_map.1 he
  rfl
end Sty
end Go.Vl
end

section
set_option linter.unusedVariables false
set_option linter.unusedSimpArgs false
set_option maxRecDepth 100000
namespace Go.Proofs.YtlglnmafddnmmaaDoor
open Go.Vl

namespace WDecls
theorem ty3 : Ty Tryd.prog 3 1 8 (.int .i64 0) := Ty.of (by kernel_rfl)
theorem ty9 : Ty Tryd.prog 9 1 16 (.string ⟨#[]⟩) := Ty.of (by kernel_rfl)
theorem ty60 : Ty Tryd.prog 60 2 32 (.agg #[.string ⟨#[]⟩, .string ⟨#[]⟩]) := Ty.of (by kernel_rfl)
theorem ag3 : IsAgg Tryd.prog 3 false := ⟨_, Tryd.underlying3, rfl⟩
theorem ag9 : IsAgg Tryd.prog 9 false := ⟨_, Tryd.underlying9, rfl⟩
theorem st60 : StructAt Tryd.prog 60 [(0, 1), (1, 1)] := ⟨_, Tryd.underlying60, rfl, ty9.size, rfl, ty9.size, trivial⟩
theorem ni54 : NotInt Tryd.prog 54 := .inl ⟨_, Tryd.underlying54⟩
theorem c_Decls (l : List Int) (n : Nat) (hl : l.length ≤ 1048576) (hn : n ≤ 1000) : FnC Tryd.prog 25 [.sl 1 (l.map AV.int), .int (n : Int)] [] (fun r M => M = [] ∧ ∃ ds : List Dc, r = .sl 2 (ds.map dav) ∧ ds.length ≤ n ∧ ∀ d ∈ ds, Sty.Dd d) :=  by
  refine FnC.mk Tryd.func25 (by kernel_rfl) rfl Tryd.ntmps25 rfl (fun w0 F => ?_)
  have hll : (l.map AV.int).length = l.length := List.length_map ..
  refine W.seq ?_
  refine W.region ?_
  refine W.q (Ev.assign .k) rfl ?_
  refine W.nil ?_
  refine W.then ?_
  refine W.seq ?_
  refine W.region ?_
  refine W.q (Ev.assign .k) rfl ?_
  refine W.nil ?_
  refine W.then ?_
  refine W.seq ?_
  refine W.seq ?_
  refine W.region ?_
  refine W.q (Ev.assign .k) rfl ?_
  refine W.nil ?_
  refine W.then ?_
  refine W.block ?_
  refine W.own_nil 60 2 ?_
  refine W.loop (D := []) (ι := Nat × List Dc × Value) (fun z => [(6, true, .int (z.1 : Int)), (0, true, .sl 1 (l.map AV.int)), (1, true, .int (n : Int)), (5, true, .lit z.2.2)]) (fun z => [.arr z.2.2 60 2 (z.2.1.map dav)]) (fun z => z.1 ≤ l.length ∧ z.1 ≤ n ∧ z.2.1.length ≤ z.1 ∧ ∀ d ∈ z.2.1, Sty.Dd d) (fun z => l.length - z.1) (0, [], .slice none 0 0) ⟨rfl, rfl, rfl, rfl, trivial⟩ (.refl _) ⟨Nat.zero_le _, Nat.zero_le _, by simp, fun d hd => by cases hd⟩ ?_
  rintro ⟨i, out, v⟩ ⟨hi1, hi2, hi3, hdd⟩
  dsimp only at hi1 hi2 hi3 hdd ⊢
  rcases (show (i < l.length ∧ i < n) ∨ ¬ (i < l.length ∧ i < n) from by omega) with hlt | hge
  · have hga := getD_map l i hlt.1
    generalize hz : l.getD i 0 = z at hga
    obtain ⟨sx, hsx, h1⟩ := pick_mod [[99, 111, 108, 111, 114], [119, 105, 100, 116, 104], [97, 45, 98], [120, 49]] z 4 rfl (by decide)
    obtain ⟨sy, hsy, h2⟩ := pick_mod [[114, 101, 100], [49, 112, 120, 32, 50, 112, 120], [117, 114, 108, 40, 97, 59, 98, 41], [34, 59, 58, 34], [97, 58, 98], [102, 40, 103, 40, 59, 41, 41], [39, 120, 39]] (IntKind.i64.wrap (z.tdiv 4)) 7 rfl (by decide)
    have hd1 : Sty.Dd (sx, sy) := Sty.dd_of hsx hsy
    refine W.seq ?_
    refine W.seq ?_
    refine W.region ?_
    refine W.q (Ev.move (.t rfl)) rfl ?_
    refine W.q (Ev.move (.t rfl)) rfl ?_
    (refine W.q (Ev.lensl (.t rfl) Tryd.underlying22) rfl ?_)
    refine W.q (Ev.lti (.t rfl) (.t rfl)) rfl ?_
    refine W.q (Ev.move (.t rfl)) rfl ?_
    refine W.qgT rfl rfl (Ev.move (.t rfl)) rfl ?_
    refine W.qgT rfl rfl (Ev.move (.t rfl)) rfl ?_
    refine W.qgT rfl rfl (Ev.lti (.c rfl) (.c rfl)) rfl ?_
    refine W.q (Ev.and (.t rfl) ⟨_, _, rfl, rfl, by ((simp; done))⟩) rfl ?_
    refine W.nil ?_
    refine W.then ?_
    refine W.is (t := 15) (g := true) (av' := .lit (.bool true)) rfl (congrArg (fun b => AV.lit (.bool b)) (by simp; omega)) ?_
    refine W.condT (.t rfl) ?_
    refine W.skip ?_
    refine W.then ?_
    refine W.seq ?_
    refine W.block ?_
    refine W.drawnE (ι := Value) (fun e c => bif e 20 then [.arr c 60 2 (out.map dav ++ [dav (sx, sy)])] else [.arr v 60 2 (out.map dav)]) 20 (.slice none 0 0) (by kernel_rfl) (by kernel_rfl) rfl ?_
    refine DE.q (fun e c hk => (Ev.move (.t rfl))) rfl (fun _ _ => rfl) (by (exact .inr (fun _ _ => rfl))) ?_
    refine DE.bs (es := fun _ => [_, _, _, _]) Tryd.underlying23 ty9 (fun c => ⟨rfl, .k, rfl, rfl, rfl, .k, rfl, rfl, rfl, .k, rfl, rfl, rfl, .k, rfl, rfl, trivial⟩) (fun _ => rfl) (by decide) rfl rfl (fun _ _ => rfl) (by (exact .inr (fun _ _ => rfl))) ?_
    refine DE.q (fun e c hk => (Ev.move (.t rfl))) rfl (fun _ _ => rfl) (by (exact .inr (fun _ _ => rfl))) ?_
    refine DE.q (fun e c hk => (Ev.move (.t rfl))) rfl (fun _ _ => rfl) (by (exact .inr (fun _ _ => rfl))) ?_
    refine DE.q (fun e c hk => Ev.at (E := 3) (.t rfl) (.t rfl) Tryd.underlying22 ty3 (fun _ => ⟨by omega, hga⟩) rfl rfl) rfl (fun _ _ => rfl) (by (exact .inr (fun _ _ => rfl))) ?_
    (refine DE.q (fun e c hk => (Ev.lde1 (.t rfl) ag3)) rfl (fun _ _ => rfl) (by (exact .inr (fun _ _ => rfl))) ?_)
    refine DE.callp (fun c => Base.c_Picked z 4 (by decide) (by decide)) (fun c => ⟨(.t rfl), .k, trivial⟩) rfl (fun _ _ => rfl) (by (exact .inr (fun _ _ => rfl))) ?_
    refine DE.q (fun e c hk => Ev.at (E := 9) (.t rfl) (.t rfl) Tryd.underlying23 ty9 (fun _ => ⟨Int.emod_nonneg _ (by decide), h1⟩) rfl rfl) rfl (fun _ _ => rfl) (by (exact .inr (fun _ _ => rfl))) ?_
    (refine DE.q (fun e c hk => (Ev.lde1 (.t rfl) ag9)) rfl (fun _ _ => rfl) (by (exact .inr (fun _ _ => rfl))) ?_)
    refine DE.bs (es := fun _ => [_, _, _, _, _, _, _]) Tryd.underlying23 ty9 (fun c => ⟨rfl, .k, rfl, rfl, rfl, .k, rfl, rfl, rfl, .k, rfl, rfl, rfl, .k, rfl, rfl, rfl, .k, rfl, rfl, rfl, .k, rfl, rfl, rfl, .k, rfl, rfl, trivial⟩) (fun _ => rfl) (by decide) rfl rfl (fun _ _ => rfl) (by (exact .inr (fun _ _ => rfl))) ?_
    refine DE.q (fun e c hk => (Ev.move (.t rfl))) rfl (fun _ _ => rfl) (by (exact .inr (fun _ _ => rfl))) ?_
    refine DE.q (fun e c hk => (Ev.move (.t rfl))) rfl (fun _ _ => rfl) (by (exact .inr (fun _ _ => rfl))) ?_
    refine DE.q (fun e c hk => Ev.at (E := 3) (.t rfl) (.t rfl) Tryd.underlying22 ty3 (fun _ => ⟨by omega, hga⟩) rfl rfl) rfl (fun _ _ => rfl) (by (exact .inr (fun _ _ => rfl))) ?_
    (refine DE.q (fun e c hk => (Ev.lde1 (.t rfl) ag3)) rfl (fun _ _ => rfl) (by (exact .inr (fun _ _ => rfl))) ?_)
    (refine DE.q (fun e c hk => (Ev.quo (.t rfl) .k (fun _ => by decide))) rfl (fun _ _ => rfl) (by (exact .inr (fun _ _ => rfl))) ?_)
    refine DE.callp (fun c => Base.c_Picked (IntKind.i64.wrap (z.tdiv 4)) 7 (by decide) (by decide)) (fun c => ⟨(.t rfl), .k, trivial⟩) rfl (fun _ _ => rfl) (by (exact .inr (fun _ _ => rfl))) ?_
    refine DE.q (fun e c hk => Ev.at (E := 9) (.t rfl) (.t rfl) Tryd.underlying23 ty9 (fun _ => ⟨Int.emod_nonneg _ (by decide), h2⟩) rfl rfl) rfl (fun _ _ => rfl) (by (exact .inr (fun _ _ => rfl))) ?_
    (refine DE.q (fun e c hk => (Ev.lde1 (.t rfl) ag9)) rfl (fun _ _ => rfl) (by (exact .inr (fun _ _ => rfl))) ?_)
    refine DE.q (fun e c hk => (Ev.build ty60 st60 rfl (fun hg => ⟨_, _, _, rfl, (.t rfl), rfl, rfl, rfl, _, _, _, rfl, (.t rfl), rfl, rfl, rfl, rfl⟩))) rfl (fun _ _ => rfl) (by (exact .inr (fun _ _ => rfl))) ?_
    refine DE.bs (es := fun _ => [_]) Tryd.underlying54 ty60 (fun c => ⟨rfl, (.t rfl), rfl, rfl, trivial⟩) (fun _ => rfl) (by decide) rfl rfl (fun _ _ => rfl) (by (exact .inr (fun _ _ => rfl))) ?_
    refine DE.eff1 (av := fun v => .lit v) rfl rfl (fun e c hk L_ hs Q h => ?_) ?_
    · have hk_20 := hk.not
      simp only [addE, hk_20, Nat.reduceAdd, Nat.reduceEqDiff, ↓reduceIte, cond_true, cond_false] at h ⊢
      ((refine W.app 0 (.t (hs _ _ rfl)) rfl (.sl (.t (hs _ _ rfl)) (by ((simp [AV.okc, shV]; done)))) Tryd.underlying54 ni54 ty60 rfl rfl (by rw [List.length_map]; simp; omega) rfl ?_; exact h))
    refine DE.q (fun e c hk => (Ev.assign (.t rfl))) rfl (fun _ _ => rfl) (by (exact .inl (by kernel_rfl))) ?_
    refine DE.nil (fun v38 e_ he_ => ?_)
    simp only [he_ 20 (by decide), cond_true, cond_false]
    refine W.blk_normal ?_
    refine W.then ?_
    refine W.region ?_
    refine W.q (Ev.move (.t rfl)) rfl ?_
    (refine W.q (Ev.add (.t rfl) .k (fun _ => by omega)) rfl ?_)
    refine W.q (Ev.assign (.t rfl)) rfl ?_
    refine W.nil ?_
    refine W.then ?_
    refine W.reach (D := []) (i + 1, out ++ [(sx, sy)], v38) ⟨rfl, rfl, rfl, rfl, trivial⟩ (by rw [List.map_append]; exact .refl _) ⟨⟨by omega, by omega, ?_, ?_⟩, by omega⟩
    · show (out ++ _).length ≤ i + 1; rw [List.length_append, List.length_singleton]; omega
    · intro d hd; rcases List.mem_append.1 hd with hd | hd
      · exact hdd d hd
      · rw [List.mem_singleton.1 hd]; exact hd1
  · skip
    refine W.seq ?_
    refine W.seq ?_
    refine W.region ?_
    refine W.q (Ev.move (.t rfl)) rfl ?_
    refine W.q (Ev.move (.t rfl)) rfl ?_
    (refine W.q (Ev.lensl (.t rfl) Tryd.underlying22) rfl ?_)
    refine W.q (Ev.lti (.t rfl) (.t rfl)) rfl ?_
    refine W.q (Ev.move (.t rfl)) rfl ?_
    refine W.qgT rfl rfl (Ev.move (.t rfl)) rfl ?_
    refine W.qgT rfl rfl (Ev.move (.t rfl)) rfl ?_
    refine W.qgT rfl rfl (Ev.lti (.c rfl) (.c rfl)) rfl ?_
    refine W.q (Ev.and (.t rfl) ⟨_, _, rfl, rfl, by ((simp; done))⟩) rfl ?_
    refine W.nil ?_
    refine W.then ?_
    refine W.is (t := 15) (g := true) (av' := .lit (.bool false)) rfl (congrArg (fun b => AV.lit (.bool b)) (by simp; omega)) ?_
    refine W.condF (.t rfl) ?_
    refine W.exit ?_
    refine W.then_exit ?_
    refine W.then_exit ?_
    refine W.blk_hit ?_
    refine W.then ?_
    refine W.seq ?_
    refine W.region ?_
    refine W.q (Ev.move (.t rfl)) rfl ?_
    refine W.q (Ev.assign (.t rfl)) rfl ?_
    refine W.nil ?_
    refine W.then ?_
    refine W.ret ?_
    refine W.freeze (M1 := []) (M2 := []) (D := _) (v := v) (L' := [(4, true, .sl 2 (out.map dav))]) (.refl _) ⟨⟨_, rfl, .one .hit⟩, trivial⟩ trivial ?_
    refine W.retn (M' := []) (rs := [.tmp 4]) (avs := [_]) Tryd.results25 ⟨rfl, trivial⟩ rfl (.refl _) ?_
    exact ⟨rfl, out, rfl, by omega, hdd⟩

end WDecls

end Go.Proofs.YtlglnmafddnmmaaDoor
end

section
set_option linter.unusedVariables false
set_option linter.unusedSimpArgs false
namespace Go.Vl
namespace Sty
theorem cut_hit (a b : UInt8) (s : List UInt8) : Lib.cut (a :: b :: s) [a, b] = ([], s, true) := by
  have hi : Lib.index (a :: b :: s) [a, b] = 0 := by
    rw [Lib.index, if_pos (by simp [List.isPrefixOf])]
  unfold Lib.cut
  rw [hi]; rfl
theorem cut2_cons {c : UInt8} (h : c ≠ 42) (s : List UInt8) : Lib.cut (c :: s) [42, 47] = (if 0 ≤ Lib.index s [42, 47] then c :: (Lib.cut s [42, 47]).1 else c :: s, (Lib.cut s [42, 47]).2.1, (Lib.cut s [42, 47]).2.2) := by
  have hp : ([42, 47] : List UInt8).isPrefixOf (c :: s) = false := by
    simp only [List.isPrefixOf, Bool.and_eq_false_iff]
    exact .inl (beq_eq_false_iff_ne.2 fun e => h e.symm)
  have hi : Lib.index (c :: s) [42, 47] = if Lib.index s [42, 47] == -1 then -1 else Lib.index s [42, 47] + 1 := by
    rw [Lib.index, hp]; rfl
  unfold Lib.cut
  rw [hi]
  rcases index_ge s [42, 47] with h1 | ⟨h1, h2⟩
  · rw [h1]; rfl
  · have hi2 : (if (Lib.index s [42, 47] == -1) = true then (-1 : Int) else Lib.index s [42, 47] + 1) = Lib.index s [42, 47] + 1 := if_neg (by simp; omega)
    rw [hi2, if_pos h1, if_pos h1, if_pos (by omega), show (Lib.index s [42, 47] + 1).toNat = (Lib.index s [42, 47]).toNat + 1 from by omega]
    simp only [List.take_succ_cons, List.length_cons, List.length_nil]
    rw [show (Lib.index s [42, 47]).toNat + 1 + (0 + 1 + 1) = ((Lib.index s [42, 47]).toNat + (0 + 1 + 1)) + 1 from by omega, List.drop_succ_cons]
theorem cut2_pre : ∀ (r w : List UInt8), (∀ c ∈ r, c ≠ 42) → (Lib.cut (r ++ 42 :: 47 :: w) [42, 47]).2.1 = w ∧ (Lib.cut (r ++ 42 :: 47 :: w) [42, 47]).2.2 = true
  | [], w, _ => by rw [List.nil_append, cut_hit]; exact ⟨rfl, rfl⟩
  | c :: r, w, h => by
    rw [List.cons_append, cut2_cons (h c List.mem_cons_self)]
    exact cut2_pre r w fun d hd => h d (List.mem_cons_of_mem _ hd)
theorem bare_rem (r w : List UInt8) (h : ∀ c ∈ r, c ≠ 42) : bare (47 :: 42 :: (r ++ 42 :: 47 :: w)) = bare w := by
  rw [bare_eq, cut_hit]
  obtain ⟨h1, h2⟩ := cut2_pre r w h
  simp only [if_true, h1, h2, List.nil_append]
def gap1 : List (List UInt8) := [[], [32], [47, 42, 59, 120, 58, 121, 42, 47], [10, 59, 59]]
def gap2 : List (List UInt8) := [[], [32], [47, 42, 39, 42, 47]]
/-- a gap without remarks -/
def bch (g : List UInt8) : List UInt8 := if g.contains 47 then [] else g
theorem bare_gap (g : List UInt8) (hg : g ∈ gap1 ∨ g ∈ gap2) (w : List UInt8) : bare (g ++ w) = bch g ++ bare w := by
  simp only [gap1, gap2, List.mem_cons, List.not_mem_nil, or_false] at hg
  rcases hg with (rfl | rfl | rfl | rfl) | (rfl | rfl | rfl)
  · rfl
  · exact bare_pre [32] w (by decide)
  · exact bare_rem [59, 120, 58, 121] w (by decide)
  · exact bare_pre [10, 59, 59] w (by decide)
  · rfl
  · exact bare_pre [32] w (by decide)
  · exact bare_rem [39] w (by decide)
structure Ck where
  g1 : List UInt8
  g2 : List UInt8
  d : List UInt8 × List UInt8
def Ck.tx (c : Ck) : List UInt8 := ((((c.g1 ++ c.d.1) ++ c.g2) ++ [58]) ++ c.d.2) ++ [59]
structure Ck.Ok (c : Ck) : Prop where
  g1 : c.g1 ∈ gap1
  g2 : c.g2 ∈ gap2
  n : c.d.1 ∈ dnames
  v : c.d.2 ∈ dvals
def qx (b1 b2 n v : List UInt8) : List UInt8 := b1 ++ (n ++ (b2 ++ 58 :: v))
def okB (b1 b2 n v : List UInt8) : Bool := clo 0 0 (qx b1 b2 n v) == some (0, 0) && is1 (qx b1 b2 n v) && dec1 (qx b1 b2 n v) == (n, v)
theorem okB_all : ∀ b1 ∈ ([[], [32]] : List (List UInt8)), ∀ b2 ∈ ([[], [32]] : List (List UInt8)), ∀ n ∈ dnames, ∀ v ∈ dvals, okB b1 b2 n v = true := by decide +kernel
theorem no47 : (∀ n ∈ dnames, ∀ c ∈ n, c ≠ 47) ∧ (∀ v ∈ dvals, ∀ c ∈ v, c ≠ 47) := by decide +kernel
theorem bare_ck {c : Ck} (h : c.Ok) (w : List UInt8) : bare (c.tx ++ w) = bch c.g1 ++ (c.d.1 ++ (bch c.g2 ++ (58 :: (c.d.2 ++ 59 :: bare w)))) := by
  have e : c.tx ++ w = c.g1 ++ (c.d.1 ++ (c.g2 ++ ((58 :: (c.d.2 ++ [59])) ++ w))) := by unfold Ck.tx; simp
  rw [e, bare_gap _ (.inl h.g1), bare_pre _ _ (no47.1 _ h.n), bare_gap _ (.inr h.g2), bare_pre _ _ (fun x hx => by
    rcases List.mem_cons.1 hx with rfl | hx
    · decide
    · rcases List.mem_append.1 hx with hx | hx
      · exact no47.2 _ h.v x hx
      · rw [List.mem_singleton.1 hx]; decide)]
  simp
theorem decs_q {b1 b2 n v : List UInt8} (h1 : b1 ∈ ([[], [32]] : List (List UInt8))) (h2 : b2 ∈ ([[], [32]] : List (List UInt8))) (hn : n ∈ dnames) (hv : v ∈ dvals) (w : List UInt8) : decs (pcs 0 0 [] (b1 ++ (n ++ (b2 ++ (58 :: (v ++ 59 :: w)))))) = (n, v) :: decs (pcs 0 0 [] w) := by
  have h := okB_all b1 h1 b2 h2 n hn v hv
  unfold okB at h
  simp only [Bool.and_eq_true, beq_iff_eq] at h
  obtain ⟨⟨a, b⟩, c⟩ := h
  have e : b1 ++ (n ++ (b2 ++ (58 :: (v ++ 59 :: w)))) = qx b1 b2 n v ++ 59 :: w := by unfold qx; simp
  rw [e, pcs_part a, decs_cons, if_pos b, c]; rfl
theorem decs_ck {c : Ck} (h : c.Ok) (w : List UInt8) : decs (pcs 0 0 [] (bch c.g1 ++ (c.d.1 ++ (bch c.g2 ++ (58 :: (c.d.2 ++ 59 :: w)))))) = c.d :: decs (pcs 0 0 [] w) := by
  have hb2 : bch c.g2 ∈ ([[], [32]] : List (List UInt8)) := by
    have := h.g2
    have hall : ∀ g ∈ gap2, bch g ∈ ([[], [32]] : List (List UInt8)) := by decide +kernel
    exact hall _ this
  have hall : ∀ g ∈ gap1, bch g ∈ ([[], [32]] : List (List UInt8)) ∨ bch g = [10, 59, 59] := by decide +kernel
  rcases hall _ h.g1 with hb1 | hb1
  · exact decs_q hb1 hb2 h.n h.v w
  · rw [hb1]
    have q := decs_q (b1 := []) (by decide) hb2 h.n h.v w
    have k1 : clo 0 0 [10] = some (0, 0) ∧ is1 [10] = false := by decide +kernel
    have k2 : clo 0 0 [] = some (0, 0) ∧ is1 [] = false := by decide +kernel
    have p1 := pcs_part k1.1 (59 :: ([] ++ (c.d.1 ++ (bch c.g2 ++ (58 :: (c.d.2 ++ 59 :: w))))))
    have p2 := pcs_part k2.1 ([] ++ (c.d.1 ++ (bch c.g2 ++ (58 :: (c.d.2 ++ 59 :: w)))))
    rw [List.nil_append] at p2
    show decs (pcs 0 0 [] ([10] ++ 59 :: (59 :: ([] ++ (c.d.1 ++ (bch c.g2 ++ (58 :: (c.d.2 ++ 59 :: w)))))))) = _
    rw [p1, decs_cons, k1.2, p2, decs_cons, k2.2, q]; rfl
theorem parse_cks : ∀ L : List Ck, (∀ c ∈ L, c.Ok) → parse (L.flatMap Ck.tx) = L.map Ck.d := by
  have key : ∀ L : List Ck, (∀ c ∈ L, c.Ok) → decs (pcs 0 0 [] (bare (L.flatMap Ck.tx))) = L.map Ck.d := by
    intro L
    induction L with
    | nil => intro _; rw [show (([] : List Ck).flatMap Ck.tx) = [] from rfl, bare_nil]; decide +kernel
    | cons c L ih =>
      intro h
      rw [List.flatMap_cons, bare_ck (h c List.mem_cons_self), decs_ck (h c List.mem_cons_self), ih fun x hx => h x (List.mem_cons_of_mem _ hx)]; rfl
  intro L h
  unfold parse
  rw [pieces_pcs]; exact key L h
theorem join_pcs0 : ∀ (ds : List (List UInt8 × List UInt8)) (b : Bool), (∀ d ∈ ds, Dd d) → decs (pcs 0 0 [] ((if b then [32] else []) ++ Ex.joinW [59, 32] (ds.map dtx))) = ds
  | [], b, _ => by
    have hb : ∀ b : Bool, decs (pcs 0 0 [] (if b then [32] else ([] : List UInt8))) = [] := by decide +kernel
    rw [show Ex.joinW [59, 32] (([] : List (List UInt8 × List UInt8)).map dtx) = [] from rfl, List.append_nil, hb]
  | [d], b, h => by
    have hd := h d List.mem_cons_self
    rw [show Ex.joinW [59, 32] (([d] : List (List UInt8 × List UInt8)).map dtx) = dtx d from rfl]
    cases b
    · rw [show (if false = true then [32] else ([] : List UInt8)) ++ dtx d = dtx d from rfl, pcs_all hd.c1, decs_cons, if_pos hd.i1, hd.d1]; rfl
    · rw [show (if true = true then [32] else ([] : List UInt8)) ++ dtx d = 32 :: dtx d from rfl, pcs_all hd.c2, decs_cons, if_pos hd.i2, hd.d2]; rfl
  | d :: e :: l, b, h => by
    have hd := h d List.mem_cons_self
    have ih := join_pcs0 (e :: l) true fun x hx => h x (List.mem_cons_of_mem _ hx)
    rw [show Ex.joinW [59, 32] ((d :: e :: l).map dtx) = dtx d ++ (59 :: ((if true then [32] else []) ++ Ex.joinW [59, 32] ((e :: l).map dtx))) from rfl, ← List.append_assoc]
    cases b
    · rw [show (if false = true then [32] else ([] : List UInt8)) ++ dtx d = dtx d from rfl, pcs_part hd.c1, decs_cons, if_pos hd.i1, hd.d1, ih]; rfl
    · rw [show (if true = true then [32] else ([] : List UInt8)) ++ dtx d = 32 :: dtx d from rfl, pcs_part hd.c2, decs_cons, if_pos hd.i2, hd.d2, ih]; rfl
theorem parse_joined (ds : List (List UInt8 × List UInt8)) (h : ∀ d ∈ ds, Dd d) : parse (Ex.joinW [59, 32] (ds.map dtx)) = ds := by
  unfold parse
  rw [bare_id (join_no ds h), pieces_pcs]
  exact join_pcs0 ds false h
theorem lens : (∀ g ∈ gap1, g.length ≤ 8) ∧ (∀ g ∈ gap2, g.length ≤ 8) ∧ (∀ n ∈ dnames, n.length ≤ 8) ∧ (∀ v ∈ dvals, v.length ≤ 8) := by decide +kernel
end Sty
end Go.Vl
end

section
set_option linter.unusedVariables false
set_option linter.unusedSimpArgs false
namespace Go.Vl
open Go.RowKit (Below)
mutual
/-- the cells of a datum without pointers -/
def dcells : DataW Unit → List Value
  | .lit (.int k z) => [.int k z]
  | .agg ps => dcellsL ps
  | _ => []
def dcellsL : List (DataW Unit) → List Value
  | [] => []
  | d :: l => dcells d ++ dcellsL l
end
theorem int_block {P : Program} {W : World} {g : Nat} {zero : Array Value} {T : TypeId} {m : Int} (hsh : W.ShapedOpen P) (hg : g < P.globals.size) (hz : (((begin P (fun _ _ => 0) default).world.heap[g]?).bind Obj.row?) = some (zero, T)) (h1 : zero.size = 1)
    (hm : W.cell? ⟨g, 0, none⟩ = some (.int .i64 m)) : W.heap[g]? = some (.cells #[.int .i64 m] T (0, 0)) := by
  obtain ⟨cs, hc, hsz, _⟩ := hsh.1 g zero T hg hz
  rw [cell_of hc] at hm
  rw [hc]
  congr 2
  refine Array.ext_getElem? fun j => ?_
  rcases Nat.eq_zero_or_pos j with rfl | hj
  · rw [hm]; rfl
  · rw [Array.getElem?_eq_none (by omega), Array.getElem?_eq_none (by simp; omega)]
theorem law_callsI {P : Program} {f : FuncId} {avs : List AV} {W : World} {vs : List Value} {g : Nat} {T : TypeId} {m : Int} (hg : W.heap[g]? = some (.cells #[.int .i64 m] T (0, 0)))
    (h : FnC P f avs [.shr g T [.int m]] (fun r M => r = .lit (.bool true) ∧ M = [.shr g T [.int m]])) (ha : RepT W [] avs vs) :
    Calls P f vs.toArray W fun e W' => e = .returned (.bool true) ∧ Below W.heap.size W W' := by
  have hm : MOk W [.shr g T [.int m]] [] := ⟨by simp [bl, ME.blks], by simp, fun x hx => by
    rw [List.mem_singleton.1 hx]
    refine ⟨by simp [bl, ME.blks], _, hg, ?_⟩
    simp only [RepL]
    exact ⟨_, _, rfl, ⟨rfl, rfl, by simp only [RepC]; rfl⟩, rfl⟩⟩
  refine (h.2 W [] vs (by simp) hm (by simpa [bl, ME.blks] using ha)).mono ?_
  rintro e W' ⟨v, r, M', rfl, ⟨rfl, rfl⟩, hm', hr, hf⟩
  have hv := Rep.lit_iff.1 hr
  subst hv
  exact ⟨rfl, hf.os, hf.tape, hf.output, hf.size, fun k hk => (hf.block k hk (by simp [bl, ME.blks])).1⟩
end Go.Vl
end
