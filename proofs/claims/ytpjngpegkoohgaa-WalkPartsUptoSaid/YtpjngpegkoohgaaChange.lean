/-
  Trees that are changed, without a program.
-/
import Derived.Test.YtpjngpegkoohgaaDrawn
set_option linter.unusedVariables false
set_option linter.unusedSimpArgs false
namespace Go.Vl
/-- a change -/
structure Ch where
  kind : Int
  path : List Int
  node : Nd
abbrev cav (c : Ch) : AV := .agg [.int c.kind, .sl 1 (c.path.map AV.int), .str c.node.name, .sl 2 (c.node.attrs.map dav), .str c.node.text, .sl 4 (c.node.parts.map Nd.av)]
abbrev Ch.dfl : Ch := ⟨0, [], Nd.dflt⟩
theorem okc_cavs (l : List Ch) : ∀ e ∈ l.map cav, e.okc = true := by
  intro e he
  obtain ⟨d, _, rfl⟩ := List.mem_map.1 he
  rfl
namespace Nd
abbrev withP (d : Nd) (q : List Nd) : Nd := mk d.name d.attrs d.text q
/-- x instead of what is at a path -/
def setP : List Nd → List Int → Nd → List Nd
  | l, [], _ => l
  | l, i :: p, x => l.set i.toNat (if p = [] then x else withP (l.getD i.toNat dflt) (setP (l.getD i.toNat dflt).parts p x))
/-- x behind all that is at a path -/
def putP : List Nd → List Int → Nd → List Nd
  | l, [], _ => l
  | l, i :: p, x => if p = [] then l ++ [x] else l.set i.toNat (withP (l.getD i.toNat dflt) (putP (l.getD i.toNat dflt).parts p x))
theorem set_getD_eq (l : List Nd) (i : Nat) (d : Nd) (h : i < l.length) : (l.set i d).getD i dflt = d := by
  rw [List.getD_eq_getElem?_getD, List.getElem?_set_self h]; rfl
theorem set_getD_ne (l : List Nd) (i j : Nat) (d : Nd) (h : i ≠ j) : (l.set i d).getD j dflt = l.getD j dflt := by
  rw [List.getD_eq_getElem?_getD, List.getD_eq_getElem?_getD, List.getElem?_set_ne h]
theorem setP_at : ∀ (p : List Int) (l : List Nd) (d x : Nd), atP l p d → atP (setP l p x) p x
  | [], _, _, _, h => h.elim
  | k :: p, l, d, x, h => by
    obtain ⟨i, rfl, hi, hx⟩ := h
    refine ⟨i, rfl, ?_, ?_⟩
    · rw [setP, List.length_set]; exact hi
    · rw [setP, Int.toNat_natCast, set_getD_eq _ _ _ hi]
      rcases hx with ⟨rfl, _⟩ | ⟨hp, hx⟩
      · exact .inl ⟨rfl, if_pos rfl⟩
      · refine .inr ⟨hp, ?_⟩
        rw [if_neg hp]
        exact setP_at p _ d x hx
/-- what stands elsewhere stays -/
theorem setP_other : ∀ (p q : List Int) (l : List Nd) (d a x : Nd), atP l p d → atP l q a → (∀ r, q ≠ p ++ r) → ∃ b, atP (setP l p x) q b ∧ b.name = a.name ∧ ((∀ r, p ≠ q ++ r) → b = a)
  | [], _, _, _, _, _, h, _, _ => h.elim
  | _ :: _, [], _, _, _, _, _, h, _ => h.elim
  | k :: p, m :: q, l, d, a, x, hp, hq, hne => by
    obtain ⟨i, rfl, hi, hx⟩ := hp
    obtain ⟨j, rfl, hj, hy⟩ := hq
    by_cases hij : i = j
    · subst hij
      rcases hx with ⟨rfl, _⟩ | ⟨hp0, hx⟩
      · exact absurd rfl (hne q)
      · have hne' : ∀ r, q ≠ p ++ r := fun r h => hne r (by rw [h]; rfl)
        rcases hy with ⟨rfl, rfl⟩ | ⟨hq0, hy⟩
        · refine ⟨withP (l.getD i dflt) (setP (l.getD i dflt).parts p x), ⟨i, rfl, by rw [setP, List.length_set]; exact hi, .inl ⟨rfl, ?_⟩⟩, rfl, fun h => absurd rfl (h p)⟩
          rw [setP, Int.toNat_natCast, set_getD_eq _ _ _ hi, if_neg hp0]
        · obtain ⟨b, h1, h2, h3⟩ := setP_other p q _ d a x hx hy hne'
          refine ⟨b, ⟨i, rfl, by rw [setP, List.length_set]; exact hi, .inr ⟨hq0, ?_⟩⟩, h2, fun h => h3 (fun r hr => h r (by rw [hr]; rfl))⟩
          rw [setP, Int.toNat_natCast, set_getD_eq _ _ _ hi, if_neg hp0]
          exact h1
    · refine ⟨a, ⟨j, rfl, by rw [setP, List.length_set]; exact hj, ?_⟩, rfl, fun _ => rfl⟩
      rw [setP, Int.toNat_natCast, set_getD_ne _ _ _ _ hij]
      exact hy
theorem setP_szs : ∀ (p : List Int) (l : List Nd) (d x : Nd), atP l p d → szs (setP l p x) ≤ szs l + x.sz
  | [], _, _, _, h => h.elim
  | k :: p, l, d, x, h => by
    obtain ⟨i, rfl, hi, hx⟩ := h
    have key : ∀ (l : List Nd) (i : Nat) (e : Nd), i < l.length → szs (l.set i e) + (l.getD i dflt).sz = szs l + e.sz := by
      intro l
      induction l with
      | nil => intro i e h; simp at h
      | cons a l ih =>
        intro i e h
        cases i with
        | zero => simp [szs]; omega
        | succ i => have := ih i e (by simpa using h); simp only [List.set_cons_succ, szs, List.getD_cons_succ]; omega
    rw [setP, Int.toNat_natCast]
    have h1 := key l i (if p = [] then x else withP (l.getD i dflt) (setP (l.getD i dflt).parts p x)) hi
    rcases hx with ⟨rfl, _⟩ | ⟨hp, hx⟩
    · rw [if_pos rfl] at h1 ⊢; omega
    · rw [if_neg hp] at h1 ⊢
      have h2 := setP_szs p _ d x hx
      have h3 := sz_eq (l.getD i dflt)
      have h4 := sz_eq (withP (l.getD i dflt) (setP (l.getD i dflt).parts p x))
      simp only [attrs_mk, parts_mk] at h4
      omega
/-- a path behind all of a tree's: where putP puts -/
def endP : List Nd → List Int → Prop
  | _, [] => False
  | l, k :: p => ∃ i : Nat, k = (i : Int) ∧ ((p = [] ∧ i = l.length) ∨ (p ≠ [] ∧ i < l.length ∧ (l.getD i dflt).name ≠ [] ∧ endP (l.getD i dflt).parts p))
theorem putP_szs : ∀ (p : List Int) (l : List Nd) (x : Nd), endP l p → szs (putP l p x) ≤ szs l + x.sz
  | [], _, _, h => h.elim
  | k :: p, l, x, h => by
    obtain ⟨i, rfl, hx⟩ := h
    have key : ∀ (l : List Nd) (i : Nat) (e : Nd), i < l.length → szs (l.set i e) + (l.getD i dflt).sz = szs l + e.sz := by
      intro l
      induction l with
      | nil => intro i e h; simp at h
      | cons a l ih =>
        intro i e h
        cases i with
        | zero => simp [szs]; omega
        | succ i => have := ih i e (by simpa using h); simp only [List.set_cons_succ, szs, List.getD_cons_succ]; omega
    rw [putP, Int.toNat_natCast]
    rcases hx with ⟨rfl, _⟩ | ⟨hp, hi, _, hx⟩
    · rw [if_pos rfl, szs_append, szs_one]; exact Nat.le_refl _
    · rw [if_neg hp]
      have h1 := key l i (withP (l.getD i dflt) (putP (l.getD i dflt).parts p x)) hi
      have h2 := putP_szs p _ x hx
      have h3 := sz_eq (l.getD i dflt)
      have h4 := sz_eq (withP (l.getD i dflt) (putP (l.getD i dflt).parts p x))
      simp only [attrs_mk, parts_mk] at h4
      omega
end Nd
section app0
open Go Go.Sem
variable {x : Cx} {L : List En} {M : List ME} {ty : TypeId} {pos : String} {aft : Array Edge}
/-- append onto nil: a row of its own that nothing writes -/
theorem Sv.app0 {d : Tmp} {T T' E k bytes : Nat} {z : Value} {o1 o2 : Operand} {xs : List AV} (h1 : Ov true L o1 (.lit (.slice none 0 0))) (h2 : SrcOv x L M o2 k xs) (hT : x.P.underlying T = some (.slice E)) (hT' : NotInt x.P T') (hE : Ty x.P E k bytes z) (hzk : z.cells.size = k)
    (hb1 : Nat.ble 1 bytes = true) (hb : xs.length * bytes ≤ 140737488355328) : Sv x L M ⟨some d, .call ⟨.builtin .append, #[o1, o2], #[T, T']⟩, ty, pos, aft, none⟩ (.sl k xs) := by
  intro a w hs K Q hK
  have hsrc := h2.src hs
  have e1 : a.eval o1 = .slice none 0 0 := h1.lit rfl hs
  have hb1' := Nat.le_of_ble_eq_true hb1
  have h63 : xs.length ≤ maxLen := by
    have : xs.length ≤ xs.length * bytes := Nat.le_mul_of_pos_right _ hb1'
    simp only [maxLen]; omega
  unfold Oper.wp
  by_cases hx : xs = []
  · subst hx
    obtain ⟨hlen, news, hn1, _, _, hn4⟩ := hsrc
    have hf := hn4 w rfl
    obtain ⟨ii, hi1, hi2, hi3, hi4⟩ := hE
    have hlen' : (Builtin.lenOf (a.eval o2)).run x.P w = .ok 0 w := hlen
    have hf' : (Builtin.firstCells k 0 (a.eval o2)).run x.P w = .ok news w := hf
    have hr : (execOp a.eval ⟨some d, .call ⟨.builtin .append, #[o1, o2], #[T, T']⟩, ty, pos, aft, none⟩).run x.P w = .ok (.value (.slice none 0 0)) w := by
      rcases hT' with ⟨e', hd'⟩ | hd' <;>
        simp [execOp, resolve, invoke, builtin, e1, Builtin.append_, run_underlying hT, run_underlying hd', sizeOf, typeInfo, hi1, hi2, hlen', hf']
    rw [hr]
    exact hK _ _ (fun b c T fr hb hc => ⟨hb, hc⟩) hs.mem hs.fr (Rep.slI (es := []) (Nat.le_refl _) (by simp [maxLen]) (.inl rfl))
  · have hpos : 0 < xs.length := List.length_pos_iff.2 hx
    have hold : Src0 x.P w (bl M ++ x.F) k (.slice none 0 0) [] := src0_cells rfl (.inl rfl)
    obtain ⟨cells, hsz, hrE, hrun⟩ := run_append_new (ty := ty) hT hT' hE hzk hold hsrc.to0 rfl (by omega) (by simpa using hb) hb1'
    simp only [Nat.zero_add, List.nil_append] at hrun hrE hsz
    obtain ⟨hg1, hg2⟩ := cap_cut w xs.length 0 E h63
    have hd1 : St x L M a w.drew := hs.same rfl rfl rfl rfl
    obtain ⟨hs', hk, hnew⟩ := hd1.allocI (.cells cells E)
    have hk0 : Keep w (bl M ++ x.F) (w.drew.alloc (.cells cells E)) (bl M ++ x.F) := hk
    have hr : (execOp a.eval ⟨some d, .call ⟨.builtin .append, #[o1, o2], #[T, T']⟩, ty, pos, aft, none⟩).run x.P w = .ok (.value (.slice (some ⟨w.heap.size, 0, none⟩) xs.length (grownCap w xs.length 0 E))) (w.drew.alloc (.cells cells E)) := by
      simp only [execOp, resolve, invoke, builtin, Sem.run_bind, Sem.run_pure, Result.andThen_ok, List.map_toArray, List.map_cons, List.map_nil, e1, hrun]
    rw [hr]
    refine hK _ _ hk0 hs'.mem hs'.fr ?_
    exact Rep.slI hg1 hg2 (.inr ⟨w.heap.size, 0, cells, E, (0, 0), rfl, hnew, alloc_new w.drew _, RepE.keep hk0 _ _ _ (by simpa using hrE)⟩)
theorem DP.app0 {ops : Array Oper} {R : Act → World → Prop} {rest : List Oper} {done : List En} {d : Tmp} {T T' E k bytes : Nat} {z : Value} {o1 o2 : Operand} {xs : List AV} (h1 : Ov true (sel (Oper.looksAt ops ⟨some d, .call ⟨.builtin .append, #[o1, o2], #[T, T']⟩, ty, pos, aft, none⟩) (done ++ L)) o1 (.lit (.slice none 0 0)))
    (h2 : SrcOv x (sel (Oper.looksAt ops ⟨some d, .call ⟨.builtin .append, #[o1, o2], #[T, T']⟩, ty, pos, aft, none⟩) (done ++ L)) M o2 k xs) (hT : x.P.underlying T = some (.slice E)) (hT' : NotInt x.P T') (hE : Ty x.P E k bytes z) (hzk : z.cells.size = k)
    (hb1 : Nat.ble 1 bytes = true) (hb : xs.length * bytes ≤ 140737488355328) (hd : Nat.blt d x.n = true) (next : DP x M ops L R rest ((d, true, .sl k xs) :: done)) :
    DP x M ops L R (⟨some d, .call ⟨.builtin .append, #[o1, o2], #[T, T']⟩, ty, pos, aft, none⟩ :: rest) done := ⟨d, true, _, rfl, hd, .inl ⟨rfl, rfl⟩, fun _ => Sv.app0 h1 h2 hT hT' hE hzk hb1 hb, next⟩
theorem DE.app0 {ι : Type} {Mf : (Nat → Bool) → ι → List ME} {i0 i : Nat} {ops : Array Oper} {R : Act → World → Prop} {rest : List Oper} {done : ι → List En} {d : Tmp} {T T' E k bytes : Nat} {z : Value} {o1 o2 : Operand} {xs : List AV}
    (h1 : ∀ c, Ov true (sel (Oper.looksAt ops ⟨some d, .call ⟨.builtin .append, #[o1, o2], #[T, T']⟩, ty, pos, aft, none⟩) (done c ++ L)) o1 (.lit (.slice none 0 0)))
    (h2 : ∀ e c, SrcOv x (sel (Oper.looksAt ops ⟨some d, .call ⟨.builtin .append, #[o1, o2], #[T, T']⟩, ty, pos, aft, none⟩) (done c ++ L)) (Mf e c) o2 k xs) (hT : x.P.underlying T = some (.slice E)) (hT' : NotInt x.P T') (hE : Ty x.P E k bytes z) (hzk : z.cells.size = k)
    (hb1 : Nat.ble 1 bytes = true) (hb : xs.length * bytes ≤ 140737488355328) (hdn : Nat.blt d x.n = true)
    (hMf : ∀ e c, Mf (addE e i) c = Mf e c) (next : DE x ops L Mf i0 R (i + 1) rest (fun c => (d, true, .sl k xs) :: done c)) :
    DE x ops L Mf i0 R i (⟨some d, .call ⟨.builtin .append, #[o1, o2], #[T, T']⟩, ty, pos, aft, none⟩ :: rest) done :=
  DE.pure rfl hdn (fun _ => .inl ⟨rfl, rfl⟩) (fun e c _ _ => Sv.app0 (h1 c) (h2 e c) hT hT' hE hzk hb1 hb) hMf (.inr fun _ _ => rfl) next
end app0
end Go.Vl
