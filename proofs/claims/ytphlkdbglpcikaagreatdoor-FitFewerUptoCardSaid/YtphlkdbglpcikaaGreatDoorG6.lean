/-
  Merged: CallM Grd Base WFSmall Tr WFGoes WFFill.
-/
import Derived.Test.YtphlkdbglpcikaaGreatDoorG5
import Derived.Test.YtphlkdbglpcikaaGreatDoorRows
set_option linter.unusedVariables false
set_option linter.unusedSimpArgs false
set_option maxRecDepth 100000

section
namespace Go.Vl
section
variable {x : Cx} {L : List En} {M : List ME} {ty : TypeId} {pos : String} {aft : Array Edge}
theorem Sv.callm {f : FuncId} {d : Option Tmp} {os : List Operand} {ats : Array TypeId} {g : Option (Nat × Bool)} {avs : List AV} {r : AV} {Mc Mr : List ME} (hc : FnC x.P f avs Mc (fun r' M' => r' = r ∧ M' = Mc)) (hp : List.Perm M (Mc ++ Mr)) (ha : ArgsOv L os avs) : Sv x L M ⟨d, .call ⟨.value (.func f), os.toArray, ats⟩, ty, pos, aft, g⟩ r := by
 intro a w hs K Q hK
 obtain ⟨⟨fn, hfn, hnm, hbd⟩, hcall⟩ := hc
 have hr : (execOp a.eval ⟨d, .call ⟨.value (.func f), os.toArray, ats⟩, ty, pos, aft, g⟩).run x.P w = .ok (.enter f (os.map a.eval).toArray) w := by
  have hv : a.eval (.func f) = .func (.func f) #[] #[] := rfl
  simp only [execOp, resolve, hv, Deferred.ofValue, Sem.run_bind, Sem.run_pure, Result.andThen_ok, invoke, callFunc, run_program, hfn, hnm, hbd]
  simp
 unfold Oper.wp
 rw [hr]
 obtain ⟨hF, hm0, hk0⟩ := hs.ahead hp
 have hargs := ArgsOv.rep hs ha
 refine (hcall w (bl Mr ++ x.F) _ hF hm0 (RepT.keep hk0 _ _ hargs)).mono ?_
 rintro e w' ⟨v, r', M', rfl, ⟨rfl, rfl⟩, hm', hrep, hf⟩
 have hs' := (hs.back hp hm' hf).perm hp.symm
 have hmem := bl_sub_of_perm hp
 have hk : Keep w (bl M ++ x.F) w' (bl M ++ x.F) := by
  intro b c T fr hb hc
  have h1 := hf.block b (heap_lt hc) (fun h => hb (List.mem_append_left _ ((hmem b).2 (.inl h))))
  exact ⟨hb, by rw [h1.1]; exact hc⟩
 refine hK v w' hk hs'.mem hs'.fr (hrep.keep ?_)
 intro b c T fr hb hc
 refine ⟨fun h => hb ?_, hc⟩
 simp only [List.mem_append] at h ⊢
 rcases h with h | h
 ·rcases (hmem b).1 h with h | h
  ·exact .inl h
  ·exact .inr (.inl h)
 ·exact .inr (.inr h)
end
section
variable {x : Cx} {ops : Array Oper} {L : List En} {R : Act → World → Prop} {rest : List Oper} {ty : TypeId} {pos : String} {aft : Array Edge} {i i0 : Nat}
theorem DE.callm {ι : Type} {Mf : (Nat → Bool) → ι → List ME} {done : ι → List En} {f : FuncId} {d : Tmp} {os : List Operand} {ats : Array TypeId} {avs : ι → List AV} {r : ι → AV} {Mc : List ME} (hc : ∀ c, FnC x.P f (avs c) Mc (fun r' M' => r' = r c ∧ M' = Mc)) (hp : ∀ e c, ∃ Mr, List.Perm (Mf e c) (Mc ++ Mr))
 (ha : ∀ c, ArgsOv (sel (Oper.looksAt ops ⟨some d, .call ⟨.value (.func f), os.toArray, ats⟩, ty, pos, aft, none⟩) (done c ++ L)) os (avs c)) (hdn : Nat.blt d x.n = true)
 (hMf : ∀ e c, Mf (addE e i) c = Mf e c) (hi : anc ops i0 i = true ∨ ∀ c c', r c = r c') (next : DE x ops L Mf i0 R (i + 1) rest (fun c => (d, true, r c) :: done c)) :
 DE x ops L Mf i0 R i (⟨some d, .call ⟨.value (.func f), os.toArray, ats⟩, ty, pos, aft, none⟩ :: rest) done := DE.pure rfl hdn (fun _ => .inl ⟨rfl, rfl⟩) (fun e c _ _ => by obtain ⟨Mr, h⟩ := hp e c; exact Sv.callm (hc c) h (ha c)) hMf hi next
theorem DM.callm {Mf : (Nat → Bool) → Ks → List ME} {done : Ks → List En} {f : FuncId} {d : Tmp} {os : List Operand} {ats : Array TypeId} {avs : Ks → List AV} {r : Ks → AV} {Mc : List ME} (hc : ∀ c, FnC x.P f (avs c) Mc (fun r' M' => r' = r c ∧ M' = Mc)) (hp : ∀ e c, ∃ Mr, List.Perm (Mf e c) (Mc ++ Mr))
 (ha : ∀ c, ArgsOv (sel (Oper.looksAt ops ⟨some d, .call ⟨.value (.func f), os.toArray, ats⟩, ty, pos, aft, none⟩) (done c ++ L)) os (avs c)) (hdn : Nat.blt d x.n = true)
 (hMf : ∀ e c, Mf (addE e i) c = Mf e c) (hi : ∀ c c' : Ks, (∀ k, (k = i ∨ anc ops k i = true) → c k = c' k) → r c = r c') (next : DM x ops L Mf R (i + 1) rest (fun c => (d, true, r c) :: done c)) :
 DM x ops L Mf R i (⟨some d, .call ⟨.value (.func f), os.toArray, ats⟩, ty, pos, aft, none⟩ :: rest) done := DM.pure rfl hdn (fun _ => .inl ⟨rfl, rfl⟩) (fun e c _ _ => by obtain ⟨Mr, h⟩ := hp e c; exact Sv.callm (hc c) h (ha c)) hMf hi next
end
theorem W.ofSv {x : Cx} {L : List En} {M : List ME} {ops : Array Oper} {Q : Exit → Act → World → Prop} {rest : List Oper} {d : Tmp} {op : Op} {ty : TypeId} {pos : String} {aft : Array Edge} {av : AV} (h : Sv x L M ⟨some d, op, ty, pos, aft, none⟩ av) (hd : Nat.blt d x.n = true)
 (next : W x ((d, true, av) :: L) M (wpList x.P ops Q rest)) : W x L M (wpList x.P ops Q (⟨some d, op, ty, pos, aft, none⟩ :: rest)) := by
 intro a w hs
 refine wpList_cons_want (by simp [Region.wanted]) ?_
 refine h a w hs _ _ fun v w' hk hm hf hr => ?_
 exact next _ _ ((hs.world hk hm hf).put hd true av v (fun _ => hr) (by simp))
theorem W.app0 {x : Cx} {L : List En} {M : List ME} {ops : Array Oper} {Q : Exit → Act → World → Prop} {rest : List Oper} {d : Tmp} {T T' E k bytes : Nat} {z : Value} {o1 o2 : Operand} {xs : List AV} {ty : TypeId} {pos : String} {aft : Array Edge} (h1 : Ov true L o1 (.lit (.slice none 0 0))) (h2 : SrcOv x L M o2 k xs) (hT : x.P.underlying T = some (.slice E)) (hT' : NotInt x.P T') (hE : Ty x.P E k bytes z) (hzk : z.cells.size = k)
 (hb1 : Nat.ble 1 bytes = true) (hb : xs.length * bytes ≤ 140737488355328) (hd : Nat.blt d x.n = true) (next : W x ((d, true, .sl k xs) :: L) M (wpList x.P ops Q rest)) :
 W x L M (wpList x.P ops Q (⟨some d, .call ⟨.builtin .append, #[o1, o2], #[T, T']⟩, ty, pos, aft, none⟩ :: rest)) := W.ofSv (Sv.app0 h1 h2 hT hT' hE hzk hb1 hb) hd next
end Go.Vl
end
section
namespace Go.Vl
section
variable {x : Cx} {ops : Array Oper} {L : List En} {M : List ME} {R : Act → World → Prop} {rest : List Oper} {ty : TypeId} {pos : String} {aft : Array Edge} {i i0 : Nat}
theorem stepE_w {d : Option Tmp} {op : Op} {g : Option (Nat × Bool)} {a : Act} {w : World} {K : Act → World → Prop} (hw : Region.wanted ⟨d, op, ty, pos, aft, g⟩ (yielded ops a.tmps) = true) (h : wpList x.P ops (fun e a w => e = .normal ∧ K a w) [⟨d, op, ty, pos, aft, none⟩] a w) : stepE x ops ⟨d, op, ty, pos, aft, g⟩ a w K := by
 have h2 := stepE_of (o := ⟨d, op, ty, pos, aft, none⟩) rfl h
 intro Q
 have h3 := h2 Q
 rw [if_pos (by rfl)] at h3
 rw [if_pos hw]
 exact h3
theorem DE.effcg {ι : Type} {Mf : (Nat → Bool) → ι → List ME} {done : ι → List En} {op : Op} {d : Tmp} {av : ι → AV} {j : Nat} {t : Tmp} {want : Bool} (hj : (ops[j]?).bind (·.dst) = some t)
 (hl : ∀ c, Vl.look (sel (Oper.looksAt ops ⟨some d, op, ty, pos, aft, some (j, want)⟩) (done c ++ L)) t = some (true, .lit (.bool want))) (hdn : Nat.blt d x.n = true) (hi : anc ops i0 i = true ∨ ∀ c c', av c = av c')
 (hW : ∀ e c, OkE ops e i → ∀ L', (∀ t p, Vl.look (sel (Oper.looksAt ops ⟨some d, op, ty, pos, aft, some (j, want)⟩) (done c ++ L)) t = some p → Vl.look L' t = some p) → ∀ Q : Exit → Act → World → Prop,
  W x ((d, true, av c) :: L') (Mf (addE e i) c) (wpList x.P ops Q []) → W x L' (Mf e c) (wpList x.P ops Q [⟨some d, op, ty, pos, aft, none⟩]))
 (next : DE x ops L Mf i0 R (i + 1) rest (fun c => (d, true, av c) :: done c)) : DE x ops L Mf i0 R i (⟨some d, op, ty, pos, aft, some (j, want)⟩ :: rest) done := by
 refine ⟨fun c => (d, true, av c), fun c => ⟨rfl, hdn⟩, .inr (hi.imp id fun h c c' => congrArg (fun a => (d, true, a)) (h c c')), ?_, next⟩
 intro e c hk L' a w hsub hs
 have hw := guard_of (d := some d) (op := op) (ty := ty) (pos := pos) (aft := aft) (want := want) hj (hsub _ _ (hl c)) hs
 refine stepE_w (by rw [hw]; cases want <;> rfl) ?_
 refine hW e c hk L' hsub _ ?_ a w hs
 exact fun a' w' hs' => ⟨rfl, c, .inr rfl, hs'⟩
theorem DE.skipg {ι : Type} {Mf : (Nat → Bool) → ι → List ME} {done : ι → List En} {op : Op} {d : Tmp} {j : Nat} {t : Tmp} {b want : Bool} (hj : (ops[j]?).bind (·.dst) = some t)
 (hl : ∀ c, Vl.look (sel (Oper.looksAt ops ⟨some d, op, ty, pos, aft, some (j, want)⟩) (done c ++ L)) t = some (true, .lit (.bool b))) (hb : (b == want) = false) (hdn : Nat.blt d x.n = true) (hMf : ∀ e c, Mf (addE e i) c = Mf e c)
 (next : DE x ops L Mf i0 R (i + 1) rest (fun c => (d, false, .lit undef) :: done c)) : DE x ops L Mf i0 R i (⟨some d, op, ty, pos, aft, some (j, want)⟩ :: rest) done :=
 DE.pure (av := fun _ => .lit undef) rfl hdn (fun c => .inr ⟨j, want, t, true, b, rfl, hj, hl c, by rw [hb]; rfl⟩) (fun e c _ hf => by cases hf) hMf (.inr fun _ _ => rfl) next
theorem DE.qy {ι : Type} {Mf : (Nat → Bool) → ι → List ME} {done : ι → List En} {d : Tmp} {op : Op} {av : ι → AV} {j : Nat} {t : Tmp} {want : Bool} (hj : (ops[j]?).bind (·.dst) = some t) (hl : ∀ c, Vl.look (sel (Oper.looksAt ops ⟨some d, op, ty, pos, aft, some (j, want)⟩) (done c ++ L)) t = some (true, .lit (.bool want)))
 (he : ∀ e c, OkE ops e i → Ev x true (sel (Oper.looksAt ops ⟨some d, op, ty, pos, aft, some (j, want)⟩) (done c ++ L)) (Mf e c) op ty (av c)) (hdn : Nat.blt d x.n = true)
 (hMf : ∀ e c, Mf (addE e i) c = Mf e c) (hi : anc ops i0 i = true ∨ ∀ c c', av c = av c') (next : DE x ops L Mf i0 R (i + 1) rest (fun c => (d, true, av c) :: done c)) :
 DE x ops L Mf i0 R i (⟨some d, op, ty, pos, aft, some (j, want)⟩ :: rest) done := DE.pure rfl hdn (fun c => .inr ⟨j, want, t, true, want, rfl, hj, hl c, by cases want <;> rfl⟩) (fun e c hk hb => Sv.ev (he e c hk)) hMf hi next
theorem DE.cally {ι : Type} {Mf : (Nat → Bool) → ι → List ME} {done : ι → List En} {f : FuncId} {d : Tmp} {os : List Operand} {ats : Array TypeId} {avs : ι → List AV} {r : ι → AV} {j : Nat} {t : Tmp} {want : Bool} (hj : (ops[j]?).bind (·.dst) = some t)
 (hl : ∀ c, Vl.look (sel (Oper.looksAt ops ⟨some d, .call ⟨.value (.func f), os.toArray, ats⟩, ty, pos, aft, some (j, want)⟩) (done c ++ L)) t = some (true, .lit (.bool want)))
 (hc : ∀ c, FnP x.P f (avs c) (r c)) (ha : ∀ c, ArgsOv (sel (Oper.looksAt ops ⟨some d, .call ⟨.value (.func f), os.toArray, ats⟩, ty, pos, aft, some (j, want)⟩) (done c ++ L)) os (avs c)) (hdn : Nat.blt d x.n = true)
 (hMf : ∀ e c, Mf (addE e i) c = Mf e c) (hi : anc ops i0 i = true ∨ ∀ c c', r c = r c') (next : DE x ops L Mf i0 R (i + 1) rest (fun c => (d, true, r c) :: done c)) :
 DE x ops L Mf i0 R i (⟨some d, .call ⟨.value (.func f), os.toArray, ats⟩, ty, pos, aft, some (j, want)⟩ :: rest) done :=
 DE.pure rfl hdn (fun c => .inr ⟨j, want, t, true, want, rfl, hj, hl c, by cases want <;> rfl⟩) (fun e c _ hb => Sv.callp (hc c) (ha c)) hMf hi next
theorem DE.callmy {ι : Type} {Mf : (Nat → Bool) → ι → List ME} {done : ι → List En} {f : FuncId} {d : Tmp} {os : List Operand} {ats : Array TypeId} {avs : ι → List AV} {r : ι → AV} {Mc : List ME} {j : Nat} {t : Tmp} {want : Bool} (hj : (ops[j]?).bind (·.dst) = some t)
 (hl : ∀ c, Vl.look (sel (Oper.looksAt ops ⟨some d, .call ⟨.value (.func f), os.toArray, ats⟩, ty, pos, aft, some (j, want)⟩) (done c ++ L)) t = some (true, .lit (.bool want)))
 (hc : ∀ c, FnC x.P f (avs c) Mc (fun r' M' => r' = r c ∧ M' = Mc)) (hp : ∀ e c, ∃ Mr, List.Perm (Mf e c) (Mc ++ Mr))
 (ha : ∀ c, ArgsOv (sel (Oper.looksAt ops ⟨some d, .call ⟨.value (.func f), os.toArray, ats⟩, ty, pos, aft, some (j, want)⟩) (done c ++ L)) os (avs c)) (hdn : Nat.blt d x.n = true)
 (hMf : ∀ e c, Mf (addE e i) c = Mf e c) (hi : anc ops i0 i = true ∨ ∀ c c', r c = r c') (next : DE x ops L Mf i0 R (i + 1) rest (fun c => (d, true, r c) :: done c)) :
 DE x ops L Mf i0 R i (⟨some d, .call ⟨.value (.func f), os.toArray, ats⟩, ty, pos, aft, some (j, want)⟩ :: rest) done :=
 DE.pure rfl hdn (fun c => .inr ⟨j, want, t, true, want, rfl, hj, hl c, by cases want <;> rfl⟩) (fun e c _ _ => by obtain ⟨Mr, h⟩ := hp e c; exact Sv.callm (hc c) h (ha c)) hMf hi next
end
section
variable {x : Cx} {L : List En} {M : List ME} {ty : TypeId} {g : Bool} {T T' : TypeId} {o1 o2 : Operand}
theorem Ev.as_ {op : Op} {av av' : AV} (h : Ev x g L M op ty av) (e : av = av') : Ev x g L M op ty av' := e ▸ h
theorem Ev.andF {c t : Operand} (h1 : Ov g L c (.lit (.bool false))) : Ev x g L M (.pick c t (.const (.bool false))) ty (.lit (.bool false)) := Ev.pure fun a w hs hg => by
 have e1 := h1.lit hg hs
 simp only [execOp, e1, asBool, Sem.run_bind, Sem.run_pure, Result.andThen_ok]
 rfl
theorem Ev.nilca {v : Value} {j : Nat} (h1 : Ov g L o1 (.aptr v j)) : Ev x g L M (.nilCheck o1) ty (.aptr v j) := fun ac w hs hg => by
 have hr := h1.rep hg hs
 obtain ⟨gb, off, n, cap, hv, ep⟩ := hr.aptr_inv
 exact ⟨.pointer (some ⟨gb, off + j, none⟩), by simp [execOp, ep], by rw [← ep]; exact hr⟩
theorem Ev.ldap (i q o : Nat) {v : Value} {U k j n bytes : Nat} {z : Value} {es : List AV} {e : AV} (h1 : Ov g L o1 (.aptr v j)) (hM : M[i]? = some (ME.arr v U k es)) (hq : es[q]? = some e) (hj : j = q * k + o) (ho : e.okc = true) (hke : e.cells.length = k) (hon : Nat.ble (o + n) k = true) (hT : IsAgg x.P T true) (hk : Ty x.P T n bytes z) : Ev x g L M (.load T o1) ty (.agg ((e.cells.drop o).take n)) := fun a w hs hg => by
 obtain ⟨gb, off, cap, cur, lo, hi, hv, hcur, hsz, _, hlc, _, hrE⟩ := arr_at hs hM hq
 obtain ⟨g2, off2, n2, cap2, hv2, ep⟩ := (h1.rep hg hs).aptr_inv
 rw [hv] at hv2
 cases hv2
 obtain ⟨h3, h4⟩ := hrE.get hq
 subst hj
 have hon' := Nat.le_of_ble_eq_true hon
 have hlt : q < es.length := by
  rcases Nat.lt_or_ge q es.length with h' | h'
  ·exact h'
  ·rw [List.getElem?_eq_none h'] at hq; cases hq
 have hle : (q + 1) * k ≤ cap * k := Nat.mul_le_mul_right _ (by omega)
 rw [Nat.add_mul, Nat.one_mul] at hle
 refine ⟨_, run_loadn hT hk hcur (by omega) ep, rfl, ?_⟩
 have h5 := ((RepC.cells ho h4).drop o).take n
 rw [List.drop_take, List.drop_drop, List.drop_drop, List.take_take, Nat.min_eq_left (by omega)] at h5
 simpa only [RepC, Value.cells] using h5
def Int2 (P : Program) (T : TypeId) : Prop := ∃ f1 f2 : Field, P.underlying T = some (.struct (P.fieldsOf T)) ∧ (P.fieldsOf T).toList = [f1, f2] ∧ P.stoodInHeld T = false ∧ P.eqGuardType P.depth T = false ∧
 f1.name ≠ "_" ∧ f2.name ≠ "_" ∧ f1.offset = 0 ∧ f2.offset = 1 ∧ P.underlying f1.type = some (.int .i64) ∧ P.underlying f2.type = some (.int .i64)
theorem Int2.of {P : Program} {T : TypeId} {f1 f2 : Field} (hU : P.underlying T = some (.struct #[f1, f2])) (hp : P.stoodInHeld T = false) (hm : P.eqGuardType P.depth T = false) (n1 : f1.name ≠ "_") (n2 : f2.name ≠ "_") (k1 : f1.offset = 0) (k2 : f2.offset = 1)
 (u1 : P.underlying f1.type = some (.int .i64)) (u2 : P.underlying f2.type = some (.int .i64)) : Int2 P T := by
 have h : P.fieldsOf T = #[f1, f2] := by rw [Program.fieldsOf, hU]
 exact ⟨f1, f2, by rw [h, hU], by rw [h], hp, hm, n1, n2, k1, k2, u1, u2⟩
theorem Rep.int2 {w : World} {N : List Nat} {a b : Int} {v : Value} (h : Rep w N (.agg [.int a, .int b]) v) : v = .agg #[.int .i64 a, .int .i64 b] := by
 obtain ⟨h1, h2⟩ := h
 cases v <;> simp [AV.sh, shV] at h1
 simp only [RepC, RepL] at h2
 rename_i cells
 obtain ⟨v1, vs1, e1, ⟨_, _, r1⟩, v2, vs2, e2, ⟨_, _, r2⟩, e3⟩ := h2
 subst e3
 subst e2
 obtain rfl := List.cons.inj r1 |>.1
 obtain rfl := List.cons.inj r2 |>.1
 congr 1
 exact Array.toList_inj.1 (by simpa [Value.cells] using e1)
theorem run_part_int {P : Program} {T : TypeId} {w : World} {cs : Array Value} {o : Nat} {v : Value} (hT : P.underlying T = some (.int .i64)) (hv : cs[o]? = some v) : (part T cs o).run P w = .ok v w := by
 have := IsAgg.run (P := P) (T := T) (b := false) ⟨_, hT, rfl⟩ w
 simp [part, this, hv]
theorem run_int2 {P : Program} {w : World} (n : Nat) {T : TypeId} {a b c d : Int} (hS : Int2 P T) : (Op.equalIn (n + 2) T (.agg #[.int .i64 a, .int .i64 b]) (.agg #[.int .i64 c, .int .i64 d])).run P w = .ok (a == c && b == d) w := by
 obtain ⟨f1, f2, hT, hf, hp, hm, n1, n2, k1, k2, u1, u2⟩ := hS
 rw [run_equalIn_agg w (n + 1) T _ _ hT hp, hf]
 have p1 : ∀ s t : Value, (part f1.type #[s, t] f1.offset).run P w = .ok s w := fun s t => run_part_int u1 (by rw [k1]; rfl)
 have p2 : ∀ s t : Value, (part f2.type #[s, t] f2.offset).run P w = .ok t w := fun s t => run_part_int u2 (by rw [k2]; rfl)
 simp only [Op.eqFields]
 rw [if_pos n1, if_pos n2]
 simp only [Sem.run_bind, p1, p2, Result.andThen_ok, run_equalIn_int w n _ _ _ _ _ u1]
 cases h : (a == c)
 ·simp [h]
 ·simp [h, p1, p2, run_equalIn_int w n _ _ _ _ _ u2]
  by_cases h' : b = d <;> simp [h']
theorem Ev.nei2 {a b c d : Int} (hS : Int2 x.P T) (h1 : Ov g L o1 (.agg [.int a, .int b])) (h2 : Ov g L o2 (.agg [.int c, .int d])) :
 Ev x g L M (.binOp .neq T o1 o2 T') ty (.lit (.bool (!(a == c && b == d)))) := Ev.pure fun ac w hs hg => by
 have e1 := (h1.rep hg hs).int2
 have e2 := (h2.rep hg hs).int2
 obtain ⟨f1, f2, hT, hf, hp, hm, n1, n2, k1, k2, u1, u2⟩ := hS
 simp only [execOp, e1, e2, Sem.run_bind, run_eqGuard_agg w .neq T o1 o2 _ _ hm, Result.andThen_ok, run_neq_struct, run_int2 9998 ⟨f1, f2, hT, hf, hp, hm, n1, n2, k1, k2, u1, u2⟩]
 simp
theorem Ev.eqi2 {a b c d : Int} (hS : Int2 x.P T) (h1 : Ov g L o1 (.agg [.int a, .int b])) (h2 : Ov g L o2 (.agg [.int c, .int d])) :
 Ev x g L M (.binOp .eql T o1 o2 T') ty (.lit (.bool (a == c && b == d))) := Ev.pure fun ac w hs hg => by
 have e1 := (h1.rep hg hs).int2
 have e2 := (h2.rep hg hs).int2
 obtain ⟨f1, f2, hT, hf, hp, hm, n1, n2, k1, k2, u1, u2⟩ := hS
 simp only [execOp, e1, e2, Sem.run_bind, run_eqGuard_agg w .eql T o1 o2 _ _ hm, Result.andThen_ok, run_eql_struct, run_int2 9998 ⟨f1, f2, hT, hf, hp, hm, n1, n2, k1, k2, u1, u2⟩]
 simp
end
end Go.Vl
end
section
namespace Go.Proofs.YtphlkdbglpcikaaGreatDoor.Y
open Go.Vl
theorem ty3 : Ty Tryz.prog 3 1 8 (.int .i64 0) := Ty.of (by kernel_rfl)
theorem ty4 : Ty Tryz.prog 4 1 1 (.bool false) := Ty.of (by kernel_rfl)
theorem ty22 : Ty Tryz.prog 22 1 24 (.slice none 0 0) := Ty.of (by kernel_rfl)
theorem ty81 : Ty Tryz.prog 81 2 16 (.agg #[.int .i64 0, .int .i64 0]) := Ty.of (by kernel_rfl)
theorem ty82 : Ty Tryz.prog 82 3 24 (.agg #[.int .i64 0, .int .i64 0, .bool false]) := Ty.of (by kernel_rfl)
theorem ty83 : Ty Tryz.prog 83 1 24 (.slice none 0 0) := Ty.of (by kernel_rfl)
theorem ty84 : Ty Tryz.prog 84 1 24 (.slice none 0 0) := Ty.of (by kernel_rfl)
theorem ty59 : Ty Tryz.prog 59 1 24 (.slice none 0 0) := Ty.of (by kernel_rfl)
theorem ty62 : Ty Tryz.prog 62 2 48 (.agg #[.slice none 0 0, .slice none 0 0]) := Ty.of (by kernel_rfl)
theorem ty71 : Ty Tryz.prog 71 1 8 (.pointer none) := Ty.of (by kernel_rfl)
theorem ty60 : Ty Tryz.prog 60 1 24 (.slice none 0 0) := Ty.of (by kernel_rfl)
theorem ty74 : Ty Tryz.prog 74 1 24 (.slice none 0 0) := Ty.of (by kernel_rfl)
theorem ty86 : Ty Tryz.prog 86 5 104 (.agg #[.pointer none, .slice none 0 0, .slice none 0 0, .slice none 0 0, .slice none 0 0]) := Ty.of (by kernel_rfl)
theorem ty9 : Ty Tryz.prog 9 1 16 (.string ⟨#[]⟩) := Ty.of (by kernel_rfl)
theorem ty23 : Ty Tryz.prog 23 1 24 (.slice none 0 0) := Ty.of (by kernel_rfl)
theorem ty28 : Ty Tryz.prog 28 3 56 (.agg #[.string ⟨#[]⟩, .string ⟨#[]⟩, .slice none 0 0]) := Ty.of (by kernel_rfl)
theorem ty174 : Ty Tryz.prog 174 1 8 (.pointer none) := Ty.of (by kernel_rfl)
theorem ty175 : Ty Tryz.prog 175 1 24 (.slice none 0 0) := Ty.of (by kernel_rfl)
theorem ty177 : Ty Tryz.prog 177 2 32 (.agg #[.pointer none, .slice none 0 0]) := Ty.of (by kernel_rfl)
theorem ty5 : Ty Tryz.prog 5 1 1 (.int .u8 0) := Ty.of (by kernel_rfl)
theorem ty54 : Ty Tryz.prog 54 1 24 (.slice none 0 0) := Ty.of (by kernel_rfl)
theorem ty56 : Ty Tryz.prog 56 3 40 (.agg #[.int .i64 0, .int .i64 0, .slice none 0 0]) := Ty.of (by kernel_rfl)
theorem ty136 : Ty Tryz.prog 136 3 56 (.agg #[.slice none 0 0, .slice none 0 0, .bool false]) := Ty.of (by kernel_rfl)
theorem ty97 : Ty Tryz.prog 97 1 24 (.slice none 0 0) := Ty.of (by kernel_rfl)
theorem ty99 : Ty Tryz.prog 99 2 48 (.agg #[.slice none 0 0, .slice none 0 0]) := Ty.of (by kernel_rfl)
theorem ty134 : Ty Tryz.prog 134 5 104 (.agg #[.slice none 0 0, .slice none 0 0, .slice none 0 0, .slice none 0 0, .bool false]) := Ty.of (by kernel_rfl)
theorem ty138 : Ty Tryz.prog 138 1 8 (.map none) := Ty.of (by kernel_rfl)
theorem ty147 : Ty Tryz.prog 147 8 64 (.agg #[.int .i64 0, .int .i64 0, .int .i64 0, .int .i64 0, .int .i64 0, .int .i64 0, .int .i64 0, .int .i64 0]) := Ty.of (by kernel_rfl)
theorem ty94 : Ty Tryz.prog 94 2 24 (.agg #[.string ⟨#[]⟩, .bool false]) := Ty.of (by kernel_rfl)
theorem ty26 : Ty Tryz.prog 26 1 24 (.slice none 0 0) := Ty.of (by kernel_rfl)
theorem ty76 : Ty Tryz.prog 76 3 72 (.agg #[.slice none 0 0, .slice none 0 0, .slice none 0 0]) := Ty.of (by kernel_rfl)
theorem ag3 : IsAgg Tryz.prog 3 false := ⟨_, Tryz.underlying3, rfl⟩
theorem ag4 : IsAgg Tryz.prog 4 false := ⟨_, Tryz.underlying4, rfl⟩
theorem ag22 : IsAgg Tryz.prog 22 false := ⟨_, Tryz.underlying22, rfl⟩
theorem ag81 : IsAgg Tryz.prog 81 true := ⟨_, Tryz.underlying81, rfl⟩
theorem ag83 : IsAgg Tryz.prog 83 false := ⟨_, Tryz.underlying83, rfl⟩
theorem ag84 : IsAgg Tryz.prog 84 false := ⟨_, Tryz.underlying84, rfl⟩
theorem ag59 : IsAgg Tryz.prog 59 false := ⟨_, Tryz.underlying59, rfl⟩
theorem ag62 : IsAgg Tryz.prog 62 true := ⟨_, Tryz.underlying62, rfl⟩
theorem ag71 : IsAgg Tryz.prog 71 false := ⟨_, Tryz.underlying71, rfl⟩
theorem ag60 : IsAgg Tryz.prog 60 false := ⟨_, Tryz.underlying60, rfl⟩
theorem ag74 : IsAgg Tryz.prog 74 false := ⟨_, Tryz.underlying74, rfl⟩
theorem ag82 : IsAgg Tryz.prog 82 true := ⟨_, Tryz.underlying82, rfl⟩
theorem ag9 : IsAgg Tryz.prog 9 false := ⟨_, Tryz.underlying9, rfl⟩
theorem ag23 : IsAgg Tryz.prog 23 false := ⟨_, Tryz.underlying23, rfl⟩
theorem ag28 : IsAgg Tryz.prog 28 true := ⟨_, Tryz.underlying28, rfl⟩
theorem ag174 : IsAgg Tryz.prog 174 false := ⟨_, Tryz.underlying174, rfl⟩
theorem ag175 : IsAgg Tryz.prog 175 false := ⟨_, Tryz.underlying175, rfl⟩
theorem ag138 : IsAgg Tryz.prog 138 false := ⟨_, Tryz.underlying138, rfl⟩
theorem ag54 : IsAgg Tryz.prog 54 false := ⟨_, Tryz.underlying54, rfl⟩
theorem ag56 : IsAgg Tryz.prog 56 true := ⟨_, Tryz.underlying56, rfl⟩
theorem ag136 : IsAgg Tryz.prog 136 true := ⟨_, Tryz.underlying136, rfl⟩
theorem ag97 : IsAgg Tryz.prog 97 false := ⟨_, Tryz.underlying97, rfl⟩
theorem ag99 : IsAgg Tryz.prog 99 true := ⟨_, Tryz.underlying99, rfl⟩
theorem ag147 : IsAgg Tryz.prog 147 true := ⟨_, Tryz.underlying147, rfl⟩
theorem ag26 : IsAgg Tryz.prog 26 false := ⟨_, Tryz.underlying26, rfl⟩
theorem fa76_2 : FieldAt Tryz.prog 76 2 2 1 false := ⟨_, _, Tryz.underlying76, rfl, rfl, ty22.size, ag22, by decide⟩
theorem fa81_0 : FieldAt Tryz.prog 81 0 0 1 false := ⟨_, _, Tryz.underlying81, rfl, rfl, ty3.size, ag3, by decide⟩
theorem fa81_1 : FieldAt Tryz.prog 81 1 1 1 false := ⟨_, _, Tryz.underlying81, rfl, rfl, ty3.size, ag3, by decide⟩
theorem fa82_0 : FieldAt Tryz.prog 82 0 0 2 true := ⟨_, _, Tryz.underlying82, rfl, rfl, ty81.size, ag81, by decide⟩
theorem fa82_1 : FieldAt Tryz.prog 82 1 2 1 false := ⟨_, _, Tryz.underlying82, rfl, rfl, ty4.size, ag4, by decide⟩
theorem fa86_3 : FieldAt Tryz.prog 86 3 4 1 false := ⟨_, _, Tryz.underlying86, rfl, rfl, ty84.size, ag84, by decide⟩
theorem fa62_0 : FieldAt Tryz.prog 62 0 0 1 false := ⟨_, _, Tryz.underlying62, rfl, rfl, ty59.size, ag59, by decide⟩
theorem fa86_0 : FieldAt Tryz.prog 86 0 0 1 false := ⟨_, _, Tryz.underlying86, rfl, rfl, ty71.size, ag71, by decide⟩
theorem fa86_1 : FieldAt Tryz.prog 86 1 1 2 true := ⟨_, _, Tryz.underlying86, rfl, rfl, ty62.size, ag62, by decide⟩
theorem fa62_1 : FieldAt Tryz.prog 62 1 1 1 false := ⟨_, _, Tryz.underlying62, rfl, rfl, ty60.size, ag60, by decide⟩
theorem fa76_1 : FieldAt Tryz.prog 76 1 1 1 false := ⟨_, _, Tryz.underlying76, rfl, rfl, ty74.size, ag74, by decide⟩
theorem fa28_0 : FieldAt Tryz.prog 28 0 0 1 false := ⟨_, _, Tryz.underlying28, rfl, rfl, ty9.size, ag9, by decide⟩
theorem fa76_0 : FieldAt Tryz.prog 76 0 0 1 false := ⟨_, _, Tryz.underlying76, rfl, rfl, ty23.size, ag23, by decide⟩
theorem fa177_0 : FieldAt Tryz.prog 177 0 0 1 false := ⟨_, _, Tryz.underlying177, rfl, rfl, ty174.size, ag174, by decide⟩
theorem fa177_1 : FieldAt Tryz.prog 177 1 1 1 false := ⟨_, _, Tryz.underlying177, rfl, rfl, ty175.size, ag175, by decide⟩
theorem fa99_1 : FieldAt Tryz.prog 99 1 1 1 false := ⟨_, _, Tryz.underlying99, rfl, rfl, ty60.size, ag60, by decide⟩
theorem fa134_1 : FieldAt Tryz.prog 134 1 1 1 false := ⟨_, _, Tryz.underlying134, rfl, rfl, ty59.size, ag59, by decide⟩
theorem fa56_0 : FieldAt Tryz.prog 56 0 0 1 false := ⟨_, _, Tryz.underlying56, rfl, rfl, ty3.size, ag3, by decide⟩
theorem fa56_1 : FieldAt Tryz.prog 56 1 1 1 false := ⟨_, _, Tryz.underlying56, rfl, rfl, ty3.size, ag3, by decide⟩
theorem fa56_2 : FieldAt Tryz.prog 56 2 2 1 false := ⟨_, _, Tryz.underlying56, rfl, rfl, ty54.size, ag54, by decide⟩
theorem fa134_0 : FieldAt Tryz.prog 134 0 0 1 false := ⟨_, _, Tryz.underlying134, rfl, rfl, ty22.size, ag22, by decide⟩
theorem fa136_0 : FieldAt Tryz.prog 136 0 0 1 false := ⟨_, _, Tryz.underlying136, rfl, rfl, ty22.size, ag22, by decide⟩
theorem fa136_1 : FieldAt Tryz.prog 136 1 1 1 false := ⟨_, _, Tryz.underlying136, rfl, rfl, ty22.size, ag22, by decide⟩
theorem fa136_2 : FieldAt Tryz.prog 136 2 2 1 false := ⟨_, _, Tryz.underlying136, rfl, rfl, ty4.size, ag4, by decide⟩
theorem fa99_0 : FieldAt Tryz.prog 99 0 0 1 false := ⟨_, _, Tryz.underlying99, rfl, rfl, ty97.size, ag97, by decide⟩
theorem fa94_0 : FieldAt Tryz.prog 94 0 0 1 false := ⟨_, _, Tryz.underlying94, rfl, rfl, ty9.size, ag9, by decide⟩
theorem fa94_1 : FieldAt Tryz.prog 94 1 1 1 false := ⟨_, _, Tryz.underlying94, rfl, rfl, ty4.size, ag4, by decide⟩
theorem fa28_1 : FieldAt Tryz.prog 28 1 1 1 false := ⟨_, _, Tryz.underlying28, rfl, rfl, ty9.size, ag9, by decide⟩
theorem fa28_2 : FieldAt Tryz.prog 28 2 2 1 false := ⟨_, _, Tryz.underlying28, rfl, rfl, ty26.size, ag26, by decide⟩
theorem st81 : StructAt Tryz.prog 81 [(0, 1), (1, 1)] := ⟨_, Tryz.underlying81, rfl, ty3.size, rfl, ty3.size, trivial⟩
theorem st86 : StructAt Tryz.prog 86 [(0, 1), (1, 2), (3, 1), (4, 1)] := ⟨_, Tryz.underlying86, rfl, ty71.size, rfl, ty62.size, rfl, ty22.size, rfl, ty84.size, trivial⟩
theorem st136 : StructAt Tryz.prog 136 [(0, 1), (1, 1), (2, 1)] := ⟨_, Tryz.underlying136, rfl, ty22.size, rfl, ty22.size, rfl, ty4.size, trivial⟩
theorem st134 : StructAt Tryz.prog 134 [(0, 1), (1, 1), (2, 1), (3, 1), (4, 1)] := ⟨_, Tryz.underlying134, rfl, ty22.size, rfl, ty59.size, rfl, ty22.size, rfl, ty60.size, rfl, ty4.size, trivial⟩
theorem st62 : StructAt Tryz.prog 62 [(0, 1), (1, 1)] := ⟨_, Tryz.underlying62, rfl, ty59.size, rfl, ty60.size, trivial⟩
theorem st56 : StructAt Tryz.prog 56 [(0, 1), (1, 1), (2, 1)] := ⟨_, Tryz.underlying56, rfl, ty3.size, rfl, ty3.size, rfl, ty54.size, trivial⟩
theorem st94 : StructAt Tryz.prog 94 [(0, 1), (1, 1)] := ⟨_, Tryz.underlying94, rfl, ty9.size, rfl, ty4.size, trivial⟩
theorem st76 : StructAt Tryz.prog 76 [(0, 1), (1, 1), (2, 1)] := ⟨_, Tryz.underlying76, rfl, ty23.size, rfl, ty74.size, rfl, ty22.size, trivial⟩
theorem st28 : StructAt Tryz.prog 28 [(0, 1), (1, 1), (2, 1)] := ⟨_, Tryz.underlying28, rfl, ty9.size, rfl, ty9.size, rfl, ty26.size, trivial⟩
theorem ni84 : NotInt Tryz.prog 84 := .inl ⟨_, Tryz.underlying84⟩
theorem ni22 : NotInt Tryz.prog 22 := .inl ⟨_, Tryz.underlying22⟩
theorem ni9 : NotInt Tryz.prog 9 := .inr Tryz.underlying9
theorem ni59 : NotInt Tryz.prog 59 := .inl ⟨_, Tryz.underlying59⟩
theorem ni60 : NotInt Tryz.prog 60 := .inl ⟨_, Tryz.underlying60⟩
theorem ni97 : NotInt Tryz.prog 97 := .inl ⟨_, Tryz.underlying97⟩
theorem ni54 : NotInt Tryz.prog 54 := .inl ⟨_, Tryz.underlying54⟩
theorem ni26 : NotInt Tryz.prog 26 := .inl ⟨_, Tryz.underlying26⟩
theorem ni74 : NotInt Tryz.prog 74 := .inl ⟨_, Tryz.underlying74⟩
theorem ni23 : NotInt Tryz.prog 23 := .inl ⟨_, Tryz.underlying23⟩
end Go.Proofs.YtphlkdbglpcikaaGreatDoor.Y
end
section
namespace Go.Proofs.YtphlkdbglpcikaaGreatDoor
open Go.Vl
open Y
namespace Base
theorem tmod_neg (a n : Int) (hn : 0 < n) (h : a.tmod n < 0) : a.tmod n + n = a % n := by
 have h1 := Int.tmod_eq_emod (a := a) (b := n)
 have h2 := Int.emod_nonneg a (by omega : n ≠ 0)
 have h3 := Int.emod_lt_of_pos a hn
 have h4 : (n.natAbs : Int) = n := by omega
 rw [h1] at h ⊢
 split at h <;> split <;> omega
theorem tmod_nonneg (a n : Int) (hn : 0 < n) (h : ¬ a.tmod n < 0) : a.tmod n = a % n := by
 have h1 := Int.tmod_eq_emod (a := a) (b := n)
 have h2 := Int.emod_nonneg a (by omega : n ≠ 0)
 have h3 := Int.emod_lt_of_pos a hn
 have h4 : (n.natAbs : Int) = n := by omega
 rw [h1] at h ⊢
 split at h <;> split <;> omega
theorem tmod_gt (a n : Int) (hn : 0 < n) : -n < a.tmod n ∧ a.tmod n < n := by
 have h1 := Int.tmod_eq_emod (a := a) (b := n)
 have h2 := Int.emod_nonneg a (by omega : n ≠ 0)
 have h3 := Int.emod_lt_of_pos a hn
 have h4 : (n.natAbs : Int) = n := by omega
 rw [h1]
 split <;> omega
theorem c_Picked (a n : Int) (hn : 0 < n) (hb : n ≤ 4611686018427387904) : FnP Tryz.prog 13 [.int a, .int n] (.int (a % n)) :=  by
 refine FnC.mk Tryz.func13 (by kernel_rfl) rfl Tryz.ntmps13 rfl (fun w0 F => ?_)
 have htm := tmod_gt a n hn
 refine W.s (.r (.q (.assign .k) rfl (.n (.h (.s (.r (.mv rfl rfl (.mv rfl rfl ?_))))))))
 first | refine W.q (.rem (.t rfl) (.t rfl) (fun _ => by decide)) rfl ?_ | refine W.q (.rem (.t rfl) (.t rfl) (fun _ => by omega)) rfl ?_
 refine W.q (.assign (.t rfl)) rfl ?_; refine W.n ?_; refine W.h ?_; refine W.s ?_; refine W.s ?_; refine W.r ?_; refine W.q (.move (.t rfl)) rfl ?_; refine W.q (.lti (.t rfl) .k) rfl ?_; refine W.n ?_; refine W.h ?_; refine W.cond (.t rfl) (fun hc_t9 => ?_) (fun hc_t9 => ?_)
 ·have h9 := of_decide_eq_true hc_t9
  refine W.s (.r (.mv rfl rfl (.mv rfl rfl ?_)))
  first | refine W.q (.add (.t rfl) (.t rfl) (fun _ => by omega)) rfl ?_ | refine W.q (.addw (.t rfl) (.t rfl)) rfl ?_
  refine W.asg rfl rfl (.n (.h ?_)); refine W.ret ?_; refine W.hr ?_; refine W.retn (M' := []) (rs := [.tmp 4]) (avs := [_]) Tryz.results13 ⟨rfl, trivial⟩ rfl (.refl _) ?_
  exact ⟨congrArg AV.int (by first | exact (tmod_neg a n hn h9).symm ▸ rfl | exact tmod_nonneg a n hn h9), rfl⟩
 ·have h9 := of_decide_eq_false hc_t9
  refine W.k (.h (.s (.r (.mv rfl rfl (.asg rfl rfl (.n (.h ?_))))))); refine W.ret ?_; refine W.retn (M' := []) (rs := [.tmp 4]) (avs := [_]) Tryz.results13 ⟨rfl, trivial⟩ rfl (.refl _) ?_
  exact ⟨congrArg AV.int (by first | exact (tmod_neg a n hn h9).symm ▸ rfl | exact tmod_nonneg a n hn h9), rfl⟩
end Base
end Go.Proofs.YtphlkdbglpcikaaGreatDoor
end
section
namespace Go.Proofs.YtphlkdbglpcikaaGreatDoor
open Go.Vl
open Y
namespace WFSmall
theorem c_less (a b c d : Int) : FnP Tryz.prog 93 [.agg [.int a, .int b], .agg [.int c, .int d]] (.bool (Fit.less a b c d)) :=  by
 refine FnC.mk Tryz.func93 (by kernel_rfl) rfl Tryz.ntmps93 rfl (fun w0 F => ?_)
 refine W.s ?_; refine W.r ?_; refine W.box (.t rfl) rfl rfl ?_; intro b2; refine W.box (.t rfl) rfl rfl ?_; intro b3; refine W.q (.assign .k) rfl ?_; refine W.n ?_; refine W.h ?_; refine W.s ?_; refine W.r ?_
 refine W.q (.fab (.t rfl) fa81_0) rfl (.q (.ldb1 1 (.t rfl) rfl ag3 rfl) rfl (.q (.fab (.t rfl) fa81_0) rfl (.q (.ldb1 0 (.t rfl) rfl ag3 rfl) rfl (.q (.lti (.t rfl) (.t rfl)) rfl (.mv rfl rfl (.qgF rfl rfl (.fab (.t rfl) fa81_0) rfl (.qgF rfl rfl (.ldb1 1 (.c rfl) rfl ag3 rfl) rfl (.qgF rfl rfl (.fab (.t rfl) fa81_0) rfl (.qgF rfl rfl (.ldb1 0 (.c rfl) rfl ag3 rfl) rfl (.qgF rfl rfl (.eqi (.c rfl) (.c rfl)) rfl (.qgF rfl rfl (.move (.c rfl)) rfl (.qgT' rfl rfl (.fab (.t rfl) fa81_1) rfl (.qgT' rfl rfl (.ldb1 1 (.c rfl) rfl ag3 rfl) rfl (.qgT' rfl rfl (.fab (.t rfl) fa81_1) rfl (.qgT' rfl rfl (.ldb1 0 (.c rfl) rfl ag3 rfl) rfl ?_)))))))))))))))
 refine W.qgT' rfl rfl (.lti (.c rfl) (.c rfl)) rfl ?_; refine W.qgF rfl rfl (.and (.c rfl) ⟨_, _, rfl, rfl, by ((simp <;> omega; done))⟩) rfl ?_; refine W.q (.or (.t rfl) ⟨_, _, rfl, rfl, by ((simp; done))⟩) rfl ?_; refine W.q (.assign (.t rfl)) rfl ?_; refine W.n ?_; refine W.h ?_; refine W.ret ?_; refine W.retn (M' := []) (D := _) (rs := [.tmp 4]) (avs := [_]) Tryz.results93 ⟨rfl, trivial⟩ rfl (.refl _) ?_
 exact ⟨rfl, rfl⟩
theorem c_plus (a b c d : Int) (h : (-1099511627776 ≤ a ∧ a ≤ 1099511627776) ∧ (-1099511627776 ≤ b ∧ b ≤ 1099511627776) ∧ (-1099511627776 ≤ c ∧ c ≤ 1099511627776) ∧ (-1099511627776 ≤ d ∧ d ≤ 1099511627776)) : FnP Tryz.prog 60 [.agg [.int a, .int b], .agg [.int c, .int d]] (.agg [.int (a + c), .int (b + d)]) :=  by
 refine FnC.mk Tryz.func60 (by kernel_rfl) rfl Tryz.ntmps60 rfl (fun w0 F => ?_)
 refine W.s ?_; refine W.r ?_; refine W.box (.t rfl) rfl rfl ?_; intro b2; refine W.box (.t rfl) rfl rfl ?_; intro b3; refine W.alloc ty81 rfl rfl ?_; intro b4; refine W.n ?_; refine W.h ?_; refine W.s ?_; refine W.r ?_
 refine W.q (.fab (.t rfl) fa81_0) rfl (.q (.ldb1 2 (.t rfl) rfl ag3 rfl) rfl (.q (.fab (.t rfl) fa81_0) rfl (.q (.ldb1 1 (.t rfl) rfl ag3 rfl) rfl (.q (.add (.t rfl) (.t rfl) (fun _ => by omega)) rfl (.q (.fab (.t rfl) fa81_1) rfl (.q (.ldb1 2 (.t rfl) rfl ag3 rfl) rfl (.q (.fab (.t rfl) fa81_1) rfl (.q (.ldb1 1 (.t rfl) rfl ag3 rfl) rfl (.q (.add (.t rfl) (.t rfl) (fun _ => by omega)) rfl (.q (.build ty81 st81 rfl (fun hg => ⟨_, _, _, rfl, (.t rfl), rfl, rfl, rfl, _, _, _, rfl, (.t rfl), rfl, rfl, rfl, rfl⟩)) rfl (.stb 0 (.t rfl) (.t rfl) rfl ty81 rfl rfl rfl (.n (.h ?_))))))))))))); refine W.ret ?_; refine W.retn (M' := []) (D := _) (rs := [.cell 4 81]) (avs := [_]) Tryz.results60 ⟨⟨_, _, _, rfl, by repeat ((exact List.mem_cons_self)), rfl, by funext w; exact ag81.run w, by funext w; exact ty81.size w⟩, trivial⟩ rfl (.refl _) ?_
 exact ⟨rfl, rfl⟩
theorem c_Size (b : Nat) (ts : List Tp) (as_ : List Au) (sz : List Int) (k : Nat) (hk : k < sz.length) : FnC Tryz.prog 94 [.lit (.pointer (some ⟨b, 0, none⟩)), .int (k : Int)] [.box b 76 [.sl 3 (ts.map tpv), .sl 2 (as_.map Au.avx), .sl 1 (sz.map AV.int)]] (fun r M => r = .int (sz.getD k 0) ∧ M = [.box b 76 [.sl 3 (ts.map tpv), .sl 2 (as_.map Au.avx), .sl 1 (sz.map AV.int)]]) :=  by
 refine FnC.mk Tryz.func94 (by kernel_rfl) rfl Tryz.ntmps94 rfl (fun w0 F => ?_)
 have hgs := getD_map sz k hk
 have hzl : (sz.map AV.int).length = sz.length := List.length_map ..
 refine W.s (.r (.q (.assign .k) rfl (.n (.h (.s (.r (.mv rfl rfl (.q (.nilc (.t rfl)) rfl (.q (.fab (.t rfl) fa76_2) rfl (.q (.ldb1 0 (.t rfl) rfl ag22 rfl) rfl (.mv rfl rfl ?_))))))))))); refine W.q (.at (E := 3) (.t rfl) (.t rfl) Tryz.underlying22 ty3 (fun _ => ⟨by omega, hgs⟩) rfl rfl) rfl ?_; refine W.q (.lde1 (.t rfl) ag3) rfl (.asg rfl rfl (.n (.h ?_))); refine W.ret ?_; refine W.retn (M' := [.box b 76 [.sl 3 (ts.map tpv), .sl 2 (as_.map Au.avx), .sl 1 (sz.map AV.int)]]) (D := []) (rs := [.tmp 4]) (avs := [_]) Tryz.results94 ⟨rfl, trivial⟩ rfl (.refl _) ?_
 exact ⟨rfl, rfl⟩
theorem c_better (p : Nat) (q0 q1 q2 q3 : AV) (a : Option Addr) (n c : Nat) (vr : Value) (es : List AV) (row : List Fit.Ct) (i k : Nat) (d f : Int) (hi : i < row.length) (hk : es[k]? = some (.lit (.slice a n c))) : FnC Tryz.prog 58 [.lit (.pointer (some ⟨p, 0, none⟩)), .int (i : Int), .int (k : Int), .agg [.int d, .int f]] [.arr (.slice a n c) 82 3 (row.map Fit.ctv), .arr vr 83 1 es, .box p 86 [q0, q1, q2, q3, .lit vr]] (fun r M => r = .bool (Fit.betB row i d f) ∧ M = [.arr (.slice a n c) 82 3 ((Fit.betR row i d f).map Fit.ctv), .arr vr 83 1 es, .box p 86 [q0, q1, q2, q3, .lit vr]]) :=  by
 refine FnC.mk Tryz.func58 (by kernel_rfl) rfl Tryz.ntmps58 rfl (fun w0 F => ?_)
 have hkl : k < es.length := by
  rcases Nat.lt_or_ge k es.length with h | h
  ·exact h
  ·rw [List.getElem?_eq_none h] at hk; cases hk
 have hgr := Fit.getD_ctv row i hi
 have hrl : (row.map Fit.ctv).length = row.length := List.length_map ..
 have hbb : Fit.betB row i d f = !((row.getD i Fit.cz).ok && !(Fit.less d f (row.getD i Fit.cz).d (row.getD i Fit.cz).f)) := rfl
 have hset := Fit.set_ctv row i hi
 have hbm := Fit.betR_map row i d f
 have hbn := Fit.betR_map_no row i d f
 obtain ⟨cc, hcc⟩ : ∃ c, row.getD i Fit.cz = c := ⟨_, rfl⟩
 rw [hcc] at hgr hbb
 refine W.s ?_; refine W.r ?_; refine W.box (.t rfl) rfl rfl ?_; intro b7; refine W.q (.assign .k) rfl ?_; refine W.n ?_; refine W.h ?_; refine W.s ?_; refine W.r ?_; refine W.q (.move (.t rfl)) rfl ?_; refine W.q (.nilc (.t rfl)) rfl ?_
 refine W.q (.fab (.t rfl) fa86_3) rfl (.q (.ldb1 3 (.t rfl) rfl ag84 rfl) rfl (.mv rfl rfl (.q (.ata 2 (.t rfl) rfl (.t rfl) Tryz.underlying84 ty83 (fun _ => by omega)) rfl (.q (.lda1 2 k 0 (.t rfl) rfl hk (by omega) rfl rfl rfl ag83) rfl (.mv rfl rfl (.q (.ata 1 (.t rfl) rfl (.t rfl) Tryz.underlying83 ty82 (fun _ => by omega)) rfl (.asg rfl rfl (.n (.h (.s (.s ?_))))))))))); refine W.drawnE (ι := Unit) (fun _ _ => _) 13 () (by kernel_rfl) (by kernel_rfl) rfl ?_; refine DE.q (fun e c hk => (.move (.t rfl))) rfl (fun _ _ => rfl) (.inr fun _ _ => rfl) (.q (fun e c hk => (.nilca (.t rfl))) rfl (fun _ _ => rfl) (.inr fun _ _ => rfl) (.q (fun e c hk => (.faa (.t rfl) fa82_1)) rfl (fun _ _ => rfl) (.inr fun _ _ => rfl) (.q (fun e c hk_ => Ev.lda1 1 i 2 (.t rfl) rfl hgr (by omega) rfl rfl rfl ag4) rfl (fun _ _ => rfl) (.inr fun _ _ => rfl) (.q (fun e c hk => (.move (.t rfl))) rfl (fun _ _ => rfl) (.inr fun _ _ => rfl) (.qg rfl (fun _ => rfl) (fun e c hk => (.ldbn 0 (.t rfl) rfl ag81 ty81 rfl)) rfl (fun _ _ => rfl) (.inr fun _ _ => rfl) (.qg rfl (fun _ => rfl) (fun e c hk => (.move (.t rfl))) rfl (fun _ _ => rfl) (.inr fun _ _ => rfl) (.qg rfl (fun _ => rfl) (fun e c hk => (.nilca (.c rfl))) rfl (fun _ _ => rfl) (.inr fun _ _ => rfl) (.qg rfl (fun _ => rfl) (fun e c hk => (.faa (.c rfl) fa82_0)) rfl (fun _ _ => rfl) (.inr fun _ _ => rfl) ?_))))))))
 refine DE.qg rfl (fun _ => rfl) (fun e c hk_ => Ev.ldap (n := 2) 1 i 0 (.c rfl) rfl hgr (by omega) rfl rfl rfl ag81 ty81) rfl (fun _ _ => rfl) (.inr fun _ _ => rfl) ?_; refine DE.callg rfl (fun _ => rfl) (fun c hg => c_less d f cc.d cc.f) (fun c hg => ⟨(.i rfl (fun _ => hg)), (.i rfl (fun _ => hg)), trivial⟩) rfl (fun _ _ => rfl) (.inr fun _ _ => rfl) ?_; refine DE.qg rfl (fun _ => rfl) (fun e c hk => (.not (.c rfl))) rfl (fun _ _ => rfl) (.inr fun _ _ => rfl) ?_; refine DE.q (fun e c hk => (.and (.t rfl) ⟨_, _, rfl, rfl, by ((simp; done))⟩)) rfl (fun _ _ => rfl) (.inr fun _ _ => rfl) ?_; refine DE.nil (fun c_ e_ he_ => ?_)
 dsimp only
 refine W.h ?_; refine W.cond (.t rfl) (fun hc_t31 => ?_) (fun hc_t31 => ?_)
 ·have h31 : Fit.betB row i d f = false := by rw [hbb]; exact congrArg (!·) hc_t31
  refine W.s ?_; refine W.r ?_; refine W.q (.assign .k) rfl ?_; refine W.n ?_; refine W.h ?_; refine W.ret ?_; refine W.hr ?_; refine W.retn (M' := [.arr (.slice a n c) 82 3 (row.map Fit.ctv), .arr vr 83 1 es, .box p 86 [q0, q1, q2, q3, .lit vr]]) (D := [_]) (rs := [.tmp 8]) (avs := [_]) Tryz.results58 ⟨rfl, trivial⟩ rfl ((List.perm_middle (l₁ := [_])).trans <| List.Perm.cons _ <| (List.perm_middle (l₁ := [_])).trans <| List.Perm.cons _ <| (List.perm_middle (l₁ := [_])).trans <| List.Perm.cons _ <| List.Perm.cons _ <| .refl _) ?_
  rw [h31]
  exact ⟨rfl, by rw [← hbn h31]⟩
 ·have h31 : Fit.betB row i d f = true := by rw [hbb]; exact congrArg (!·) hc_t31
  refine W.k (.h (.s (.r (.mv rfl rfl (.mv rfl rfl (.q (.ldbn 0 (.t rfl) rfl ag81 ty81 rfl) rfl (.q (.nilca (.t rfl)) rfl (.q (.faa (.t rfl) fa82_0) rfl ?_)))))))); refine W.sta 1 i 0 (e := Fit.ctv cc) (e' := Fit.ctv ⟨d, f, cc.ok⟩) (.t rfl) (.t rfl) rfl hgr (by omega) ty81 rfl rfl rfl rfl rfl rfl rfl ?_; refine W.q (.nilca (.t rfl)) rfl (.q (.faa (.t rfl) fa82_1) rfl ?_)
  refine W.sta 1 i 2 (e := Fit.ctv ⟨d, f, cc.ok⟩) (e' := Fit.ctv ⟨d, f, true⟩) (.t rfl) .k rfl (hset _) (by omega) ty4 rfl rfl rfl rfl rfl rfl rfl ?_; refine W.n ?_; refine W.h ?_; refine W.s ?_; refine W.r ?_; refine W.q (.assign .k) rfl ?_; refine W.n ?_; refine W.h ?_; refine W.ret ?_; refine W.retn (M' := [.arr (.slice a n c) 82 3 (((row.map Fit.ctv).set i (Fit.ctv ⟨d, f, cc.ok⟩)).set i (Fit.ctv ⟨d, f, true⟩)), .arr vr 83 1 es, .box p 86 [q0, q1, q2, q3, .lit vr]]) (D := [_]) (rs := [.tmp 8]) (avs := [_]) Tryz.results58 ⟨rfl, trivial⟩ rfl ((List.perm_middle (l₁ := [_])).trans <| List.Perm.cons _ <| (List.perm_middle (l₁ := [_])).trans <| List.Perm.cons _ <| (List.perm_middle (l₁ := [_])).trans <| List.Perm.cons _ <| List.Perm.cons _ <| .refl _) ?_
  rw [h31]
  exact ⟨rfl, by rw [← hbm ⟨d, f, cc.ok⟩ h31]⟩
end WFSmall
end Go.Proofs.YtphlkdbglpcikaaGreatDoor
end
section
namespace Go.Vl
namespace Fit
open Sch
def cel (rows : List (List Ct)) (k i : Nat) : Ct := (rows.getD k []).getD i cz
def goesB (rows : List (List Ct)) (i k : Nat) (d f : Int) (to : Int) (nk : Nat) : Bool :=
 if to < 0 ∨ (cel rows nk to.toNat).ok = false then false else (cel rows nk to.toNat).d + d == (cel rows k i).d && (cel rows nk to.toNat).f + f == (cel rows k i).f
theorem goesB_iff {rows : List (List Ct)} {i k : Nat} {d f : Int} {to : Int} {nk : Nat} : goesB rows i k d f to nk = true ↔ 0 ≤ to ∧ (cel rows nk to.toNat).ok = true ∧ (cel rows nk to.toNat).d + d = (cel rows k i).d ∧ (cel rows nk to.toNat).f + f = (cel rows k i).f := by
 unfold goesB
 split
 ·rename_i h
  constructor
  ·intro h2; cases h2
  ·rintro ⟨h1, h2, _⟩
   rcases h with h | h
   ·omega
   ·rw [h] at h2; cases h2
 ·rename_i h
  rw [Bool.and_eq_true, beq_iff_eq, beq_iff_eq]
  constructor
  ·intro h2; exact ⟨by omega, by cases h3 : (cel rows nk to.toNat).ok; exact absurd (.inr h3) h; rfl, h2.1, h2.2⟩
  ·intro h2; exact ⟨h2.2.2.1, h2.2.2.2⟩
def fillP (A : Au) (sz : List Int) (rows : List (List Ct)) (i k n : Nat) : Bool := decide (0 ≤ tr A i n) && goesB rows i k 0 (sz.getD n 0) (tr A i n) k
def fillI (A : Au) (sz : List Int) (rows : List (List Ct)) (i k : Nat) : Int := match firstN (fillP A sz rows i k) 8 0 with
 | some n => (n : Int)
 | none => -1
inductive Tr (A : Au) (sz : List Int) (ks : List Nat) (rows : List (List Ct)) : Nat → Nat → Nat → List Nat → List Int → Prop
 | stop {i k : Nat} (h : (cel rows k i).d = 0 ∧ (cel rows k i).f = 0) (hk : k = ks.length) : Tr A sz ks rows 0 i k [] []
 | keep {m i k : Nat} {w : List Nat} {fr : List Int} (hk : k < ks.length) (h : goesB rows i k 0 0 (tr A i (ks.getD k 0)) (k + 1) = true) (r : Tr A sz ks rows m (tr A i (ks.getD k 0)).toNat (k + 1) w fr) : Tr A sz ks rows (m + 1) i k (ks.getD k 0 :: w) ((k : Int) :: fr)
 | fill {m i k n : Nat} {w : List Nat} {fr : List Int} (hs : ¬ ((cel rows k i).d = 0 ∧ (cel rows k i).f = 0 ∧ k = ks.length)) (hg : ¬ (k < ks.length ∧ goesB rows i k 0 0 (tr A i (ks.getD k 0)) (k + 1) = true)) (hn : firstN (fillP A sz rows i k) 8 0 = some n) (r : Tr A sz ks rows m (tr A i n).toNat k w fr) : Tr A sz ks rows (m + 1) i k (n :: w) (-1 :: fr)
 | drop {m i k : Nat} {w : List Nat} {fr : List Int} (hk : k < ks.length) (hg : goesB rows i k 0 0 (tr A i (ks.getD k 0)) (k + 1) = false) (hn : firstN (fillP A sz rows i k) 8 0 = none) (hc : (cel rows (k + 1) i).ok = true ∧ (cel rows (k + 1) i).d + 1 = (cel rows k i).d ∧ (cel rows (k + 1) i).f = (cel rows k i).f) (r : Tr A sz ks rows m i (k + 1) w fr) : Tr A sz ks rows (m + 1) i k w fr
theorem firstN_some {p : Nat → Bool} : ∀ {f a n : Nat}, firstN p f a = some n → p n = true ∧ a ≤ n ∧ n < a + f
 | 0, a, n, h => by cases h
 | f + 1, a, n, h => by
  simp only [firstN] at h
  split at h
  ·rename_i hp; obtain rfl := Option.some.inj h; exact ⟨hp, Nat.le_refl _, by omega⟩
  ·have := firstN_some h; exact ⟨this.1, by omega, by omega⟩
theorem firstN_none {p : Nat → Bool} : ∀ {f a : Nat}, firstN p f a = none → ∀ n, a ≤ n → n < a + f → p n = false
 | 0, a, h, n, h1, h2 => by omega
 | f + 1, a, h, n, h1, h2 => by
  simp only [firstN] at h
  split at h
  ·cases h
  ·rename_i hp
   by_cases e : n = a
   ·subst e; exact Bool.eq_false_iff.2 hp
   ·exact firstN_none h n (by omega) (by omega)
section
variable {A : Au} {sz : List Int} {ks : List Nat} {rows : List (List Ct)}
theorem Opt.cel_best (ho : Opt A sz ks rows) {k i : Nat} (hk : k ≤ ks.length) (hi : i < A.next.length) : Best A sz i (ks.drop k) (cel rows k i) := ho.best k hk i hi
theorem drop_cons {ks : List Nat} {k : Nat} (h : k < ks.length) : ks.drop k = ks.getD k 0 :: ks.drop (k + 1) := by
 rw [List.getD_eq_getElem?_getD, List.getElem?_eq_getElem h]; exact List.drop_eq_getElem_cons h
theorem Opt.cases (hsh : A.Shape) (ho : Opt A sz ks rows) {k i : Nat} (hk : k ≤ ks.length) (hi : i < A.next.length) (hok : (cel rows k i).ok = true) :
 ((cel rows k i).d = 0 ∧ (cel rows k i).f = 0 ∧ k = ks.length) ∨ (k < ks.length ∧ goesB rows i k 0 0 (tr A i (ks.getD k 0)) (k + 1) = true) ∨ (∃ n, n < 8 ∧ fillP A sz rows i k n = true) ∨
 (k < ks.length ∧ (cel rows (k + 1) i).ok = true ∧ (cel rows (k + 1) i).d + 1 = (cel rows k i).d ∧ (cel rows (k + 1) i).f = (cel rows k i).f) := by
 have hb := ho.cel_best hk hi
 have hal := hb.al hok
 generalize hls : ks.drop k = ls at hal
 generalize hd : (cel rows k i).d = d at hal
 generalize hf : (cel rows k i).f = f at hal
 cases hal with
 | done h =>
  refine .inl ⟨rfl, rfl, ?_⟩
  have := congrArg List.length hls
  rw [List.length_drop, List.length_nil] at this; omega
 | @keep _ q qs _ _ h r =>
  have hkl : k < ks.length := by
   have := congrArg List.length hls
   rw [List.length_drop, List.length_cons] at this; omega
  rw [drop_cons hkl] at hls
  obtain ⟨hq, hqs⟩ := List.cons.inj hls
  subst hq; subst hqs
  have ht := (tr_lt hsh hi h).1
  have hb2 := ho.cel_best (k := k + 1) hkl ht
  have h1 := hb2.le _ _ r
  have h2 := hb.le _ _ (by rw [drop_cons hkl]; exact .keep h (hb2.al h1.1))
  have a := h1.2
  have b := h2.2
  exact .inr (.inl ⟨hkl, goesB_iff.2 ⟨h, h1.1, by omega, by omega⟩⟩)
 | @drop _ q qs d' _ r =>
  have hkl : k < ks.length := by
   have := congrArg List.length hls
   rw [List.length_drop, List.length_cons] at this; omega
  rw [drop_cons hkl] at hls
  obtain ⟨hq, hqs⟩ := List.cons.inj hls
  subst hq; subst hqs
  have hb2 := ho.cel_best (k := k + 1) hkl hi
  have h1 := hb2.le _ _ r
  have h2 := hb.le _ _ (by rw [drop_cons hkl]; exact .drop (hb2.al h1.1))
  have a := h1.2
  have b := h2.2
  exact .inr (.inr (.inr ⟨hkl, h1.1, by omega, by omega⟩))
 | @fill _ n _ _ f' h r =>
  subst hls
  have ht := tr_lt hsh hi h
  have hb2 := ho.cel_best hk ht.1
  have h1 := hb2.le _ _ r
  have h2 := hb.le _ _ (.fill h (hb2.al h1.1))
  have a := h1.2
  have b := h2.2
  refine .inr (.inr (.inl ⟨n, ht.2, ?_⟩))
  unfold fillP
  rw [Bool.and_eq_true, decide_eq_true_eq]
  exact ⟨h, goesB_iff.2 ⟨h, h1.1, by omega, by omega⟩⟩
theorem Opt.ex (hsh : A.Shape) (hz : Sz A sz) (ho : Opt A sz ks rows) : ∀ (q g k i : Nat), k ≤ ks.length → i < A.next.length → (cel rows k i).ok = true → ks.length - k ≤ q → (cel rows k i).f.toNat ≤ g → ∃ m w fr, Tr A sz ks rows m i k w fr := by
 intro q
 induction q using Nat.strongRecOn with
 | _ q ihq =>
 intro g
 induction g using Nat.strongRecOn with
 | _ g ihg =>
 intro k i hk hi hok hq hg
 by_cases hst : (cel rows k i).d = 0 ∧ (cel rows k i).f = 0 ∧ k = ks.length
 ·exact ⟨0, [], [], .stop ⟨hst.1, hst.2.1⟩ hst.2.2⟩
 by_cases hkp : k < ks.length ∧ goesB rows i k 0 0 (tr A i (ks.getD k 0)) (k + 1) = true
 ·have h2 := goesB_iff.1 hkp.2
  have ht := (tr_lt hsh hi h2.1).1
  have hkk := hkp.1
  obtain ⟨m, w, fr, h⟩ := ihq (q - 1) (by omega) _ (k + 1) _ hkp.1 ht h2.2.1 (by omega) (Nat.le_refl _)
  exact ⟨_, _, _, .keep hkp.1 hkp.2 h⟩
 cases hfn : firstN (fillP A sz rows i k) 8 0 with
 | some n =>
  have hp := (firstN_some hfn).1
  unfold fillP at hp
  rw [Bool.and_eq_true, decide_eq_true_eq] at hp
  have h2 := goesB_iff.1 hp.2
  have ht := (tr_lt hsh hi hp.1).1
  have h3 := hz.lo _ _ hp.1
  have h4 := (ho.cel_best hk ht).al h2.2.1 |>.nn hz
  obtain ⟨m, w, fr, h⟩ := ihg _ (by omega) k _ hk ht h2.2.1 hq (Nat.le_refl _)
  exact ⟨_, _, _, .fill hst hkp hfn h⟩
 | none =>
  rcases ho.cases hsh hk hi hok with h1 | h1 | ⟨n, hn, h⟩ | ⟨h1, h2, h3, h4⟩
  ·exact absurd h1 hst
  ·exact absurd h1 hkp
  ·rw [firstN_none hfn n (Nat.zero_le _) (by omega)] at h; cases h
  ·obtain ⟨m, w, fr, h⟩ := ihq (q - 1) (by omega) _ (k + 1) i h1 hi h2 (by omega) (Nat.le_refl _)
   exact ⟨_, _, _, .drop h1 (by cases hg : goesB rows i k 0 0 (tr A i (ks.getD k 0)) (k + 1); rfl; exact absurd ⟨h1, hg⟩ hkp) hfn ⟨h2, h3, h4⟩ h⟩
theorem Tr.inv_stop {m i k : Nat} {w : List Nat} {fr : List Int} (h : Tr A sz ks rows m i k w fr) (hs : (cel rows k i).d = 0 ∧ (cel rows k i).f = 0) (hk : k = ks.length) : w = [] ∧ fr = [] := by
 cases h with
 | stop => exact ⟨rfl, rfl⟩
 | keep h1 => omega
 | fill h1 => exact absurd ⟨hs.1, hs.2, hk⟩ h1
 | drop h1 => omega
theorem Tr.inv_keep {m i k : Nat} {w : List Nat} {fr : List Int} (h : Tr A sz ks rows m i k w fr) (hk : k < ks.length) (hg : goesB rows i k 0 0 (tr A i (ks.getD k 0)) (k + 1) = true) :
 ∃ m' w' fr', m = m' + 1 ∧ w = ks.getD k 0 :: w' ∧ fr = (k : Int) :: fr' ∧ Tr A sz ks rows m' (tr A i (ks.getD k 0)).toNat (k + 1) w' fr' := by
 cases h with
 | stop _ h1 => omega
 | keep _ _ r => exact ⟨_, _, _, rfl, rfl, rfl, r⟩
 | fill _ h1 => exact absurd ⟨hk, hg⟩ h1
 | drop _ h1 => rw [hg] at h1; cases h1
theorem Tr.inv_fill {m i k n : Nat} {w : List Nat} {fr : List Int} (h : Tr A sz ks rows m i k w fr) (hs : ¬ ((cel rows k i).d = 0 ∧ (cel rows k i).f = 0 ∧ k = ks.length)) (hg : ¬ (k < ks.length ∧ goesB rows i k 0 0 (tr A i (ks.getD k 0)) (k + 1) = true)) (hn : firstN (fillP A sz rows i k) 8 0 = some n) :
 ∃ m' w' fr', m = m' + 1 ∧ w = n :: w' ∧ fr = -1 :: fr' ∧ Tr A sz ks rows m' (tr A i n).toNat k w' fr' := by
 cases h with
 | stop h1 h2 => exact absurd ⟨h1.1, h1.2, h2⟩ hs
 | keep h1 h2 => exact absurd ⟨h1, h2⟩ hg
 | fill _ _ h1 r => rw [hn] at h1; obtain rfl := Option.some.inj h1; exact ⟨_, _, _, rfl, rfl, rfl, r⟩
 | drop _ _ h1 => rw [hn] at h1; cases h1
theorem Tr.inv_drop {m i k : Nat} {w : List Nat} {fr : List Int} (h : Tr A sz ks rows m i k w fr) (hs : ¬ ((cel rows k i).d = 0 ∧ (cel rows k i).f = 0 ∧ k = ks.length)) (hg : ¬ (k < ks.length ∧ goesB rows i k 0 0 (tr A i (ks.getD k 0)) (k + 1) = true)) (hn : firstN (fillP A sz rows i k) 8 0 = none) :
 k < ks.length ∧ (cel rows (k + 1) i).ok = true ∧ ∃ m', m = m' + 1 ∧ Tr A sz ks rows m' i (k + 1) w fr := by
 cases h with
 | stop h1 h2 => exact absurd ⟨h1.1, h1.2, h2⟩ hs
 | keep h1 h2 => exact absurd ⟨h1, h2⟩ hg
 | fill _ _ h1 => rw [hn] at h1; cases h1
 | drop h1 _ _ h2 r => exact ⟨h1, h2.1, _, rfl, r⟩
theorem fillP_iff {i k n : Nat} : fillP A sz rows i k n = true ↔ 0 ≤ tr A i n ∧ (cel rows k (tr A i n).toNat).ok = true ∧ (cel rows k (tr A i n).toNat).d = (cel rows k i).d ∧ (cel rows k (tr A i n).toNat).f + sz.getD n 0 = (cel rows k i).f := by
 unfold fillP
 rw [Bool.and_eq_true, decide_eq_true_eq, goesB_iff, Int.add_zero]
 exact ⟨fun h => h.2, fun h => ⟨h.1, h⟩⟩
theorem Tr.bound (hsh : A.Shape) (hz : Sz A sz) (ho : Opt A sz ks rows) {m i k : Nat} {w : List Nat} {fr : List Int} (h : Tr A sz ks rows m i k w fr) : k ≤ ks.length → i < A.next.length → (cel rows k i).ok = true → m ≤ (ks.length - k) + (cel rows k i).f.toNat ∧ w.length ≤ m ∧ fr.length = w.length := by
 induction h with
 | stop => intro _ _ _; simp
 | keep hk hg r ih =>
  intro _ hi hok
  have h2 := goesB_iff.1 hg
  have := ih hk (tr_lt hsh hi h2.1).1 h2.2.1
  simp only [List.length_cons]
  omega
 | fill hs hg hn r ih =>
  intro hk hi hok
  have h2 := fillP_iff.1 (firstN_some hn).1
  have ht := (tr_lt hsh hi h2.1).1
  have := ih hk ht h2.2.1
  have h3 := hz.lo _ _ h2.1
  have h4 := (ho.cel_best hk ht).al h2.2.1 |>.nn hz
  simp only [List.length_cons]
  omega
 | drop hk hg hn hc r ih =>
  intro _ hi hok
  have := ih hk hi hc.1
  omega
theorem Opt.drop_f (hsh : A.Shape) (ho : Opt A sz ks rows) {k i : Nat} (hk : k ≤ ks.length) (hi : i < A.next.length) (hok : (cel rows k i).ok = true) (hs : ¬ ((cel rows k i).d = 0 ∧ (cel rows k i).f = 0 ∧ k = ks.length)) (hg : ¬ (k < ks.length ∧ goesB rows i k 0 0 (tr A i (ks.getD k 0)) (k + 1) = true)) (hn : firstN (fillP A sz rows i k) 8 0 = none) : (cel rows (k + 1) i).f = (cel rows k i).f := by
 rcases ho.cases hsh hk hi hok with h1 | h1 | ⟨n, h2, h⟩ | ⟨h1, h2, h3, h4⟩
 ·exact absurd h1 hs
 ·exact absurd h1 hg
 ·rw [firstN_none hn n (Nat.zero_le _) (by omega)] at h; cases h
 ·exact h4
end
end Fit
end Go.Vl
end
section
namespace Go.Proofs.YtphlkdbglpcikaaGreatDoor
open Go.Vl
open Y
namespace WFGoes
theorem int2 : Int2 Tryz.prog 81 := Int2.of Tryz.underlying81 (by kernel_rfl) (by kernel_rfl) (by decide) (by decide) rfl rfl Tryz.underlying3 Tryz.underlying3
theorem c_goes (p : Nat) (q0 q1 q2 q3 : AV) (rows : List (List Fit.Ct)) (st kid : Nat) (d f to : Int) (nk : Nat) (hnk : nk < rows.length) (hto : 0 ≤ to → to.toNat < (rows.getD nk []).length) (hkd : kid < rows.length) (hst : st < (rows.getD kid []).length) (hbd : 0 ≤ to → (Fit.cel rows nk to.toNat).ok = true → (-1099511627776 ≤ (Fit.cel rows nk to.toNat).d ∧ (Fit.cel rows nk to.toNat).d ≤ 1099511627776) ∧ (-1099511627776 ≤ (Fit.cel rows nk to.toNat).f ∧ (Fit.cel rows nk to.toNat).f ≤ 1099511627776)) (hdf : (-1099511627776 ≤ d ∧ d ≤ 1099511627776) ∧ (-1099511627776 ≤ f ∧ f ≤ 1099511627776)) : FnC Tryz.prog 62 [.lit (.pointer (some ⟨p, 0, none⟩)), .int (st : Int), .int (kid : Int), .agg [.int d, .int f], .int to, .int (nk : Int)] [.box p 86 [q0, q1, q2, q3, .sl 1 (rows.map Fit.rowv)]] (fun r M => r = .bool (Fit.goesB rows st kid d f to nk) ∧ M = [.box p 86 [q0, q1, q2, q3, .sl 1 (rows.map Fit.rowv)]]) :=  by
 refine FnC.mk Tryz.func62 (by kernel_rfl) rfl Tryz.ntmps62 rfl (fun w0 F => ?_)
 have hrl : (rows.map Fit.rowv).length = rows.length := List.length_map ..
 have hgn := getD_mapG Fit.rowv [] rows nk hnk
 have hgk := getD_mapG Fit.rowv [] rows kid hkd
 have hgs := Fit.getD_ctv (rows.getD kid []) st hst
 have hgt := fun h => Fit.getD_ctv (rows.getD nk []) to.toNat (hto h)
 have hl1 : ((rows.getD nk []).map Fit.ctv).length = (rows.getD nk []).length := List.length_map ..
 have hl2 : ((rows.getD kid []).map Fit.ctv).length = (rows.getD kid []).length := List.length_map ..
 change 0 ≤ to → _ = some (Fit.ctv (Fit.cel rows nk to.toNat)) at hgt
 change _ = some (Fit.ctv (Fit.cel rows kid st)) at hgs
 obtain ⟨ct, hct⟩ : ∃ c, Fit.cel rows nk to.toNat = c := ⟨_, rfl⟩
 obtain ⟨cs, hcs⟩ : ∃ c, Fit.cel rows kid st = c := ⟨_, rfl⟩
 rw [hct] at hgt hbd
 rw [hcs] at hgs
 refine W.s ?_; refine W.r ?_; refine W.box (.t rfl) rfl rfl ?_; intro b9; refine W.q (.assign .k) rfl ?_; refine W.n ?_; refine W.h ?_; refine W.s ?_; refine W.s ?_; refine W.r ?_; refine W.q (.move (.t rfl)) rfl ?_; refine W.q (.lti (.t rfl) .k) rfl ?_; refine W.q (.move (.t rfl)) rfl ?_; refine W.qgF rfl rfl (.move (.t rfl)) rfl ?_; refine W.qgF rfl rfl (.nilc (.c rfl)) rfl ?_
 refine W.qgF rfl rfl (.fab (.c rfl) fa86_3) rfl (.qgF rfl rfl (.ldb1 1 (.c rfl) rfl ag84 rfl) rfl (.qgF rfl rfl (.move (.t rfl)) rfl ?_)); refine W.qgF rfl rfl (.at (E := 83) (.c rfl) (.c rfl) Tryz.underlying84 ty83 (fun hg => ⟨by omega, hgn⟩) rfl rfl) rfl ?_; refine W.qgF rfl rfl (.lde1 (.c rfl) ag83) rfl (.qgF rfl rfl (.move (.t rfl)) rfl ?_); refine W.qgF rfl rfl (.at (E := 82) (.c rfl) (.c rfl) Tryz.underlying83 ty82 (fun hg => ⟨by simp at hg; have := hto (by omega); omega, hgt (by simp at hg; omega)⟩) rfl rfl) rfl ?_; refine W.qgF rfl rfl (.fae (.c rfl) fa82_1 rfl) rfl (.qgF rfl rfl (.lde1 (.c rfl) ag4) rfl ?_)
 refine W.qgF rfl rfl (.not (.c rfl)) rfl ?_; refine W.q (.or (.t rfl) ⟨_, _, rfl, rfl, by ((simp; done))⟩) rfl ?_; refine W.n ?_; refine W.h ?_; refine W.cond (.t rfl) (fun hc_t28 => ?_) (fun hc_t28 => ?_)
 ·have hgo : Fit.goesB rows st kid d f to nk = false := by unfold Fit.goesB; refine if_pos ?_; rw [hct]; simpa using hc_t28
  refine W.s (.r (.q (.assign .k) rfl (.n (.h ?_)))); refine W.ret ?_; refine W.hr ?_; refine W.retn (M' := [.box p 86 [q0, q1, q2, q3, .sl 1 (rows.map Fit.rowv)]]) (D := [_]) (rs := [.tmp 12]) (avs := [_]) Tryz.results62 ⟨rfl, trivial⟩ rfl (List.Perm.swap _ _ []) ?_
  rw [hgo]
  exact ⟨rfl, rfl⟩
 ·have hno : ¬ (to < 0 ∨ ct.ok = false) := by simpa using hc_t28
  have h0 : 0 ≤ to := by omega
  have hok : ct.ok = true := by cases h : ct.ok; exact absurd (.inr h) hno; rfl
  have hgo : Fit.goesB rows st kid d f to nk = (ct.d + d == cs.d && ct.f + f == cs.f) := by unfold Fit.goesB; rw [hct, hcs]; exact if_neg hno
  refine W.k (.h (.s ?_)); refine W.drawn (by kernel_rfl) (by kernel_rfl) ?_; refine DP.q (.move (.t rfl)) rfl (.q (.nilc (.t rfl)) rfl (.q (.fab (.t rfl) fa86_3) rfl (.q (.ldb1 1 (.t rfl) rfl ag84 rfl) rfl (.q (.move (.t rfl)) rfl ?_)))); refine DP.q (.at (E := 83) (.t rfl) (.t rfl) Tryz.underlying84 ty83 (fun hg => ⟨by omega, hgn⟩) rfl rfl) rfl ?_; refine DP.q (.lde1 (.t rfl) ag83) rfl (.q (.move (.t rfl)) rfl ?_); refine DP.q (.at (E := 82) (.t rfl) (.t rfl) Tryz.underlying83 ty82 (fun hg => ⟨by have := hto h0; omega, hgt h0⟩) rfl rfl) rfl ?_; refine DP.q (.fae (.t rfl) fa82_0 rfl) rfl (.q (.lden (.t rfl) ag81 ty81 rfl rfl) rfl (.q (.ldbn 0 (.t rfl) rfl ag81 ty81 rfl) rfl (.callp (WFSmall.c_plus ct.d ct.f d f ⟨(hbd h0 hok).1, (hbd h0 hok).2, hdf.1, hdf.2⟩) ⟨(.t rfl), (.t rfl), trivial⟩ rfl (.q (.move (.t rfl)) rfl (.q (.nilc (.t rfl)) rfl (.q (.fab (.t rfl) fa86_3) rfl (.q (.ldb1 1 (.t rfl) rfl ag84 rfl) rfl (.q (.move (.t rfl)) rfl ?_)))))))); refine DP.q (.at (E := 83) (.t rfl) (.t rfl) Tryz.underlying84 ty83 (fun hg => ⟨by omega, hgk⟩) rfl rfl) rfl ?_; refine DP.q (.lde1 (.t rfl) ag83) rfl (.q (.move (.t rfl)) rfl ?_); refine DP.q (.at (E := 82) (.t rfl) (.t rfl) Tryz.underlying83 ty82 (fun hg => ⟨by omega, hgs⟩) rfl rfl) rfl ?_; refine DP.q (.fae (.t rfl) fa82_0 rfl) rfl (.q (.lden (.t rfl) ag81 ty81 rfl rfl) rfl (.q (.eqi2 int2 (.t rfl) (.t rfl)) rfl (.q (.assign (.t rfl)) rfl (.nil (.h ?_))))); refine W.ret ?_; refine W.retn (M' := [.box p 86 [q0, q1, q2, q3, .sl 1 (rows.map Fit.rowv)]]) (D := [_]) (rs := [.tmp 12]) (avs := [_]) Tryz.results62 ⟨rfl, trivial⟩ rfl (List.Perm.swap _ _ []) ?_
  rw [hgo]
  exact ⟨rfl, rfl⟩
theorem c_filled (b : Nat) (ts : List Tp) (as_ : List Au) (sz : List Int) (A : Au) (hsh : A.Shape) (hn : A.next.length ≤ 32) (hz : Fit.Sz A sz) (hcol : ∀ i m, 0 ≤ Fit.tr A i m → m < sz.length) (p : Nat) (ks : List Nat) (hks : ks.length ≤ 64) (rows : List (List Fit.Ct)) (ho : Fit.Opt A sz ks rows) (st kid : Nat) (hst : st < A.next.length) (hkid : kid ≤ ks.length) : FnC Tryz.prog 63 [.lit (.pointer (some ⟨p, 0, none⟩)), .int (st : Int), .int (kid : Int)] [.box p 86 [.lit (.pointer (some ⟨b, 0, none⟩)), .sl 1 (A.next.map pav), .sl 1 (A.final.map AV.bool), .sl 1 (ks.map fun k : Nat => AV.int (k : Int)), .sl 1 (rows.map Fit.rowv)], .box b 76 [.sl 3 (ts.map tpv), .sl 2 (as_.map Au.avx), .sl 1 (sz.map AV.int)]] (fun r M => r = .int (Fit.fillI A sz rows st kid) ∧ M = [.box p 86 [.lit (.pointer (some ⟨b, 0, none⟩)), .sl 1 (A.next.map pav), .sl 1 (A.final.map AV.bool), .sl 1 (ks.map fun k : Nat => AV.int (k : Int)), .sl 1 (rows.map Fit.rowv)], .box b 76 [.sl 3 (ts.map tpv), .sl 2 (as_.map Au.avx), .sl 1 (sz.map AV.int)]]) :=  by
 refine FnC.mk Tryz.func63 (by kernel_rfl) rfl Tryz.ntmps63 rfl (fun w0 F => ?_)
 have hnl : (A.next.map pav).length = A.next.length := List.length_map ..
 have hgr := getD_mapG pav [] A.next st hst
 have hr8 := hsh.row st hst
 have htr : ∀ m, Fit.tr A st m = (A.next.getD st []).getD m (-1) := fun m => rfl
 generalize A.next.getD st [] = rw_ at hgr hr8 htr
 have hrl : (rw_.map AV.int).length = 8 := by rw [List.length_map]; exact hr8
 have hrowl := ho.row kid hkid
 have hrlen := ho.len
 refine W.s (.r (.q (.assign .k) rfl (.n (.h (.s (.s (.r (.mv rfl rfl (.q (.nilc (.t rfl)) rfl (.q (.fab (.t rfl) fa86_1) rfl (.q (.fab (.t rfl) fa62_0) rfl (.q (.ldb1 0 (.t rfl) rfl ag59 rfl) rfl (.mv rfl rfl ?_))))))))))))); refine W.q (.at (E := 22) (.t rfl) (.t rfl) Tryz.underlying59 ty22 (fun hg => ⟨by omega, hgr⟩) rfl rfl) rfl ?_; refine W.q (.lde1 (.t rfl) ag22) rfl (.q (.lensl (.t rfl) Tryz.underlying22) rfl (.q (.move .k) rfl (.n (.h (.b ?_))))); refine W.loop (D := []) (ι := Nat) (fun n => [(18, true, .int (n : Int)), (17, true, .int ((rw_.map AV.int).length : Int)), (16, true, .sl 1 (rw_.map AV.int)), (0, true, .lit (.pointer (some ⟨p, 0, none⟩))), (1, true, .int (st : Int)), (2, true, .int (kid : Int))]) (fun _ => [.box p 86 [.lit (.pointer (some ⟨b, 0, none⟩)), .sl 1 (A.next.map pav), .sl 1 (A.final.map AV.bool), .sl 1 (ks.map fun k : Nat => AV.int (k : Int)), .sl 1 (rows.map Fit.rowv)], .box b 76 [.sl 3 (ts.map tpv), .sl 2 (as_.map Au.avx), .sl 1 (sz.map AV.int)]]) (fun n => n ≤ 8 ∧ Sch.firstN (Fit.fillP A sz rows st kid) (8 - n) n = Sch.firstN (Fit.fillP A sz rows st kid) 8 0) (fun n => 8 - n) 0 ⟨rfl, rfl, rfl, rfl, rfl, rfl, trivial⟩ (.refl _) ⟨Nat.zero_le _, rfl⟩ ?_
 rintro n ⟨hn8, hfs⟩
 dsimp only at hn8 hfs ⊢
 obtain ⟨to, hto⟩ : ∃ z, Fit.tr A st n = z := ⟨_, rfl⟩
 have hgm0 : n < 8 → (rw_.map AV.int)[n]? = some (AV.int to) := fun h => by rw [List.getElem?_map, ← hto, htr, List.getD_eq_getElem?_getD, List.getElem?_eq_getElem (show n < rw_.length by omega)]; rfl
 have hstep : n < 8 → Sch.firstN (Fit.fillP A sz rows st kid) (8 - n) n = if Fit.fillP A sz rows st kid n = true then some n else Sch.firstN (Fit.fillP A sz rows st kid) (8 - (n + 1)) (n + 1) := fun h => by rw [show 8 - n = (8 - (n + 1)) + 1 from by omega]; rfl
 rcases (show (n < 8 ∧ to < 0) ∨ (n < 8 ∧ 0 ≤ to) ∨ n = 8 from by omega) with ⟨hlt, hneg⟩ | ⟨hlt, hpos⟩ | hend
 ·have hgm := hgm0 hlt
  have hP : ¬ Fit.fillP A sz rows st kid n = true := by intro h; have := (Fit.fillP_iff.1 h).1; rw [hto] at this; omega
  rw [hstep hlt, if_neg hP] at hfs
  refine W.s (.r (.q (.lti (.t rfl) (.t rfl)) rfl (.n (.h (.s ?_))))); refine W.isb 19 true rfl (by exact decide_eq_true (by omega)) ?_; refine W.condT (.t rfl) (.k (.h (.s (.b (.s (.r (.mv rfl rfl ?_))))))); refine W.q (.at (E := 3) (.t rfl) (.t rfl) Tryz.underlying22 ty3 (fun hg => ⟨by omega, hgm⟩) rfl rfl) rfl ?_; refine W.q (.lde1 (.t rfl) ag3) rfl (.asg rfl rfl (.asg rfl rfl (.n (.h (.s (.r (.mv rfl rfl (.q (.gei (.t rfl) .k) rfl (.mv rfl rfl ?_))))))))); refine W.is (t := 25) (av' := .bool false) rfl (congrArg AV.bool (decide_eq_false (by omega))) ?_; refine W.gnob rfl rfl (by simp) rfl ?_; refine W.gnob rfl rfl (by simp) rfl ?_; refine W.gnob rfl rfl (by simp) rfl ?_; refine W.gnob rfl rfl (by simp) rfl ?_; refine W.gnob rfl rfl (by simp) rfl ?_; refine W.gnob rfl rfl (by simp) rfl ?_; refine W.gnob rfl rfl (by simp) rfl ?_; refine W.gnob rfl rfl (by simp) rfl ?_; refine W.gnob rfl rfl (by simp) rfl ?_; refine W.gnob rfl rfl (by simp) rfl ?_; refine W.gnob rfl rfl (by simp) rfl ?_; refine W.gnob rfl rfl (by simp) rfl ?_; refine W.gnob rfl rfl (by simp) rfl ?_; refine W.q (.andF (.t rfl)) rfl (.n (.h (.condF (.t rfl) (.k (.bn (.h (.r (.q (.add (.t rfl) .k (fun _ => by omega)) rfl ?_))))))))
  refine W.q (.move (.t rfl)) rfl ?_; refine W.n ?_; refine W.h ?_; refine W.reach (D := []) (n + 1) ⟨rfl, rfl, rfl, rfl, rfl, rfl, trivial⟩ (.refl _) ⟨⟨hlt, hfs⟩, by show 8 - (n + 1) < 8 - n; omega⟩
 ·have hgm := hgm0 hlt
  have hml := hcol st n (by rw [hto]; exact hpos)
  have htl : to.toNat < A.next.length := by have := Fit.tr_lt hsh hst (n := n) (by rw [hto]; exact hpos); rw [hto] at this; exact this.1
  have hzh := hz.hi st n (by rw [hto]; exact hpos)
  have hzl := hz.lo st n (by rw [hto]; exact hpos)
  have hbo := ho.b kid hkid to.toNat htl
  rw [hstep hlt] at hfs
  have hPe : Fit.fillP A sz rows st kid n = Fit.goesB rows st kid 0 (sz.getD n 0) to kid := by unfold Fit.fillP; rw [hto, decide_eq_true hpos, Bool.true_and]
  have hG := c_goes p (.lit (.pointer (some ⟨b, 0, none⟩))) (.sl 1 (A.next.map pav)) (.sl 1 (A.final.map AV.bool)) (.sl 1 (ks.map fun k : Nat => AV.int (k : Int))) rows st kid 0 (sz.getD n 0) to kid (by omega) (fun _ => by omega) (by omega) (by omega) (fun _ h => by have := hbo h; have e : Fit.cel rows kid to.toNat = (rows.getD kid []).getD to.toNat Fit.cz := rfl; rw [e]; omega) (by omega)
  rw [← hPe] at hG
  refine W.s (.r (.q (.lti (.t rfl) (.t rfl)) rfl (.n (.h (.s ?_))))); refine W.isb 19 true rfl (by exact decide_eq_true (by omega)) ?_; refine W.condT (.t rfl) (.k (.h (.s (.b (.s (.r (.mv rfl rfl ?_))))))); refine W.q (.at (E := 3) (.t rfl) (.t rfl) Tryz.underlying22 ty3 (fun hg => ⟨by omega, hgm⟩) rfl rfl) rfl ?_; refine W.q (.lde1 (.t rfl) ag3) rfl (.asg rfl rfl (.asg rfl rfl (.n (.h (.s (.r (.mv rfl rfl (.q (.gei (.t rfl) .k) rfl (.mv rfl rfl ?_))))))))); refine W.is (t := 25) (av' := .bool true) rfl (congrArg AV.bool (decide_eq_true (by omega))) ?_; refine W.gyes rfl rfl (.mv rfl rfl (.gyes rfl rfl (.mv rfl rfl (.gyes rfl rfl (.mv rfl rfl (.gyes rfl rfl (.mv rfl rfl (.gyes rfl rfl (.q (.nilc (.t rfl)) rfl (.gyes rfl rfl (.q (.fab (.t rfl) fa86_0) rfl (.gyes rfl rfl (.q (.ldb1 0 (.t rfl) rfl ag71 rfl) rfl (.gyes rfl rfl (.mv rfl rfl (.gyes rfl rfl ?_)))))))))))))))); refine W.call (WFSmall.c_Size b ts as_ sz n hml) ⟨(.t rfl), (.t rfl), trivial⟩ ((List.Perm.swap _ _ [])) rfl ?_
  rintro _ _ ⟨rfl, rfl⟩
  refine W.perm (List.Perm.swap _ _ []) ?_; refine W.gyes rfl rfl (.q (.build ty81 st81 rfl (fun hg => ⟨_, _, _, rfl, .k, rfl, rfl, rfl, _, _, _, rfl, (.t rfl), rfl, rfl, rfl, rfl⟩)) rfl (.gyes rfl rfl (.mv rfl rfl (.gyes rfl rfl (.mv rfl rfl (.gyes rfl rfl ?_)))))); refine W.call (hG) ⟨(.t rfl), (.t rfl), (.t rfl), (.t rfl), (.t rfl), (.t rfl), trivial⟩ (.refl _) rfl ?_
  rintro _ _ ⟨rfl, rfl⟩
  refine W.q (.as_ (.and (.t rfl) ⟨_, _, rfl, rfl, fun _ _ => rfl⟩) (Eq.refl (AV.bool (Fit.fillP A sz rows st kid n)))) rfl ?_; refine W.n ?_; refine W.h ?_; refine W.cond (.t rfl) (fun hc_t39 => ?_) (fun hc_t39 => ?_)
  ·have hP : Fit.fillP A sz rows st kid n = true := hc_t39
   rw [if_pos hP] at hfs
   have hI : Fit.fillI A sz rows st kid = (n : Int) := by unfold Fit.fillI; rw [← hfs]
   refine W.s (.r (.mv rfl rfl (.asg rfl rfl (.n (.h ?_))))); refine W.ret ?_; refine W.br (.hr (.hr (.br (.hr ?_)))); refine W.retn (M' := [.box p 86 [.lit (.pointer (some ⟨b, 0, none⟩)), .sl 1 (A.next.map pav), .sl 1 (A.final.map AV.bool), .sl 1 (ks.map fun k : Nat => AV.int (k : Int)), .sl 1 (rows.map Fit.rowv)], .box b 76 [.sl 3 (ts.map tpv), .sl 2 (as_.map Au.avx), .sl 1 (sz.map AV.int)]]) (D := []) (rs := [.tmp 6]) (avs := [_]) Tryz.results63 ⟨rfl, trivial⟩ rfl (.refl _) ?_
   rw [hI]
   exact ⟨rfl, rfl⟩
  ·have hP : ¬ Fit.fillP A sz rows st kid n = true := by rw [show Fit.fillP A sz rows st kid n = false from hc_t39]; simp
   rw [if_neg hP] at hfs
   refine W.k (.bn (.h (.r (.q (.add (.t rfl) .k (fun _ => by omega)) rfl ?_))))
   refine W.q (.move (.t rfl)) rfl ?_; refine W.n ?_; refine W.h ?_; refine W.reach (D := []) (n + 1) ⟨rfl, rfl, rfl, rfl, rfl, rfl, trivial⟩ (.refl _) ⟨⟨hlt, hfs⟩, by show 8 - (n + 1) < 8 - n; omega⟩
 ·subst hend
  have hI : Fit.fillI A sz rows st kid = -1 := by unfold Fit.fillI; rw [← hfs]; rfl
  refine W.s (.r (.q (.lti (.t rfl) (.t rfl)) rfl (.n (.h (.s ?_))))); refine W.isb 19 false rfl (by exact decide_eq_false (by omega)) ?_; refine W.condF (.t rfl) (.ex (.he (.he (.bh (.h (.s (.r (.q (.assign .k) rfl (.n (.h ?_)))))))))); refine W.ret ?_; refine W.retn (M' := [.box p 86 [.lit (.pointer (some ⟨b, 0, none⟩)), .sl 1 (A.next.map pav), .sl 1 (A.final.map AV.bool), .sl 1 (ks.map fun k : Nat => AV.int (k : Int)), .sl 1 (rows.map Fit.rowv)], .box b 76 [.sl 3 (ts.map tpv), .sl 2 (as_.map Au.avx), .sl 1 (sz.map AV.int)]]) (D := []) (rs := [.tmp 6]) (avs := [_]) Tryz.results63 ⟨rfl, trivial⟩ rfl (.refl _) ?_
  rw [hI]
  exact ⟨rfl, rfl⟩
end WFGoes
end Go.Proofs.YtphlkdbglpcikaaGreatDoor
end
section
namespace Go.Proofs.YtphlkdbglpcikaaGreatDoor
open Go.Vl
open Y
namespace WFFill
set_option maxHeartbeats 4000000 in
theorem c_fill (b : Nat) (ts : List Tp) (as_ : List Au) (sz : List Int) (A : Au) (hsh : A.Shape) (hn : A.next.length ≤ 32) (hz : Fit.Sz A sz) (hcol : ∀ i m, 0 ≤ Fit.tr A i m → m < sz.length) (p : Nat) (q3 : AV) (sa : Option Addr) (sn sc : Nat) (vr : Value) (es : List AV) (k : Nat) (hk : es[k]? = some (.lit (.slice sa sn sc))) (ks : List Nat) (hks : ks.length ≤ 64) (FB : Int) (hF0 : 0 ≤ FB) (hF : FB ≤ 400000) (row : List Fit.Ct) (hri : Fit.RI A sz ks FB row) : FnC Tryz.prog 59 [.lit (.pointer (some ⟨p, 0, none⟩)), .int (k : Int)] [.arr (.slice sa sn sc) 82 3 (row.map Fit.ctv), .arr vr 83 1 es, .box p 86 [.lit (.pointer (some ⟨b, 0, none⟩)), .sl 1 (A.next.map pav), .sl 1 (A.final.map AV.bool), q3, .lit vr], .box b 76 [.sl 3 (ts.map tpv), .sl 2 (as_.map Au.avx), .sl 1 (sz.map AV.int)]] (fun r M => r = .tup [] ∧ ∃ row2, Fit.RI A sz ks FB row2 ∧ Fit.Fx A sz row2 ∧ (∀ j d f, (row.getD j Fit.cz).Le d f → (row2.getD j Fit.cz).Le d f) ∧ M = [.arr (.slice sa sn sc) 82 3 (row2.map Fit.ctv), .arr vr 83 1 es, .box p 86 [.lit (.pointer (some ⟨b, 0, none⟩)), .sl 1 (A.next.map pav), .sl 1 (A.final.map AV.bool), q3, .lit vr], .box b 76 [.sl 3 (ts.map tpv), .sl 2 (as_.map Au.avx), .sl 1 (sz.map AV.int)]]) :=  by
 refine FnC.mk Tryz.func59 (by kernel_rfl) rfl Tryz.ntmps59 rfl (fun w0 F => ?_)
 have hkr := hk
 have hkl : k < es.length := by
  rcases Nat.lt_or_ge k es.length with h | h
  ·exact h
  ·rw [List.getElem?_eq_none h] at hk; cases hk
 have hnl : (A.next.map pav).length = A.next.length := List.length_map ..
 refine W.s (.r (.q (.assign .k) rfl (.n (.h (.b ?_))))); refine W.loop (D := []) (ι := List Fit.Ct × Bool) (fun z => [(4, true, .bool z.2), (0, true, .lit (.pointer (some ⟨p, 0, none⟩))), (1, true, .int (k : Int))]) (fun z => [.arr (.slice sa sn sc) 82 3 (z.1.map Fit.ctv), .arr vr 83 1 es, .box p 86 [.lit (.pointer (some ⟨b, 0, none⟩)), .sl 1 (A.next.map pav), .sl 1 (A.final.map AV.bool), q3, .lit vr], .box b 76 [.sl 3 (ts.map tpv), .sl 2 (as_.map Au.avx), .sl 1 (sz.map AV.int)]]) (fun z => Fit.RI A sz ks FB z.1 ∧ (∀ j d f, (row.getD j Fit.cz).Le d f → (z.1.getD j Fit.cz).Le d f) ∧ (z.2 = false → Fit.Fx A sz z.1)) (fun z => if z.2 = true then Fit.meas ks.length z.1 + 1 else 0) (row, true) ⟨rfl, rfl, rfl, trivial⟩ (.refl _) ⟨hri, fun _ _ _ h => h, fun h => by cases h⟩ ?_
 rintro ⟨r0, mo0⟩ ⟨hr0, hmono0, hfx0⟩
 dsimp only at hr0 hmono0 hfx0 ⊢
 cases mo0
 ·have hFx := hfx0 rfl
  refine W.s (.s (.r (.mv rfl rfl (.n (.h (.condF (.t rfl) (.ex (.he (.he (.bh ?_)))))))))); refine W.endn (M' := [.arr (.slice sa sn sc) 82 3 (r0.map Fit.ctv), .arr vr 83 1 es, .box p 86 [.lit (.pointer (some ⟨b, 0, none⟩)), .sl 1 (A.next.map pav), .sl 1 (A.final.map AV.bool), q3, .lit vr], .box b 76 [.sl 3 (ts.map tpv), .sl 2 (as_.map Au.avx), .sl 1 (sz.map AV.int)]]) (D := []) (rs := []) (avs := []) Tryz.results59 trivial rfl (.refl _) ?_
  exact ⟨rfl, r0, hr0, hFx, hmono0, rfl⟩
 ·skip
  refine W.s (.s (.r (.mv rfl rfl (.n (.h (.condT (.t rfl) (.k (.h (.b (.s (.r (.q (.assign .k) rfl (.n (.h (.s (.r (.mv rfl rfl (.q (.nilc (.t rfl)) rfl (.q (.fab (.t rfl) fa86_1) rfl (.q (.fab (.t rfl) fa62_0) rfl (.q (.ldb1 2 (.t rfl) rfl ag59 rfl) rfl (.q (.lensl (.t rfl) Tryz.underlying59) rfl (.q (.move .k) rfl ?_))))))))))))))))))))))); refine W.n (.h (.b ?_)); refine W.loop (D := []) (ι := Nat × List Fit.Ct × Bool) (fun z => [(16, true, .int (z.1 : Int)), (15, true, .int ((A.next.map pav).length : Int)), (14, true, .sl 1 (A.next.map pav)), (4, true, .bool z.2.2), (0, true, .lit (.pointer (some ⟨p, 0, none⟩))), (1, true, .int (k : Int))]) (fun z => [.arr (.slice sa sn sc) 82 3 (z.2.1.map Fit.ctv), .arr vr 83 1 es, .box p 86 [.lit (.pointer (some ⟨b, 0, none⟩)), .sl 1 (A.next.map pav), .sl 1 (A.final.map AV.bool), q3, .lit vr], .box b 76 [.sl 3 (ts.map tpv), .sl 2 (as_.map Au.avx), .sl 1 (sz.map AV.int)]]) (fun z => z.1 ≤ A.next.length ∧ Fit.FI A sz ks FB r0 z.1 0 z.2.1 z.2.2) (fun z => A.next.length - z.1) (0, r0, false) ⟨rfl, rfl, rfl, rfl, rfl, rfl, trivial⟩ (.refl _) ⟨Nat.zero_le _, .start hr0⟩ ?_
  rintro ⟨i, r1, mo1⟩ ⟨hi, hFI1⟩
  dsimp only at hi hFI1 ⊢
  rcases (show i < A.next.length ∨ i = A.next.length from by omega) with hlt | hend
  ·have hgr := getD_mapG pav [] A.next i hlt
   have hr8 := hsh.row i hlt
   have htr : ∀ m, Fit.tr A i m = (A.next.getD i []).getD m (-1) := fun m => rfl
   generalize A.next.getD i [] = rw_ at hgr hr8 htr
   have hrl : (rw_.map AV.int).length = 8 := by rw [List.length_map]; exact hr8
   refine W.s (.r (.q (.lti (.t rfl) (.t rfl)) rfl (.n (.h (.s ?_))))); refine W.isb 17 true rfl (by exact decide_eq_true (by omega)) ?_; refine W.condT (.t rfl) (.k (.h (.s (.b (.s (.r (.mv rfl rfl ?_))))))); refine W.q (.at (E := 22) (.t rfl) (.t rfl) Tryz.underlying59 ty22 (fun hg => ⟨by omega, hgr⟩) rfl rfl) rfl ?_; refine W.q (.lde1 (.t rfl) ag22) rfl (.asg rfl rfl (.asg rfl rfl (.n (.h (.s (.r (.mv rfl rfl (.q (.lensl (.t rfl) Tryz.underlying22) rfl (.q (.move .k) rfl (.n (.h (.b ?_)))))))))))); refine W.loop (D := []) (ι := Nat × List Fit.Ct × Bool) (fun z => [(23, true, .int (z.1 : Int)), (22, true, .int ((rw_.map AV.int).length : Int)), (21, true, .sl 1 (rw_.map AV.int)), (5, true, .int (i : Int)), (16, true, .int (i : Int)), (15, true, .int ((A.next.map pav).length : Int)), (14, true, .sl 1 (A.next.map pav)), (4, true, .bool z.2.2), (0, true, .lit (.pointer (some ⟨p, 0, none⟩))), (1, true, .int (k : Int))]) (fun z => [.arr (.slice sa sn sc) 82 3 (z.2.1.map Fit.ctv), .arr vr 83 1 es, .box p 86 [.lit (.pointer (some ⟨b, 0, none⟩)), .sl 1 (A.next.map pav), .sl 1 (A.final.map AV.bool), q3, .lit vr], .box b 76 [.sl 3 (ts.map tpv), .sl 2 (as_.map Au.avx), .sl 1 (sz.map AV.int)]]) (fun z => z.1 ≤ 8 ∧ Fit.FI A sz ks FB r0 i z.1 z.2.1 z.2.2) (fun z => 8 - z.1) (0, r1, mo1) ⟨rfl, rfl, rfl, rfl, rfl, rfl, rfl, rfl, rfl, rfl, trivial⟩ (.refl _) ⟨Nat.zero_le _, hFI1⟩ ?_
   rintro ⟨m, r, mo⟩ ⟨hm, hFI⟩
   dsimp only at hm hFI ⊢
   have hrlen : r.length = A.next.length := hFI.ri.len
   have hcl : (r.map Fit.ctv).length = A.next.length := by rw [List.length_map, hrlen]
   obtain ⟨to, hto⟩ : ∃ z, Fit.tr A i m = z := ⟨_, rfl⟩
   have hgm : m < 8 → (rw_.map AV.int)[m]? = some (AV.int to) := fun h => by rw [List.getElem?_map, ← hto, htr, List.getD_eq_getElem?_getD, List.getElem?_eq_getElem (show m < rw_.length by omega)]; rfl
   have htl : 0 ≤ to → to.toNat < A.next.length := fun h => by have := Fit.tr_lt hsh hlt (n := m) (by rw [hto]; exact h); rw [hto] at this; exact this.1
   obtain ⟨cc, hcc⟩ : ∃ c, r.getD to.toNat Fit.cz = c := ⟨_, rfl⟩
   have hgt0 : 0 ≤ to → (r.map Fit.ctv)[to.toNat]? = some (Fit.ctv cc) := fun h => by rw [← hcc]; exact Fit.getD_ctv r _ (by rw [hrlen]; exact htl h)
   rcases (show (m < 8 ∧ to < 0) ∨ (m < 8 ∧ 0 ≤ to ∧ cc.ok = false) ∨ (m < 8 ∧ 0 ≤ to ∧ cc.ok = true) ∨ m = 8 from by cases cc.ok <;> simp <;> omega) with ⟨hlm, hneg⟩ | ⟨hlm, hpos, hok⟩ | ⟨hlm, hpos, hok⟩ | hend
   ·have hgm := hgm hlm
    refine W.s (.r (.q (.lti (.t rfl) (.t rfl)) rfl (.n (.h (.s ?_))))); refine W.isb 24 true rfl (by exact decide_eq_true (by omega)) ?_; refine W.condT (.t rfl) (.k (.h (.s (.b (.s (.r (.mv rfl rfl ?_))))))); refine W.q (.at (E := 3) (.t rfl) (.t rfl) Tryz.underlying22 ty3 (fun hg => ⟨by omega, hgm⟩) rfl rfl) rfl ?_; refine W.q (.lde1 (.t rfl) ag3) rfl (.asg rfl rfl (.asg rfl rfl (.n (.h (.s ?_))))); refine W.drawnE (ι := Unit) (fun _ _ => [.arr (.slice sa sn sc) 82 3 (r.map Fit.ctv), .arr vr 83 1 es, .box p 86 [.lit (.pointer (some ⟨b, 0, none⟩)), .sl 1 (A.next.map pav), .sl 1 (A.final.map AV.bool), q3, .lit vr], .box b 76 [.sl 3 (ts.map tpv), .sl 2 (as_.map Au.avx), .sl 1 (sz.map AV.int)]]) 40 () (by kernel_rfl) (by kernel_rfl) rfl ?_; refine DE.q (fun e c hk => (.move (.t rfl))) rfl (fun _ _ => rfl) (.inr fun _ _ => rfl) ?_; refine DE.q (av := fun _ => .bool false) (fun e c_ hk_ => Ev.as_ (.gei (.t rfl) .k) (congrArg AV.bool (by exact decide_eq_false (by omega)))) rfl (fun _ _ => rfl) (.inr fun _ _ => rfl) ?_; refine DE.q (fun e c hk => (.move (.t rfl))) rfl (fun _ _ => rfl) (.inr fun _ _ => rfl) (.skipg rfl (fun _ => rfl) rfl rfl (fun _ _ => rfl) (.skipg rfl (fun _ => rfl) rfl rfl (fun _ _ => rfl) (.skipg rfl (fun _ => rfl) rfl rfl (fun _ _ => rfl) (.skipg rfl (fun _ => rfl) rfl rfl (fun _ _ => rfl) (.skipg rfl (fun _ => rfl) rfl rfl (fun _ _ => rfl) (.skipg rfl (fun _ => rfl) rfl rfl (fun _ _ => rfl) (.skipg rfl (fun _ => rfl) rfl rfl (fun _ _ => rfl) (.skipg rfl (fun _ => rfl) rfl rfl (fun _ _ => rfl) (.skipg rfl (fun _ => rfl) rfl rfl (fun _ _ => rfl) (.skipg rfl (fun _ => rfl) rfl rfl (fun _ _ => rfl) (.skipg rfl (fun _ => rfl) rfl rfl (fun _ _ => rfl) (.q (fun e c_ hk_ => Ev.andF (.t rfl)) rfl (fun _ _ => rfl) (.inr fun _ _ => rfl) (.q (fun e c hk => (.move (.t rfl))) rfl (fun _ _ => rfl) (.inr fun _ _ => rfl) (.skipg rfl (fun _ => rfl) rfl rfl (fun _ _ => rfl) (.skipg rfl (fun _ => rfl) rfl rfl (fun _ _ => rfl) (.skipg rfl (fun _ => rfl) rfl rfl (fun _ _ => rfl) (.skipg rfl (fun _ => rfl) rfl rfl (fun _ _ => rfl) (.skipg rfl (fun _ => rfl) rfl rfl (fun _ _ => rfl) (.skipg rfl (fun _ => rfl) rfl rfl (fun _ _ => rfl) (.skipg rfl (fun _ => rfl) rfl rfl (fun _ _ => rfl) (.skipg rfl (fun _ => rfl) rfl rfl (fun _ _ => rfl) (.skipg rfl (fun _ => rfl) rfl rfl (fun _ _ => rfl) (.skipg rfl (fun _ => rfl) rfl rfl (fun _ _ => rfl) ?_))))))))))))))))))))))); refine DE.skipg rfl (fun _ => rfl) rfl rfl (fun _ _ => rfl) (.skipg rfl (fun _ => rfl) rfl rfl (fun _ _ => rfl) (.skipg rfl (fun _ => rfl) rfl rfl (fun _ _ => rfl) (.skipg rfl (fun _ => rfl) rfl rfl (fun _ _ => rfl) (.skipg rfl (fun _ => rfl) rfl rfl (fun _ _ => rfl) (.skipg rfl (fun _ => rfl) rfl rfl (fun _ _ => rfl) (.skipg rfl (fun _ => rfl) rfl rfl (fun _ _ => rfl) (.skipg rfl (fun _ => rfl) rfl rfl (fun _ _ => rfl) (.skipg rfl (fun _ => rfl) rfl rfl (fun _ _ => rfl) ?_))))))))
    refine DE.skipg rfl (fun _ => rfl) rfl rfl (fun _ _ => rfl) ?_; refine DE.skipg rfl (fun _ => rfl) rfl rfl (fun _ _ => rfl) ?_; refine DE.skipg rfl (fun _ => rfl) rfl rfl (fun _ _ => rfl) ?_; refine DE.skipg rfl (fun _ => rfl) rfl rfl (fun _ _ => rfl) ?_; refine DE.q (fun e c_ hk_ => Ev.andF (.t rfl)) rfl (fun _ _ => rfl) (.inr fun _ _ => rfl) ?_; refine DE.nil (fun c_ e_ he_ => ?_)
    dsimp only
    refine W.h (.condF (.t rfl) (.k (.bn (.h (.r (.q (.add (.t rfl) .k (fun _ => by omega)) rfl ?_))))))
    refine W.q (.move (.t rfl)) rfl ?_; refine W.n ?_; refine W.h ?_; refine W.reach (D := []) (m + 1, r, mo) ⟨rfl, rfl, rfl, rfl, rfl, rfl, rfl, rfl, rfl, rfl, trivial⟩ (.refl _) ⟨⟨by omega, hFI.skip (fun h0 => by rw [hto] at h0; omega)⟩, by show 8 - (m + 1) < 8 - m; omega⟩
   ·have hgm := hgm hlm
    have htl := htl hpos
    have hgt := hgt0 hpos
    refine W.s (.r (.q (.lti (.t rfl) (.t rfl)) rfl (.n (.h (.s ?_))))); refine W.isb 24 true rfl (by exact decide_eq_true (by omega)) ?_; refine W.condT (.t rfl) (.k (.h (.s (.b (.s (.r (.mv rfl rfl ?_))))))); refine W.q (.at (E := 3) (.t rfl) (.t rfl) Tryz.underlying22 ty3 (fun hg => ⟨by omega, hgm⟩) rfl rfl) rfl ?_; refine W.q (.lde1 (.t rfl) ag3) rfl (.asg rfl rfl (.asg rfl rfl (.n (.h (.s ?_))))); refine W.drawnE (ι := Unit) (fun _ _ => [.arr (.slice sa sn sc) 82 3 (r.map Fit.ctv), .arr vr 83 1 es, .box p 86 [.lit (.pointer (some ⟨b, 0, none⟩)), .sl 1 (A.next.map pav), .sl 1 (A.final.map AV.bool), q3, .lit vr], .box b 76 [.sl 3 (ts.map tpv), .sl 2 (as_.map Au.avx), .sl 1 (sz.map AV.int)]]) 40 () (by kernel_rfl) (by kernel_rfl) rfl ?_; refine DE.q (fun e c hk => (.move (.t rfl))) rfl (fun _ _ => rfl) (.inr fun _ _ => rfl) ?_; refine DE.q (av := fun _ => .bool true) (fun e c_ hk_ => Ev.as_ (.gei (.t rfl) .k) (congrArg AV.bool (by exact decide_eq_true (by omega)))) rfl (fun _ _ => rfl) (.inr fun _ _ => rfl) ?_; refine DE.q (fun e c hk => (.move (.t rfl))) rfl (fun _ _ => rfl) (.inr fun _ _ => rfl) (.qy rfl (fun _ => rfl) (fun e c hk => (.move (.t rfl))) rfl (fun _ _ => rfl) (.inr fun _ _ => rfl) (.qy rfl (fun _ => rfl) (fun e c hk => (.nilc (.t rfl))) rfl (fun _ _ => rfl) (.inr fun _ _ => rfl) (.qy rfl (fun _ => rfl) (fun e c hk => (.fab (.t rfl) fa86_3)) rfl (fun _ _ => rfl) (.inr fun _ _ => rfl) (.qy rfl (fun _ => rfl) (fun e c hk => (.ldb1 2 (.t rfl) rfl ag84 rfl)) rfl (fun _ _ => rfl) (.inr fun _ _ => rfl) (.qy rfl (fun _ => rfl) (fun e c hk => (.move (.t rfl))) rfl (fun _ _ => rfl) (.inr fun _ _ => rfl) (.qy rfl (fun _ => rfl) (fun e c_ hk_ => Ev.ata 1 (.t rfl) rfl (.t rfl) Tryz.underlying84 ty83 (fun _ => by omega)) rfl (fun _ _ => rfl) (.inr fun _ _ => rfl) (.qy rfl (fun _ => rfl) (fun e c_ hk_ => Ev.lda1 1 k 0 (.t rfl) rfl hk (by omega) rfl rfl rfl ag83) rfl (fun _ _ => rfl) (.inr fun _ _ => rfl) (.qy rfl (fun _ => rfl) (fun e c hk => (.move (.t rfl))) rfl (fun _ _ => rfl) (.inr fun _ _ => rfl) (.qy rfl (fun _ => rfl) (fun e c_ hk_ => Ev.ata 0 (.t rfl) rfl (.t rfl) Tryz.underlying83 ty82 (fun _ => by omega)) rfl (fun _ _ => rfl) (.inr fun _ _ => rfl) (.qy rfl (fun _ => rfl) (fun e c hk => (.faa (.t rfl) fa82_1)) rfl (fun _ _ => rfl) (.inr fun _ _ => rfl) ?_))))))))))
    refine DE.qy (av := fun _ => .bool false) rfl (fun _ => rfl) (fun e c_ hk_ => Ev.as_ (.lda1 0 to.toNat 2 (.t rfl) rfl hgt (by omega) rfl rfl rfl ag4) (congrArg AV.bool (by exact hok))) rfl (fun _ _ => rfl) (.inr fun _ _ => rfl) ?_; refine DE.q (av := fun _ => .bool false) (fun e c_ hk_ => Ev.as_ (.and (.t rfl) ⟨_, _, rfl, rfl, fun _ _ => rfl⟩) (congrArg AV.bool (by rfl))) rfl (fun _ _ => rfl) (.inr fun _ _ => rfl) ?_; refine DE.q (fun e c hk => (.move (.t rfl))) rfl (fun _ _ => rfl) (.inr fun _ _ => rfl) ?_; refine DE.skipg rfl (fun _ => rfl) rfl rfl (fun _ _ => rfl) ?_; refine DE.skipg rfl (fun _ => rfl) rfl rfl (fun _ _ => rfl) ?_; refine DE.skipg rfl (fun _ => rfl) rfl rfl (fun _ _ => rfl) ?_; refine DE.skipg rfl (fun _ => rfl) rfl rfl (fun _ _ => rfl) ?_; refine DE.skipg rfl (fun _ => rfl) rfl rfl (fun _ _ => rfl) ?_; refine DE.skipg rfl (fun _ => rfl) rfl rfl (fun _ _ => rfl) ?_; refine DE.skipg rfl (fun _ => rfl) rfl rfl (fun _ _ => rfl) ?_; refine DE.skipg rfl (fun _ => rfl) rfl rfl (fun _ _ => rfl) ?_; refine DE.skipg rfl (fun _ => rfl) rfl rfl (fun _ _ => rfl) ?_; refine DE.skipg rfl (fun _ => rfl) rfl rfl (fun _ _ => rfl) ?_; refine DE.skipg rfl (fun _ => rfl) rfl rfl (fun _ _ => rfl) ?_; refine DE.skipg rfl (fun _ => rfl) rfl rfl (fun _ _ => rfl) ?_; refine DE.skipg rfl (fun _ => rfl) rfl rfl (fun _ _ => rfl) ?_; refine DE.skipg rfl (fun _ => rfl) rfl rfl (fun _ _ => rfl) ?_; refine DE.skipg rfl (fun _ => rfl) rfl rfl (fun _ _ => rfl) ?_; refine DE.skipg rfl (fun _ => rfl) rfl rfl (fun _ _ => rfl) ?_; refine DE.skipg rfl (fun _ => rfl) rfl rfl (fun _ _ => rfl) ?_; refine DE.skipg rfl (fun _ => rfl) rfl rfl (fun _ _ => rfl) ?_; refine DE.skipg rfl (fun _ => rfl) rfl rfl (fun _ _ => rfl) ?_; refine DE.skipg rfl (fun _ => rfl) rfl rfl (fun _ _ => rfl) ?_; refine DE.skipg rfl (fun _ => rfl) rfl rfl (fun _ _ => rfl) ?_; refine DE.skipg rfl (fun _ => rfl) rfl rfl (fun _ _ => rfl) ?_; refine DE.skipg rfl (fun _ => rfl) rfl rfl (fun _ _ => rfl) ?_; refine DE.q (fun e c_ hk_ => Ev.andF (.t rfl)) rfl (fun _ _ => rfl) (.inr fun _ _ => rfl) ?_; refine DE.nil (fun c_ e_ he_ => ?_)
    dsimp only
    refine W.h (.condF (.t rfl) (.k (.bn (.h (.r (.q (.add (.t rfl) .k (fun _ => by omega)) rfl ?_))))))
    refine W.q (.move (.t rfl)) rfl ?_; refine W.n ?_; refine W.h ?_; refine W.reach (D := []) (m + 1, r, mo) ⟨rfl, rfl, rfl, rfl, rfl, rfl, rfl, rfl, rfl, rfl, trivial⟩ (.refl _) ⟨⟨by omega, hFI.skip (fun _ => by rw [hto, hcc]; exact hok)⟩, by show 8 - (m + 1) < 8 - m; omega⟩
   ·have hgm := hgm hlm
    have htl := htl hpos
    have hgt := hgt0 hpos
    have hbd := hFI.ri.bnd hz (by omega) to.toNat htl (by rw [hcc]; exact hok)
    rw [hcc] at hbd
    have hzh := hz.hi i m (by rw [hto]; exact hpos)
    have hzl := hz.lo i m (by rw [hto]; exact hpos)
    have hml := hcol i m (by rw [hto]; exact hpos)
    have hFB := hFI.bet hz hsh (by omega) hlt (by rw [hto]; exact hpos) (by rw [hto, hcc]; exact hok)
    rw [hto, hcc] at hFB
    have hplus : FnP Tryz.prog 60 [.agg [.int cc.d, .int cc.f], .agg [.int 0, .int (sz.getD m 0)]] (.agg [.int cc.d, .int (cc.f + sz.getD m 0)]) := by have := WFSmall.c_plus cc.d cc.f 0 (sz.getD m 0) ⟨⟨by omega, by omega⟩, ⟨by omega, by omega⟩, ⟨by omega, by omega⟩, by omega, by omega⟩; rwa [Int.add_zero] at this
    refine W.s (.r (.q (.lti (.t rfl) (.t rfl)) rfl (.n (.h (.s ?_))))); refine W.isb 24 true rfl (by exact decide_eq_true (by omega)) ?_; refine W.condT (.t rfl) (.k (.h (.s (.b (.s (.r (.mv rfl rfl ?_))))))); refine W.q (.at (E := 3) (.t rfl) (.t rfl) Tryz.underlying22 ty3 (fun hg => ⟨by omega, hgm⟩) rfl rfl) rfl ?_; refine W.q (.lde1 (.t rfl) ag3) rfl (.asg rfl rfl (.asg rfl rfl (.n (.h (.s ?_))))); refine W.drawnE (ι := Unit) (fun ee _ => [.arr (.slice sa sn sc) 82 3 (bif ee 38 then ((Fit.betR r i cc.d (cc.f + sz.getD m 0)).map Fit.ctv) else (r.map Fit.ctv)), .arr vr 83 1 es, .box p 86 [.lit (.pointer (some ⟨b, 0, none⟩)), .sl 1 (A.next.map pav), .sl 1 (A.final.map AV.bool), q3, .lit vr], .box b 76 [.sl 3 (ts.map tpv), .sl 2 (as_.map Au.avx), .sl 1 (sz.map AV.int)]]) 38 () (by kernel_rfl) (by kernel_rfl) rfl ?_; refine DE.q (fun e c hk => (.move (.t rfl))) rfl (fun _ _ => rfl) (.inr fun _ _ => rfl) ?_; refine DE.q (av := fun _ => .bool true) (fun e c_ hk_ => Ev.as_ (.gei (.t rfl) .k) (congrArg AV.bool (by exact decide_eq_true (by omega)))) rfl (fun _ _ => rfl) (.inr fun _ _ => rfl) ?_; refine DE.q (fun e c hk => (.move (.t rfl))) rfl (fun _ _ => rfl) (.inr fun _ _ => rfl) (.qy rfl (fun _ => rfl) (fun e c hk => (.move (.t rfl))) rfl (fun _ _ => rfl) (.inr fun _ _ => rfl) (.qy rfl (fun _ => rfl) (fun e c hk => (.nilc (.t rfl))) rfl (fun _ _ => rfl) (.inr fun _ _ => rfl) (.qy rfl (fun _ => rfl) (fun e c hk => (.fab (.t rfl) fa86_3)) rfl (fun _ _ => rfl) (.inr fun _ _ => rfl) (.qy rfl (fun _ => rfl) (fun e c hk => (.ldb1 2 (.t rfl) rfl ag84 rfl)) rfl (fun _ _ => rfl) (.inr fun _ _ => rfl) (.qy rfl (fun _ => rfl) (fun e c hk => (.move (.t rfl))) rfl (fun _ _ => rfl) (.inr fun _ _ => rfl) (.qy rfl (fun _ => rfl) (fun e c_ hk_ => Ev.ata 1 (.t rfl) rfl (.t rfl) Tryz.underlying84 ty83 (fun _ => by omega)) rfl (fun _ _ => rfl) (.inr fun _ _ => rfl) (.qy rfl (fun _ => rfl) (fun e c_ hk_ => Ev.lda1 1 k 0 (.t rfl) rfl hk (by omega) rfl rfl rfl ag83) rfl (fun _ _ => rfl) (.inr fun _ _ => rfl) (.qy rfl (fun _ => rfl) (fun e c hk => (.move (.t rfl))) rfl (fun _ _ => rfl) (.inr fun _ _ => rfl) ?_)))))))); refine DE.qy rfl (fun _ => rfl) (fun e c_ hk_ => by have h_ := hk_.down 38 (by kernel_rfl); simp only [h_, cond_false]; exact Ev.ata 0 (.t rfl) rfl (.t rfl) Tryz.underlying83 ty82 (fun _ => by omega)) rfl (fun _ _ => rfl) (.inr fun _ _ => rfl) ?_; refine DE.qy rfl (fun _ => rfl) (fun e c hk => (.faa (.t rfl) fa82_1)) rfl (fun _ _ => rfl) (.inr fun _ _ => rfl) ?_; refine DE.qy (av := fun _ => .bool true) rfl (fun _ => rfl) (fun e c_ hk_ => by have h_ := hk_.down 38 (by kernel_rfl); simp only [h_, cond_false]; exact Ev.as_ (.lda1 0 to.toNat 2 (.t rfl) rfl hgt (by omega) rfl rfl rfl ag4) (congrArg AV.bool hok)) rfl (fun _ _ => rfl) (.inr fun _ _ => rfl) ?_; refine DE.q (av := fun _ => .bool true) (fun e c_ hk_ => Ev.as_ (.and (.t rfl) ⟨_, _, rfl, rfl, fun _ _ => rfl⟩) (congrArg AV.bool (by rfl))) rfl (fun _ _ => rfl) (.inr fun _ _ => rfl) ?_; refine DE.q (fun e c hk => (.move (.t rfl))) rfl (fun _ _ => rfl) (.inr fun _ _ => rfl) (.qy rfl (fun _ => rfl) (fun e c hk => (.move (.t rfl))) rfl (fun _ _ => rfl) (.inr fun _ _ => rfl) (.qy rfl (fun _ => rfl) (fun e c hk => (.move (.t rfl))) rfl (fun _ _ => rfl) (.inr fun _ _ => rfl) (.qy rfl (fun _ => rfl) (fun e c hk => (.move (.t rfl))) rfl (fun _ _ => rfl) (.inr fun _ _ => rfl) (.qy rfl (fun _ => rfl) (fun e c hk => (.move (.t rfl))) rfl (fun _ _ => rfl) (.inr fun _ _ => rfl) (.qy rfl (fun _ => rfl) (fun e c hk => (.nilc (.t rfl))) rfl (fun _ _ => rfl) (.inr fun _ _ => rfl) (.qy rfl (fun _ => rfl) (fun e c hk => (.fab (.t rfl) fa86_3)) rfl (fun _ _ => rfl) (.inr fun _ _ => rfl) (.qy rfl (fun _ => rfl) (fun e c hk => (.ldb1 2 (.t rfl) rfl ag84 rfl)) rfl (fun _ _ => rfl) (.inr fun _ _ => rfl) (.qy rfl (fun _ => rfl) (fun e c hk => (.move (.t rfl))) rfl (fun _ _ => rfl) (.inr fun _ _ => rfl) (.qy rfl (fun _ => rfl) (fun e c_ hk_ => Ev.ata 1 (.t rfl) rfl (.t rfl) Tryz.underlying84 ty83 (fun _ => by omega)) rfl (fun _ _ => rfl) (.inr fun _ _ => rfl) (.qy rfl (fun _ => rfl) (fun e c_ hk_ => Ev.lda1 1 k 0 (.t rfl) rfl hk (by omega) rfl rfl rfl ag83) rfl (fun _ _ => rfl) (.inr fun _ _ => rfl) (.qy rfl (fun _ => rfl) (fun e c hk => (.move (.t rfl))) rfl (fun _ _ => rfl) (.inr fun _ _ => rfl) ?_))))))))))); refine DE.qy rfl (fun _ => rfl) (fun e c_ hk_ => by have h_ := hk_.down 38 (by kernel_rfl); simp only [h_, cond_false]; exact Ev.ata 0 (.t rfl) rfl (.t rfl) Tryz.underlying83 ty82 (fun _ => by omega)) rfl (fun _ _ => rfl) (.inr fun _ _ => rfl) ?_; refine DE.qy rfl (fun _ => rfl) (fun e c hk => (.faa (.t rfl) fa82_0)) rfl (fun _ _ => rfl) (.inr fun _ _ => rfl) ?_; refine DE.qy rfl (fun _ => rfl) (fun e c_ hk_ => by have h_ := hk_.down 38 (by kernel_rfl); simp only [h_, cond_false]; exact Ev.ldap (n := 2) 0 to.toNat 0 (.t rfl) rfl hgt (by omega) rfl rfl rfl ag81 ty81) rfl (fun _ _ => rfl) (.inr fun _ _ => rfl) ?_; refine DE.qy rfl (fun _ => rfl) (fun e c hk => (.move (.t rfl))) rfl (fun _ _ => rfl) (.inr fun _ _ => rfl) (.qy rfl (fun _ => rfl) (fun e c hk => (.nilc (.t rfl))) rfl (fun _ _ => rfl) (.inr fun _ _ => rfl) (.qy rfl (fun _ => rfl) (fun e c hk => (.fab (.t rfl) fa86_0)) rfl (fun _ _ => rfl) (.inr fun _ _ => rfl) ?_))
    refine DE.qy rfl (fun _ => rfl) (fun e c_ hk_ => Ev.ldb1 2 (.t rfl) rfl ag71 rfl) rfl (fun _ _ => rfl) (.inr fun _ _ => rfl) ?_; refine DE.qy rfl (fun _ => rfl) (fun e c hk => (.move (.t rfl))) rfl (fun _ _ => rfl) (.inr fun _ _ => rfl) ?_; refine DE.callmy rfl (fun _ => rfl) (fun c => WFSmall.c_Size b ts as_ sz m hml) (fun e c => ⟨_, (List.perm_append_comm (l₁ := [_, _, _]) (l₂ := [_]))⟩) (fun c => ⟨(.t rfl), (.t rfl), trivial⟩) rfl (fun _ _ => rfl) (.inr fun _ _ => rfl) ?_; refine DE.qy rfl (fun _ => rfl) (fun e c hk => (.build ty81 st81 rfl (fun hg => ⟨_, _, _, rfl, .k, rfl, rfl, rfl, _, _, _, rfl, (.t rfl), rfl, rfl, rfl, rfl⟩))) rfl (fun _ _ => rfl) (.inr fun _ _ => rfl) ?_; refine DE.cally rfl (fun _ => rfl) (fun c => hplus) (fun c => ⟨(.t rfl), (.t rfl), trivial⟩) rfl (fun _ _ => rfl) (.inr fun _ _ => rfl) ?_; refine DE.effcg (av := fun _ => .bool (Fit.betB r i cc.d (cc.f + sz.getD m 0))) rfl (fun _ => rfl) rfl (.inr fun _ _ => rfl) (fun e c hk L_ hs Q h => ?_) ?_
    ·have hk_38 := hk.not
     simp only [addE, hk_38, Nat.reduceAdd, Nat.reduceEqDiff, ↓reduceIte, cond_true, cond_false] at h ⊢
     refine W.call (WFSmall.c_better p (.lit (.pointer (some ⟨b, 0, none⟩))) (.sl 1 (A.next.map pav)) (.sl 1 (A.final.map AV.bool)) q3 sa sn sc vr es r i k cc.d (cc.f + sz.getD m 0) (by omega) hkr) ⟨(.t (hs _ _ rfl)), (.t (hs _ _ rfl)), (.t (hs _ _ rfl)), (.t (hs _ _ rfl)), trivial⟩ (.refl _) rfl ?_
     rintro _ _ ⟨rfl, rfl⟩
     exact h
    refine DE.q (av := fun _ => .bool (Fit.betB r i cc.d (cc.f + sz.getD m 0))) (fun e c_ hk_ => Ev.as_ (.and (.t rfl) ⟨_, _, rfl, rfl, fun _ _ => rfl⟩) (congrArg AV.bool (by rfl))) rfl (fun _ _ => rfl) (.inr fun _ _ => rfl) ?_; refine DE.nil (fun c_ e_ he_ => ?_)
    simp only [he_ 38 (by decide), cond_true, cond_false]
    refine W.h ?_; refine W.cond (.t rfl) (fun hc_t67 => ?_) (fun hc_t67 => ?_)
    ·have hb1 : Fit.betB r i cc.d (cc.f + sz.getD m 0) = true := hc_t67
     rw [hb1] at hFB
     refine W.r (.q (.assign .k) rfl (.n (.bn (.h (.r (.q (.add (.t rfl) .k (fun _ => by omega)) rfl ?_))))))
     refine W.q (.move (.t rfl)) rfl ?_; refine W.n ?_; refine W.h ?_; refine W.reach (D := []) (m + 1, Fit.betR r i cc.d (cc.f + sz.getD m 0), true) ⟨rfl, rfl, rfl, rfl, rfl, rfl, rfl, rfl, rfl, rfl, trivial⟩ (.refl _) ⟨⟨by omega, hFB⟩, by show 8 - (m + 1) < 8 - m; omega⟩
    ·have hb1 : Fit.betB r i cc.d (cc.f + sz.getD m 0) = false := hc_t67
     rw [hb1] at hFB
     refine W.k (.bn (.h (.r (.q (.add (.t rfl) .k (fun _ => by omega)) rfl ?_))))
     refine W.q (.move (.t rfl)) rfl ?_; refine W.n ?_; refine W.h ?_; refine W.reach (D := []) (m + 1, Fit.betR r i cc.d (cc.f + sz.getD m 0), mo) ⟨rfl, rfl, rfl, rfl, rfl, rfl, rfl, rfl, rfl, rfl, trivial⟩ (.refl _) ⟨⟨by omega, hFB⟩, by show 8 - (m + 1) < 8 - m; omega⟩
   ·subst hend
    refine W.s (.r (.q (.lti (.t rfl) (.t rfl)) rfl (.n (.h (.s ?_))))); refine W.isb 24 false rfl (by exact decide_eq_false (by omega)) ?_; refine W.condF (.t rfl) (.ex (.he (.he (.bh (.bn (.h (.r (.q (.add (.t rfl) .k (fun _ => by omega)) rfl ?_))))))))
    refine W.q (.move (.t rfl)) rfl ?_; refine W.n ?_; refine W.h ?_; refine W.reach (D := []) (i + 1, r, mo) ⟨rfl, rfl, rfl, rfl, rfl, rfl, trivial⟩ (.refl _) ⟨⟨hlt, hFI.row hsh⟩, by show A.next.length - (i + 1) < A.next.length - i; omega⟩
  ·subst hend
   refine W.s (.r (.q (.lti (.t rfl) (.t rfl)) rfl (.n (.h (.s ?_))))); refine W.isb 17 false rfl (by exact decide_eq_false (by omega)) ?_; refine W.condF (.t rfl) (.ex (.he (.he (.bh (.bn (.h ?_))))))
   have hm2 : ∀ j d f, (row.getD j Fit.cz).Le d f → (r1.getD j Fit.cz).Le d f := fun j d f h => hFI1.mono j d f (hmono0 j d f h)
   refine W.reach (D := []) (r1, mo1) ⟨rfl, rfl, rfl, trivial⟩ (.refl _) ⟨⟨hFI1.ri, hm2, fun e => by subst e; exact hFI1.fin.2⟩, ?_⟩
   show (if mo1 = true then Fit.meas ks.length r1 + 1 else 0) < (if true = true then Fit.meas ks.length r0 + 1 else 0)
   rw [if_pos rfl]
   split
   ·rename_i h; have := hFI1.yes h; omega
   ·omega
end WFFill
end Go.Proofs.YtphlkdbglpcikaaGreatDoor
end
