/-
  Merged: Grd WIdx WToGo WMeas ShelfB Low Raw.
-/
import Derived.Test.YtphlkdbglpcikaaGreatDoorG5
import Derived.Below
import Derived.Lib.Join
import Derived.Sort.OwnSortedInts
import Derived.Lib.LaidTab
import Derived.Lib.ItoaNum
set_option linter.unusedVariables false
set_option linter.unusedSimpArgs false
set_option maxRecDepth 100000

section
namespace Go.Vl
section
variable {x : Cx} {ops : Array Oper} {L : List En} {M : List ME} {R : Act → World → Prop} {rest : List Oper} {ty : TypeId} {pos : String} {aft : Array Edge} {i i0 : Nat}
theorem stepE_w {d : Option Tmp} {op : Op} {g : Option (Nat × Bool)} {a : Act} {w : World} {K : Act → World → Prop} (hw : Region.wanted ⟨d, op, ty, pos, aft, g⟩ (yielded ops a.tmps) = true) (h : wpList x.P ops (fun e a w => e = .normal ∧ K a w) [⟨d, op, ty, pos, aft, none⟩] a w) : stepE x ops ⟨d, op, ty, pos, aft, g⟩ a w K := by
 have h2 := stepE_of (o := ⟨d, op, ty, pos, aft, none⟩) rfl h
 intro Q
 have h3 := h2 Q
 rw [if_pos (by rfl)] at h3
 rw [if_pos hw]
 exact h3
theorem DE.effcg {ι : Type} {Mf : (Nat → Bool) → ι → List ME} {done : ι → List En} {op : Op} {d : Tmp} {av : ι → AV} {j : Nat} {t : Tmp} {want : Bool} (hj : (ops[j]?).bind (·.dst) = some t)
 (hl : ∀ c, Vl.look (sel (Oper.looksAt ops ⟨some d, op, ty, pos, aft, some (j, want)⟩) (done c ++ L)) t = some (true, .lit (.bool want))) (hdn : Nat.blt d x.n = true) (hi : anc ops i0 i = true ∨ ∀ c c', av c = av c')
 (hW : ∀ e c, OkE ops e i → ∀ L', (∀ t p, Vl.look (sel (Oper.looksAt ops ⟨some d, op, ty, pos, aft, some (j, want)⟩) (done c ++ L)) t = some p → Vl.look L' t = some p) → ∀ Q : Exit → Act → World → Prop,
  W x ((d, true, av c) :: L') (Mf (addE e i) c) (wpList x.P ops Q []) → W x L' (Mf e c) (wpList x.P ops Q [⟨some d, op, ty, pos, aft, none⟩]))
 (next : DE x ops L Mf i0 R (i + 1) rest (fun c => (d, true, av c) :: done c)) : DE x ops L Mf i0 R i (⟨some d, op, ty, pos, aft, some (j, want)⟩ :: rest) done := by
 refine ⟨fun c => (d, true, av c), fun c => ⟨rfl, hdn⟩, .inr (hi.imp id fun h c c' => congrArg (fun a => (d, true, a)) (h c c')), ?_, next⟩
 intro e c hk L' a w hsub hs
 have hw := guard_of (d := some d) (op := op) (ty := ty) (pos := pos) (aft := aft) (want := want) hj (hsub _ _ (hl c)) hs
 refine stepE_w (by rw [hw]; cases want <;> rfl) ?_
 refine hW e c hk L' hsub _ ?_ a w hs
 exact fun a' w' hs' => ⟨rfl, c, .inr rfl, hs'⟩
theorem DE.skipg {ι : Type} {Mf : (Nat → Bool) → ι → List ME} {done : ι → List En} {op : Op} {d : Tmp} {j : Nat} {t : Tmp} {b want : Bool} (hj : (ops[j]?).bind (·.dst) = some t)
 (hl : ∀ c, Vl.look (sel (Oper.looksAt ops ⟨some d, op, ty, pos, aft, some (j, want)⟩) (done c ++ L)) t = some (true, .lit (.bool b))) (hb : (b == want) = false) (hdn : Nat.blt d x.n = true) (hMf : ∀ e c, Mf (addE e i) c = Mf e c)
 (next : DE x ops L Mf i0 R (i + 1) rest (fun c => (d, false, .lit undef) :: done c)) : DE x ops L Mf i0 R i (⟨some d, op, ty, pos, aft, some (j, want)⟩ :: rest) done :=
 DE.pure (av := fun _ => .lit undef) rfl hdn (fun c => .inr ⟨j, want, t, true, b, rfl, hj, hl c, by rw [hb]; rfl⟩) (fun e c _ hf => by cases hf) hMf (.inr fun _ _ => rfl) next
theorem DE.qy {ι : Type} {Mf : (Nat → Bool) → ι → List ME} {done : ι → List En} {d : Tmp} {op : Op} {av : ι → AV} {j : Nat} {t : Tmp} {want : Bool} (hj : (ops[j]?).bind (·.dst) = some t) (hl : ∀ c, Vl.look (sel (Oper.looksAt ops ⟨some d, op, ty, pos, aft, some (j, want)⟩) (done c ++ L)) t = some (true, .lit (.bool want)))
 (he : ∀ e c, OkE ops e i → Ev x true (sel (Oper.looksAt ops ⟨some d, op, ty, pos, aft, some (j, want)⟩) (done c ++ L)) (Mf e c) op ty (av c)) (hdn : Nat.blt d x.n = true)
 (hMf : ∀ e c, Mf (addE e i) c = Mf e c) (hi : anc ops i0 i = true ∨ ∀ c c', av c = av c') (next : DE x ops L Mf i0 R (i + 1) rest (fun c => (d, true, av c) :: done c)) :
 DE x ops L Mf i0 R i (⟨some d, op, ty, pos, aft, some (j, want)⟩ :: rest) done := DE.pure rfl hdn (fun c => .inr ⟨j, want, t, true, want, rfl, hj, hl c, by cases want <;> rfl⟩) (fun e c hk hb => Sv.ev (he e c hk)) hMf hi next
theorem DE.cally {ι : Type} {Mf : (Nat → Bool) → ι → List ME} {done : ι → List En} {f : FuncId} {d : Tmp} {os : List Operand} {ats : Array TypeId} {avs : ι → List AV} {r : ι → AV} {j : Nat} {t : Tmp} {want : Bool} (hj : (ops[j]?).bind (·.dst) = some t)
 (hl : ∀ c, Vl.look (sel (Oper.looksAt ops ⟨some d, .call ⟨.value (.func f), os.toArray, ats⟩, ty, pos, aft, some (j, want)⟩) (done c ++ L)) t = some (true, .lit (.bool want)))
 (hc : ∀ c, FnP x.P f (avs c) (r c)) (ha : ∀ c, ArgsOv (sel (Oper.looksAt ops ⟨some d, .call ⟨.value (.func f), os.toArray, ats⟩, ty, pos, aft, some (j, want)⟩) (done c ++ L)) os (avs c)) (hdn : Nat.blt d x.n = true)
 (hMf : ∀ e c, Mf (addE e i) c = Mf e c) (hi : anc ops i0 i = true ∨ ∀ c c', r c = r c') (next : DE x ops L Mf i0 R (i + 1) rest (fun c => (d, true, r c) :: done c)) :
 DE x ops L Mf i0 R i (⟨some d, .call ⟨.value (.func f), os.toArray, ats⟩, ty, pos, aft, some (j, want)⟩ :: rest) done :=
 DE.pure rfl hdn (fun c => .inr ⟨j, want, t, true, want, rfl, hj, hl c, by cases want <;> rfl⟩) (fun e c _ hb => Sv.callp (hc c) (ha c)) hMf hi next
theorem DE.callmy {ι : Type} {Mf : (Nat → Bool) → ι → List ME} {done : ι → List En} {f : FuncId} {d : Tmp} {os : List Operand} {ats : Array TypeId} {avs : ι → List AV} {r : ι → AV} {Mc : List ME} {j : Nat} {t : Tmp} {want : Bool} (hj : (ops[j]?).bind (·.dst) = some t)
 (hl : ∀ c, Vl.look (sel (Oper.looksAt ops ⟨some d, .call ⟨.value (.func f), os.toArray, ats⟩, ty, pos, aft, some (j, want)⟩) (done c ++ L)) t = some (true, .lit (.bool want)))
 (hc : ∀ c, FnC x.P f (avs c) Mc (fun r' M' => r' = r c ∧ M' = Mc)) (hp : ∀ e c, ∃ Mr, List.Perm (Mf e c) (Mc ++ Mr))
 (ha : ∀ c, ArgsOv (sel (Oper.looksAt ops ⟨some d, .call ⟨.value (.func f), os.toArray, ats⟩, ty, pos, aft, some (j, want)⟩) (done c ++ L)) os (avs c)) (hdn : Nat.blt d x.n = true)
 (hMf : ∀ e c, Mf (addE e i) c = Mf e c) (hi : anc ops i0 i = true ∨ ∀ c c', r c = r c') (next : DE x ops L Mf i0 R (i + 1) rest (fun c => (d, true, r c) :: done c)) :
 DE x ops L Mf i0 R i (⟨some d, .call ⟨.value (.func f), os.toArray, ats⟩, ty, pos, aft, some (j, want)⟩ :: rest) done :=
 DE.pure rfl hdn (fun c => .inr ⟨j, want, t, true, want, rfl, hj, hl c, by cases want <;> rfl⟩) (fun e c _ _ => by obtain ⟨Mr, h⟩ := hp e c; exact Sv.callm (hc c) h (ha c)) hMf hi next
end
section
variable {x : Cx} {L : List En} {M : List ME} {ty : TypeId} {g : Bool} {T T' : TypeId} {o1 o2 : Operand}
theorem Ev.as_ {op : Op} {av av' : AV} (h : Ev x g L M op ty av) (e : av = av') : Ev x g L M op ty av' := e ▸ h
theorem Ev.andF {c t : Operand} (h1 : Ov g L c (.lit (.bool false))) : Ev x g L M (.pick c t (.const (.bool false))) ty (.lit (.bool false)) := Ev.pure fun a w hs hg => by
 have e1 := h1.lit hg hs
 simp only [execOp, e1, asBool, Sem.run_bind, Sem.run_pure, Result.andThen_ok]
 rfl
theorem Ev.orT {c t : Operand} (h1 : Ov g L c (.lit (.bool true))) : Ev x g L M (.pick c (.const (.bool true)) t) ty (.lit (.bool true)) := Ev.pure fun a w hs hg => by
 have e1 := h1.lit hg hs
 simp only [execOp, e1, asBool, Sem.run_bind, Sem.run_pure, Result.andThen_ok]
 rfl
theorem Ev.nilca {v : Value} {j : Nat} (h1 : Ov g L o1 (.aptr v j)) : Ev x g L M (.nilCheck o1) ty (.aptr v j) := fun ac w hs hg => by
 have hr := h1.rep hg hs
 obtain ⟨gb, off, n, cap, hv, ep⟩ := hr.aptr_inv
 exact ⟨.pointer (some ⟨gb, off + j, none⟩), by simp [execOp, ep], by rw [← ep]; exact hr⟩
theorem Ev.ldap (i q o : Nat) {v : Value} {U k j n bytes : Nat} {z : Value} {es : List AV} {e : AV} (h1 : Ov g L o1 (.aptr v j)) (hM : M[i]? = some (ME.arr v U k es)) (hq : es[q]? = some e) (hj : j = q * k + o) (ho : e.okc = true) (hke : e.cells.length = k) (hon : Nat.ble (o + n) k = true) (hT : IsAgg x.P T true) (hk : Ty x.P T n bytes z) : Ev x g L M (.load T o1) ty (.agg ((e.cells.drop o).take n)) := fun a w hs hg => by
 obtain ⟨gb, off, cap, cur, lo, hi, hv, hcur, hsz, _, hlc, _, hrE⟩ := arr_at hs hM hq
 obtain ⟨g2, off2, n2, cap2, hv2, ep⟩ := (h1.rep hg hs).aptr_inv
 rw [hv] at hv2
 cases hv2
 obtain ⟨h3, h4⟩ := hrE.get hq
 subst hj
 have hon' := Nat.le_of_ble_eq_true hon
 have hlt : q < es.length := by
  rcases Nat.lt_or_ge q es.length with h' | h'
  ·exact h'
  ·rw [List.getElem?_eq_none h'] at hq; cases hq
 have hle : (q + 1) * k ≤ cap * k := Nat.mul_le_mul_right _ (by omega)
 rw [Nat.add_mul, Nat.one_mul] at hle
 refine ⟨_, run_loadn hT hk hcur (by omega) ep, rfl, ?_⟩
 have h5 := ((RepC.cells ho h4).drop o).take n
 rw [List.drop_take, List.drop_drop, List.drop_drop, List.take_take, Nat.min_eq_left (by omega)] at h5
 simpa only [RepC, Value.cells] using h5
def Int2 (P : Program) (T : TypeId) : Prop := ∃ f1 f2 : Field, P.underlying T = some (.struct (P.fieldsOf T)) ∧ (P.fieldsOf T).toList = [f1, f2] ∧ P.stoodInHeld T = false ∧ P.eqGuardType P.depth T = false ∧
 f1.name ≠ "_" ∧ f2.name ≠ "_" ∧ f1.offset = 0 ∧ f2.offset = 1 ∧ P.underlying f1.type = some (.int .i64) ∧ P.underlying f2.type = some (.int .i64)
theorem Int2.of {P : Program} {T : TypeId} {f1 f2 : Field} (hU : P.underlying T = some (.struct #[f1, f2])) (hp : P.stoodInHeld T = false) (hm : P.eqGuardType P.depth T = false) (n1 : f1.name ≠ "_") (n2 : f2.name ≠ "_") (k1 : f1.offset = 0) (k2 : f2.offset = 1)
 (u1 : P.underlying f1.type = some (.int .i64)) (u2 : P.underlying f2.type = some (.int .i64)) : Int2 P T := by
 have h : P.fieldsOf T = #[f1, f2] := by rw [Program.fieldsOf, hU]
 exact ⟨f1, f2, by rw [h, hU], by rw [h], hp, hm, n1, n2, k1, k2, u1, u2⟩
theorem Rep.int2 {w : World} {N : List Nat} {a b : Int} {v : Value} (h : Rep w N (.agg [.int a, .int b]) v) : v = .agg #[.int .i64 a, .int .i64 b] := by
 obtain ⟨h1, h2⟩ := h
 cases v <;> simp [AV.sh, shV] at h1
 simp only [RepC, RepL] at h2
 rename_i cells
 obtain ⟨v1, vs1, e1, ⟨_, _, r1⟩, v2, vs2, e2, ⟨_, _, r2⟩, e3⟩ := h2
 subst e3
 subst e2
 obtain rfl := List.cons.inj r1 |>.1
 obtain rfl := List.cons.inj r2 |>.1
 congr 1
 exact Array.toList_inj.1 (by simpa [Value.cells] using e1)
theorem run_part_int {P : Program} {T : TypeId} {w : World} {cs : Array Value} {o : Nat} {v : Value} (hT : P.underlying T = some (.int .i64)) (hv : cs[o]? = some v) : (part T cs o).run P w = .ok v w := by
 have := IsAgg.run (P := P) (T := T) (b := false) ⟨_, hT, rfl⟩ w
 simp [part, this, hv]
theorem run_int2 {P : Program} {w : World} (n : Nat) {T : TypeId} {a b c d : Int} (hS : Int2 P T) : (Op.equalIn (n + 2) T (.agg #[.int .i64 a, .int .i64 b]) (.agg #[.int .i64 c, .int .i64 d])).run P w = .ok (a == c && b == d) w := by
 obtain ⟨f1, f2, hT, hf, hp, hm, n1, n2, k1, k2, u1, u2⟩ := hS
 rw [run_equalIn_agg w (n + 1) T _ _ hT hp, hf]
 have p1 : ∀ s t : Value, (part f1.type #[s, t] f1.offset).run P w = .ok s w := fun s t => run_part_int u1 (by rw [k1]; rfl)
 have p2 : ∀ s t : Value, (part f2.type #[s, t] f2.offset).run P w = .ok t w := fun s t => run_part_int u2 (by rw [k2]; rfl)
 simp only [Op.eqFields]
 rw [if_pos n1, if_pos n2]
 simp only [Sem.run_bind, p1, p2, Result.andThen_ok, run_equalIn_int w n _ _ _ _ _ u1]
 cases h : (a == c)
 ·simp [h]
 ·simp [h, p1, p2, run_equalIn_int w n _ _ _ _ _ u2]
  by_cases h' : b = d <;> simp [h']
theorem Ev.nei2 {a b c d : Int} (hS : Int2 x.P T) (h1 : Ov g L o1 (.agg [.int a, .int b])) (h2 : Ov g L o2 (.agg [.int c, .int d])) :
 Ev x g L M (.binOp .neq T o1 o2 T') ty (.lit (.bool (!(a == c && b == d)))) := Ev.pure fun ac w hs hg => by
 have e1 := (h1.rep hg hs).int2
 have e2 := (h2.rep hg hs).int2
 obtain ⟨f1, f2, hT, hf, hp, hm, n1, n2, k1, k2, u1, u2⟩ := hS
 simp only [execOp, e1, e2, Sem.run_bind, run_eqGuard_agg w .neq T o1 o2 _ _ hm, Result.andThen_ok, run_neq_struct, run_int2 9998 ⟨f1, f2, hT, hf, hp, hm, n1, n2, k1, k2, u1, u2⟩]
 simp
theorem Ev.eqi2 {a b c d : Int} (hS : Int2 x.P T) (h1 : Ov g L o1 (.agg [.int a, .int b])) (h2 : Ov g L o2 (.agg [.int c, .int d])) :
 Ev x g L M (.binOp .eql T o1 o2 T') ty (.lit (.bool (a == c && b == d))) := Ev.pure fun ac w hs hg => by
 have e1 := (h1.rep hg hs).int2
 have e2 := (h2.rep hg hs).int2
 obtain ⟨f1, f2, hT, hf, hp, hm, n1, n2, k1, k2, u1, u2⟩ := hS
 simp only [execOp, e1, e2, Sem.run_bind, run_eqGuard_agg w .eql T o1 o2 _ _ hm, Result.andThen_ok, run_eql_struct, run_int2 9998 ⟨f1, f2, hT, hf, hp, hm, n1, n2, k1, k2, u1, u2⟩]
 simp
end
end Go.Vl
end
section
namespace Go.Proofs.YtphlkdbglpcikaaGreatDoor
open Go.Vl
open Y
namespace WIdx
theorem c_Index1 (u : Tp) (nm : List UInt8) (b3 : Nat) : FnC Tryz.prog 117 [tpv u, .lit (.pointer (some ⟨b3, 0, none⟩))] [.box b3 9 [.str nm]] (fun r M => r = .bool (u.name == nm) ∧ M = [.box b3 9 [.str nm]]) :=  by
 refine FnC.mk Tryz.func117 (by kernel_rfl) rfl Tryz.ntmps117 rfl (fun w0 F => ?_)
 refine W.s ?_; refine W.r ?_; refine W.box (.t rfl) rfl rfl ?_; intro b2; refine W.q (.assign .k) rfl ?_; refine W.n ?_; refine W.h ?_; refine W.s ?_; refine W.r ?_
 refine W.q (.fab (.t rfl) fa28_0) rfl (.q (.ldb1 0 (.t rfl) rfl ag9 rfl) rfl (.q (.ldb1 1 (.t rfl) rfl ag9 rfl) rfl (.q (.eqs (.t rfl) (.t rfl)) rfl (.asg rfl rfl (.n (.h ?_)))))); refine W.ret ?_; refine W.retn (M' := [.box b3 9 [.str nm]]) (D := [_]) (rs := [.tmp 3]) (avs := [_]) Tryz.results117 ⟨rfl, trivial⟩ rfl (List.Perm.swap _ _ []) ?_
 exact ⟨rfl, rfl⟩
theorem c_Index (b : Nat) (ts : List Tp) (as_ : List Au) (sz : List Int) (hts : ts.length ≤ 100) (nm : List UInt8) : FnC Tryz.prog 97 [.lit (.pointer (some ⟨b, 0, none⟩)), .str nm] [.box b 76 [.sl 3 (ts.map tpv), .sl 2 (as_.map Au.avx), .sl 1 (sz.map AV.int)]] (fun r M => r = .int (Sch.idxT ts nm) ∧ M = [.box b 76 [.sl 3 (ts.map tpv), .sl 2 (as_.map Au.avx), .sl 1 (sz.map AV.int)]]) :=  by
 refine FnC.mk Tryz.func97 (by kernel_rfl) rfl Tryz.ntmps97 rfl (fun w0 F => ?_)
 refine W.s ?_; refine W.r ?_; refine W.box (.t rfl) rfl rfl ?_; intro b3; refine W.q (.assign .k) rfl ?_; refine W.n ?_; refine W.h ?_; refine W.s ?_; refine W.r ?_; refine W.q (.move (.t rfl)) rfl ?_; refine W.q (.nilc (.t rfl)) rfl ?_
 refine W.q (.fab (.t rfl) fa76_0) rfl (.q (.ldb1 1 (.t rfl) rfl ag23 rfl) rfl ?_); refine W.q (.mkfn (caps := [.tmp 3]) (vs := [_]) ⟨(.t rfl), trivial⟩) rfl ?_; refine W.call (WSLib.c_IndexFuncY ts 117 [.pointer (some ⟨b3, 0, none⟩)] [.box b3 9 [.str nm]] (fun u => u.name == nm) (fun u _ => c_Index1 u nm b3) (by omega)) ⟨(.t rfl), (.t rfl), trivial⟩ (.refl _) rfl ?_
 rintro _ _ ⟨rfl, rfl⟩
 refine W.asg rfl rfl (.n (.h ?_)); refine W.ret ?_; refine W.retn (M' := [.box b 76 [.sl 3 (ts.map tpv), .sl 2 (as_.map Au.avx), .sl 1 (sz.map AV.int)]]) (D := [_]) (rs := [.tmp 4]) (avs := [_]) Tryz.results97 ⟨rfl, trivial⟩ rfl (List.Perm.swap _ _ []) ?_
 exact ⟨rfl, rfl⟩
set_option maxHeartbeats 4000000 in
theorem c_faultX (b : Nat) (ts : List Tp) (as_ : List Au) (sz : List Int) (hal : as_.length = ts.length) (hts : ts.length ≤ 8) (hsh : ∀ A ∈ as_, A.Shape) (f : Nat) (d : Nd) (t : Nat) (e : Int) (hd : Sch.faultN ts as_ (f + 1) d t = some e) (hta : ∀ i, (ts.getD i Sch.dT).attrs.length ≤ 1000) (IH : ∀ (p : Nd) (k : Nat) (g : Int), Sch.faultN ts as_ f p k = some g → FnC Tryz.prog 61 [.lit (.pointer (some ⟨b, 0, none⟩)), Nd.avx (p), .int (k : Int)] [.box b 76 [.sl 3 (ts.map tpv), .sl 2 (as_.map Au.avx), .sl 1 (sz.map AV.int)]] (fun r M => r = .int (g) ∧ M = [.box b 76 [.sl 3 (ts.map tpv), .sl 2 (as_.map Au.avx), .sl 1 (sz.map AV.int)]])) : FnC Tryz.prog 61 [.lit (.pointer (some ⟨b, 0, none⟩)), Nd.avx (d), .int (t : Int)] [.box b 76 [.sl 3 (ts.map tpv), .sl 2 (as_.map Au.avx), .sl 1 (sz.map AV.int)]] (fun r M => r = .int (e) ∧ M = [.box b 76 [.sl 3 (ts.map tpv), .sl 2 (as_.map Au.avx), .sl 1 (sz.map AV.int)]]) :=  by
 refine FnC.mk Tryz.func61 (by kernel_rfl) rfl Tryz.ntmps61 rfl (fun w0 F => ?_)
 obtain ⟨nm, at_, tx, ps⟩ := d
 rw [Sch.faultN_mk] at hd
 have hbn : ¬ (ts.length ≤ t ∨ 1000 < ps.length ∨ 1000 < at_.length) := fun h => by rw [if_pos h] at hd; cases hd
 rw [if_neg hbn] at hd
 have htl : t < ts.length := by omega
 have hpl : ps.length ≤ 1000 := by omega
 have hal2 : at_.length ≤ 1000 := by omega
 have hnt : (ts.map tpv).length = ts.length := List.length_map ..
 have hna : (as_.map Au.avx).length = as_.length := List.length_map ..
 have hgt := getD_mapG tpv Sch.dT ts t htl
 have htaa := hta t
 have hgA := getD_mapG Au.avx Sch.dA as_ t (by omega)
 have hAs := hsh _ (getD_memG Sch.dA as_ t (by omega))
 generalize as_.getD t Sch.dA = A at hgA hAs hd
 have hrg := Sch.runP_rng hAs
 obtain ⟨tat, htat⟩ : ∃ q, (ts.getD t Sch.dT).attrs = q := ⟨_, rfl⟩
 have hpm : (ps.map Nd.av).length = ps.length := List.length_map ..
 have ham : (at_.map dav).length = at_.length := List.length_map ..
 refine W.s ?_; refine W.r ?_; refine W.box (.t rfl) rfl rfl ?_; intro b4; refine W.q (.assign .k) rfl ?_; refine W.n ?_; refine W.h ?_; refine W.s ?_; refine W.s ?_; refine W.r ?_
 refine W.q (.fab (.t rfl) fa35_0) rfl (.q (.ldb1 0 (.t rfl) rfl ag9 rfl) rfl ?_)
 refine W.q (.eqs (.t rfl) .k) rfl ?_; refine W.n ?_; refine W.h ?_; refine W.cond (.t rfl) (fun hc_t20 => ?_) (fun hc_t20 => ?_)
 ·have h20 : nm = [] := eq_of_beq hc_t20
  rw [if_pos h20] at hd
  refine W.s (.s (.r (.q (.fab (.t rfl) fa35_1) rfl (.q (.ldb1 0 (.t rfl) rfl ag32 rfl) rfl (.q (.lensl (.t rfl) Tryz.underlying32) rfl (.q (.gti (.t rfl) .k) rfl (.mv rfl rfl (.qgF rfl rfl (.fab (.t rfl) fa35_3) rfl (.qgF rfl rfl (.ldb1 0 (.c rfl) rfl ag33 rfl) rfl (.qgF rfl rfl (.lensl (.c rfl) Tryz.underlying33) rfl (.qgF rfl rfl (.gti (.c rfl) .k) rfl ?_))))))))))); refine W.q (.or (.t rfl) ⟨_, _, rfl, rfl, by ((simp; done))⟩) rfl ?_; refine W.mv rfl rfl (.qgF rfl rfl (.fab (.t rfl) fa35_2) rfl (.qgF rfl rfl (.ldb1 0 (.c rfl) rfl ag9 rfl) rfl ?_))
  refine W.qgF rfl rfl (.eqs (.c rfl) .k) rfl ?_; refine W.q (.or (.t rfl) ⟨_, _, rfl, rfl, by ((simp; done))⟩) rfl ?_; refine W.n ?_; refine W.h ?_; refine W.cond (.t rfl) (fun hc_t35 => ?_) (fun hc_t35 => ?_)
  ·have h35 : at_ ≠ [] ∨ ps ≠ [] ∨ tx = [] := by clear hd hgA hrg hgt htat IH; revert hc_t35; cases at_ <;> cases ps <;> cases tx <;> simp [Nd.attrs, Nd.parts, Nd.text] <;> omega
   rw [if_pos h35] at hd
   refine W.s (.r (.q (.assign .k) rfl (.n (.h ?_)))); refine W.ret ?_; refine W.hr (.hr ?_); refine W.retn (M' := [.box b 76 [.sl 3 (ts.map tpv), .sl 2 (as_.map Au.avx), .sl 1 (sz.map AV.int)]]) (D := [_]) (rs := [.tmp 6]) (avs := [_]) Tryz.results61 ⟨rfl, trivial⟩ rfl (by (exact List.Perm.swap _ _ [])) ?_
   obtain rfl := Option.some.inj hd
   exact ⟨rfl, rfl⟩
  ·have h35 : ¬ (at_ ≠ [] ∨ ps ≠ [] ∨ tx = []) := by clear hd hgA hrg hgt htat IH; revert hc_t35; cases at_ <;> cases ps <;> cases tx <;> simp [Nd.attrs, Nd.parts, Nd.text] <;> omega
   rw [if_neg h35] at hd
   refine W.k (.h (.s (.r (.q (.assign .k) rfl (.n (.h ?_)))))); refine W.ret ?_; refine W.hr ?_; refine W.retn (M' := [.box b 76 [.sl 3 (ts.map tpv), .sl 2 (as_.map Au.avx), .sl 1 (sz.map AV.int)]]) (D := [_]) (rs := [.tmp 6]) (avs := [_]) Tryz.results61 ⟨rfl, trivial⟩ rfl (by (exact List.Perm.swap _ _ [])) ?_
   obtain rfl := Option.some.inj hd
   exact ⟨rfl, rfl⟩
 ·have h20 : ¬ nm = [] := beq_eq_false_iff_ne.1 hc_t20
  rw [if_neg h20] at hd
  refine W.k (.h (.s (.s (.r (.q (.fab (.t rfl) fa35_2) rfl (.q (.ldb1 0 (.t rfl) rfl ag9 rfl) rfl ?_))))))
  refine W.q (.nes (.t rfl) .k) rfl ?_; refine W.n ?_; refine W.h ?_; refine W.cond (.t rfl) (fun hc_t38 => ?_) (fun hc_t38 => ?_)
  ·have h38 : tx ≠ [] := by intro h; subst h; cases hc_t38
   rw [if_pos h38] at hd
   refine W.s (.r (.q (.assign .k) rfl (.n (.h ?_)))); refine W.ret ?_; refine W.hr ?_; refine W.retn (M' := [.box b 76 [.sl 3 (ts.map tpv), .sl 2 (as_.map Au.avx), .sl 1 (sz.map AV.int)]]) (D := [_]) (rs := [.tmp 6]) (avs := [_]) Tryz.results61 ⟨rfl, trivial⟩ rfl (by (exact List.Perm.swap _ _ [])) ?_
   obtain rfl := Option.some.inj hd
   exact ⟨rfl, rfl⟩
  ·have h38 : ¬ tx ≠ [] := by intro h; apply h; simpa [Nd.text] using hc_t38
   rw [if_neg h38] at hd
   refine W.k (.h (.s (.s (.r (.q (.fab (.t rfl) fa35_1) rfl (.q (.ldb1 0 (.t rfl) rfl ag32 rfl) rfl (.q (.lensl (.t rfl) Tryz.underlying32) rfl (.q (.move .k) rfl (.n (.h (.b ?_))))))))))); refine W.loop (D := []) (ι := Unit) (fun _ => [(42, true, .int 0), (41, true, .int ((at_.map dav).length : Int)), (40, true, .sl 2 (at_.map dav)), (0, true, .lit (.pointer (some ⟨b, 0, none⟩))), (2, true, .int (t : Int)), (4, true, .lit (.pointer (some ⟨b4, 0, none⟩)))]) (fun _ => [.box b4 35 [.str nm, .sl 2 (at_.map dav), .str tx, .sl 4 (ps.map Nd.av)], .box b 76 [.sl 3 (ts.map tpv), .sl 2 (as_.map Au.avx), .sl 1 (sz.map AV.int)]]) (fun _ => True) (fun _ => 0) () ⟨rfl, rfl, rfl, rfl, rfl, rfl, trivial⟩ (.refl _) trivial ?_
   rintro ⟨⟩ _
   dsimp only
   rcases (show at_ = [] ∨ ∃ a0 at2, at_ = a0 :: at2 from by cases at_; exact .inl rfl; exact .inr ⟨_, _, rfl⟩) with hat | ⟨a0, at2, hat⟩
   ·rw [hat] at hd
    dsimp only at hd
    refine W.s (.r (.q (.lti (.t rfl) (.t rfl)) rfl (.n (.h (.s ?_))))); refine W.isb 43 false rfl (by rw [hat]; rfl) ?_; refine W.condF (.t rfl) (.ex (.he (.he (.bh (.h (.s (.r (.q (.assign .k) rfl (.q (.assign .k) rfl (.n (.h (.s (.r (.q (.assign .k) rfl (.n (.h (.s (.s (.r (.q (.fab (.t rfl) fa35_3) rfl (.q (.ldb1 0 (.t rfl) rfl ag33 rfl) rfl (.q (.lensl (.t rfl) Tryz.underlying33) rfl (.q (.move .k) rfl ?_))))))))))))))))))))))); refine W.n (.h (.b ?_)); refine W.own_nil 3 1 ?_; refine W.loop (D := []) (ι := Nat × Value) (fun z => [(71, true, .int (z.1 : Int)), (70, true, .int ((ps.map Nd.av).length : Int)), (69, true, .sl 4 (ps.map Nd.av)), (9, true, .int (Sch.runP A ((Sch.kinds ts ps).take z.1)).1), (10, true, .bool (Sch.runP A ((Sch.kinds ts ps).take z.1)).2), (11, true, .lit z.2), (0, true, .lit (.pointer (some ⟨b, 0, none⟩))), (2, true, .int (t : Int)), (4, true, .lit (.pointer (some ⟨b4, 0, none⟩)))]) (fun z => [.arr z.2 3 1 (((Sch.kinds ts ps).take z.1).map AV.int), .box b4 35 [.str nm, .sl 2 (at_.map dav), .str tx, .sl 4 (ps.map Nd.av)], .box b 76 [.sl 3 (ts.map tpv), .sl 2 (as_.map Au.avx), .sl 1 (sz.map AV.int)]]) (fun z => z.1 ≤ ps.length) (fun z => ps.length - z.1) (0, .slice none 0 0) ⟨rfl, rfl, rfl, rfl, rfl, rfl, rfl, rfl, rfl, trivial⟩ (.refl _) (Nat.zero_le _) ?_
    rintro ⟨i, v⟩ hi
    dsimp only at hi ⊢
    rcases (show i < ps.length ∨ i = ps.length from by omega) with hlt | hend
    ·have hgp := Nd.at_av ps i hlt
     have hkg := Sch.kinds_get ts ps i hlt
     have hkt := take_getDG 0 (Sch.kinds ts ps) i (by rw [Sch.kinds_len]; exact hlt)
     have hrt := Sch.runP_take A (Sch.kinds ts ps) i (by rw [Sch.kinds_len]; exact hlt)
     have hrr := hrg ((Sch.kinds ts ps).take i) (fun k hk => Sch.kinds_lt (by omega) ps k (List.mem_of_mem_take hk))
     obtain ⟨d1, hd1⟩ : ∃ q, ps.getD i Nd.dflt = q := ⟨_, rfl⟩
     rw [hd1] at hgp hkg
     rw [hkg] at hkt hrt
     have hix := Sch.idxT_lt ts d1.name
     refine W.s (.r (.q (.lti (.t rfl) (.t rfl)) rfl (.n (.h (.s ?_))))); refine W.isb 72 true rfl (by exact decide_eq_true (by omega)) ?_; refine W.condT (.t rfl) (.k (.h (.s (.b (.s (.r ?_)))))); refine W.q (.at (E := 35) (.t rfl) (.t rfl) Tryz.underlying33 ty35 (fun hg => ⟨by omega, hgp⟩) rfl rfl) rfl ?_; refine W.q (.lden (.t rfl) ag35 ty35 rfl rfl) rfl ?_
     refine W.alloc ty35 rfl rfl ?_; intro b13
     refine W.stb 0 (.t rfl) (.t rfl) rfl ty35 rfl rfl rfl (.n (.h (.s (.r (.mv rfl rfl (.q (.fab (.t rfl) fa35_0) rfl (.q (.ldb1 0 (.t rfl) rfl ag9 rfl) rfl ?_)))))))
     refine W.call (c_Index b ts as_ sz (by omega) d1.name) ⟨(.t rfl), (.t rfl), trivial⟩ (((List.perm_middle (l₁ := [_, _, _])).trans <| List.Perm.cons _ <| List.Perm.cons _ <| List.Perm.cons _ <| List.Perm.cons _ <| .refl _)) rfl ?_
     rintro _ _ ⟨rfl, rfl⟩
     refine W.perm ((List.perm_middle (l₁ := [_])).trans <| List.Perm.cons _ <| (List.perm_middle (l₁ := [_])).trans <| List.Perm.cons _ <| (List.perm_middle (l₁ := [_])).trans <| List.Perm.cons _ <| List.Perm.cons _ <| .refl _) ?_; refine W.q (.assign (.t rfl)) rfl ?_; refine W.n ?_; refine W.h ?_; refine W.s ?_; refine W.r ?_; refine W.q (.move (.t rfl)) rfl ?_; refine W.q (.move (.t rfl)) rfl ?_; refine W.bs (es := [_]) Tryz.underlying22 ty3 ⟨rfl, (.t rfl), rfl, rfl, trivial⟩ rfl (by decide) rfl rfl ?_
     refine W.app 1 (.t rfl) rfl (.sl (.t rfl) (by ((simp [AV.okc, shV]; done)))) Tryz.underlying22 ni22 ty3 rfl rfl (by rw [List.length_map, List.length_take]; simp only [List.length_cons, List.length_nil]; omega) rfl ?_
     intro v82; refine W.q (.assign (.t rfl)) rfl ?_; refine W.n ?_; refine W.h ?_; refine W.s ?_; refine W.r ?_; refine W.q (.move (.t rfl)) rfl ?_; refine W.q (.move (.t rfl)) rfl ?_; refine W.qgT rfl rfl (.move (.t rfl)) rfl ?_; refine W.qgT rfl rfl (.gei (.c rfl) .k) rfl ?_; refine W.q (.and (.t rfl) ⟨_, _, rfl, rfl, by ((simp; done))⟩) rfl ?_; refine W.q (.assign (.t rfl)) rfl ?_; refine W.n ?_; refine W.h ?_; refine W.s ?_; refine W.r ?_; refine W.q (.move (.t rfl)) rfl ?_; refine W.q (.gei (.t rfl) .k) rfl ?_; refine W.q (.move (.t rfl)) rfl ?_; refine W.qgT rfl rfl (.move (.t rfl)) rfl ?_; refine W.qgT rfl rfl (.gei (.c rfl) .k) rfl ?_; refine W.q (.and (.t rfl) ⟨_, _, rfl, rfl, by ((simp; done))⟩) rfl ?_; refine W.n ?_; refine W.h ?_; refine W.cond (.t rfl) (fun hc_t93 => ?_) (fun hc_t93 => ?_)
     ·have h93 : 0 ≤ Sch.idxT ts d1.name ∧ 0 ≤ (Sch.runP A ((Sch.kinds ts ps).take i)).1 := by simpa using hc_t93
      have hgq := getD_mapG pav [] A.next ((Sch.runP A ((Sch.kinds ts ps).take i)).1).toNat (by omega)
      have hgr8 := hAs.row ((Sch.runP A ((Sch.kinds ts ps).take i)).1).toNat (by omega)
      have hgz := getD_mapG AV.int (-1) (A.next.getD ((Sch.runP A ((Sch.kinds ts ps).take i)).1).toNat []) (Sch.idxT ts d1.name).toNat (by omega)
      have hrm : ((A.next.getD ((Sch.runP A ((Sch.kinds ts ps).take i)).1).toNat []).map AV.int).length = 8 := by rw [List.length_map]; exact hgr8
      have hnm2 : (A.next.map pav).length = A.next.length := List.length_map ..
      refine W.r (.mv rfl rfl (.q (.nilc (.t rfl)) rfl (.q (.fab (.t rfl) fa76_1) rfl (.q (.ldb1 3 (.t rfl) rfl ag74 rfl) rfl (.mv rfl rfl ?_))))); refine W.q (.at (E := 62) (.t rfl) (.t rfl) Tryz.underlying74 ty62 (fun hg => ⟨by omega, hgA⟩) rfl rfl) rfl ?_; refine W.q (.fae (.t rfl) fa62_0 rfl) rfl (.q (.lde1 (.t rfl) ag59) rfl (.mv rfl rfl ?_)); refine W.q (.at (E := 22) (.t rfl) (.t rfl) Tryz.underlying59 ty22 (fun hg => ⟨by omega, hgq⟩) rfl rfl) rfl ?_; refine W.q (.lde1 (.t rfl) ag22) rfl (.mv rfl rfl ?_); refine W.q (.at (E := 3) (.t rfl) (.t rfl) Tryz.underlying22 ty3 (fun hg => ⟨by omega, hgz⟩) rfl rfl) rfl ?_; refine W.q (.lde1 (.t rfl) ag3) rfl (.asg rfl rfl (.n (.bn (.h (.r (.q (.add (.t rfl) .k (fun _ => by omega)) rfl ?_))))))
      refine W.q (.move (.t rfl)) rfl ?_; refine W.n ?_; refine W.h ?_; refine W.is (t := 9) (av' := .int (Sch.runP A ((Sch.kinds ts ps).take (i + 1))).1) rfl (congrArg AV.int (by rw [hrt]; unfold Sch.rstep; dsimp only; rw [if_pos h93])) ?_; refine W.is (t := 10) (av' := .bool (Sch.runP A ((Sch.kinds ts ps).take (i + 1))).2) rfl (congrArg AV.bool (by rw [hrt]; rfl)) ?_; refine W.reach (D := [_]) (i + 1, v82) ⟨rfl, rfl, rfl, rfl, rfl, rfl, rfl, rfl, rfl, trivial⟩ (by dsimp only; rw [hkt, List.map_append]; exact ((List.perm_middle (l₁ := [_])).trans <| List.Perm.cons _ <| (List.perm_middle (l₁ := [_])).trans <| List.Perm.cons _ <| (List.perm_middle (l₁ := [_])).trans <| List.Perm.cons _ <| List.Perm.cons _ <| .refl _)) ⟨hlt, by show ps.length - (i + 1) < ps.length - i; omega⟩
     ·have h93 : ¬ (0 ≤ Sch.idxT ts d1.name ∧ 0 ≤ (Sch.runP A ((Sch.kinds ts ps).take i)).1) := fun h => by simp [h.1, h.2] at hc_t93
      refine W.k (.bn (.h (.r (.q (.add (.t rfl) .k (fun _ => by omega)) rfl ?_))))
      refine W.q (.move (.t rfl)) rfl ?_; refine W.n ?_; refine W.h ?_; refine W.is (t := 9) (av' := .int (Sch.runP A ((Sch.kinds ts ps).take (i + 1))).1) rfl (congrArg AV.int (by rw [hrt]; unfold Sch.rstep; dsimp only; rw [if_neg h93])) ?_; refine W.is (t := 10) (av' := .bool (Sch.runP A ((Sch.kinds ts ps).take (i + 1))).2) rfl (congrArg AV.bool (by rw [hrt]; rfl)) ?_; refine W.reach (D := [_]) (i + 1, v82) ⟨rfl, rfl, rfl, rfl, rfl, rfl, rfl, rfl, rfl, trivial⟩ (by dsimp only; rw [hkt, List.map_append]; exact ((List.perm_middle (l₁ := [_])).trans <| List.Perm.cons _ <| (List.perm_middle (l₁ := [_])).trans <| List.Perm.cons _ <| (List.perm_middle (l₁ := [_])).trans <| List.Perm.cons _ <| List.Perm.cons _ <| .refl _)) ⟨hlt, by show ps.length - (i + 1) < ps.length - i; omega⟩
    ·subst hend
     rw [List.take_of_length_le (by rw [Sch.kinds_len]; exact Nat.le_refl _)]
     have hgf : ∀ h : 0 ≤ (Sch.runP A (Sch.kinds ts ps)).1, (A.final.map AV.bool)[(Sch.runP A (Sch.kinds ts ps)).1.toNat]? = some (AV.bool (A.final.getD (Sch.runP A (Sch.kinds ts ps)).1.toNat false)) := fun h => getD_mapG AV.bool false A.final _ (by have := hrg _ (Sch.kinds_lt (by omega) ps); have := hAs.fin; omega)
     have hfl : (A.final.map AV.bool).length = A.final.length := List.length_map ..
     have hfn := hAs.fin
     refine W.s (.r (.q (.lti (.t rfl) (.t rfl)) rfl (.n (.h (.s ?_))))); refine W.isb 72 false rfl (by exact decide_eq_false (by omega)) ?_; refine W.condF (.t rfl) (.ex (.he (.he (.bh (.h (.s (.s (.r ?_)))))))); refine W.freezeA (M1 := [.box b4 35 [.str nm, .sl 2 (at_.map dav), .str tx, .sl 4 (ps.map Nd.av)], .box b 76 [.sl 3 (ts.map tpv), .sl 2 (as_.map Au.avx), .sl 1 (sz.map AV.int)]]) (M2 := [.box b4 35 [.str nm, .sl 2 (at_.map dav), .str tx, .sl 4 (ps.map Nd.av)], .box b 76 [.sl 3 (ts.map tpv), .sl 2 (as_.map Au.avx), .sl 1 (sz.map AV.int)]]) (D := []) (v := v) (L' := [(11, true, .sl 1 ((Sch.kinds ts ps).map AV.int))]) (.refl _) ⟨⟨_, rfl, .one .hit⟩, trivial⟩ (FrzMs.refl _) ?_; refine W.mv rfl rfl (.mv rfl rfl (.qgT rfl rfl (.move (.t rfl)) rfl (.qgT rfl rfl (.lti (.c rfl) .k) rfl (.qgT rfl rfl (.move (.c rfl)) rfl (.qgF' rfl rfl (.move (.t rfl)) rfl (.qgF' rfl rfl (.nilc (.c rfl)) rfl (.qgF' rfl rfl (.fab (.c rfl) fa76_1) rfl (.qgF' rfl rfl (.ldb1 1 (.c rfl) rfl ag74 rfl) rfl (.qgF' rfl rfl (.move (.t rfl)) rfl ?_))))))))); refine W.qgF' rfl rfl (.at (E := 62) (.c rfl) (.c rfl) Tryz.underlying74 ty62 (fun hg => ⟨by omega, hgA⟩) rfl rfl) rfl ?_; refine W.qgF' rfl rfl (.fae (.c rfl) fa62_1 rfl) rfl (.qgF' rfl rfl (.lde1 (.c rfl) ag60) rfl (.qgF' rfl rfl (.move (.t rfl)) rfl ?_)); refine W.qgF' rfl rfl (.at (E := 4) (.c rfl) (.c rfl) Tryz.underlying60 ty4 (fun hg => ⟨by simp at hg; have := hrg _ (Sch.kinds_lt (by omega) ps); omega, hgf (by simp at hg; omega)⟩) rfl rfl) rfl ?_; refine W.qgF' rfl rfl (.lde1 (.c rfl) ag4) rfl ?_
     refine W.qgF' rfl rfl (.not (.c rfl)) rfl ?_; refine W.qgT rfl rfl (.or (.c rfl) ⟨_, _, rfl, rfl, by ((simp_all; done))⟩) rfl ?_; refine W.q (.and (.t rfl) ⟨_, _, rfl, rfl, by ((simp; done))⟩) rfl ?_; refine W.n ?_; refine W.h ?_; refine W.cond (.t rfl) (fun hc_t127 => ?_) (fun hc_t127 => ?_)
     ·have h127 : Sch.badEnd A (Sch.runP A (Sch.kinds ts ps)) = true := hc_t127
      rw [if_pos h127] at hd
      refine W.s (.r (.q (.assign .k) rfl (.n (.h ?_)))); refine W.ret ?_; refine W.hr ?_; refine W.retn (M' := [.box b 76 [.sl 3 (ts.map tpv), .sl 2 (as_.map Au.avx), .sl 1 (sz.map AV.int)]]) (D := [_]) (rs := [.tmp 6]) (avs := [_]) Tryz.results61 ⟨rfl, trivial⟩ rfl (List.Perm.swap _ _ []) ?_
      obtain rfl := Option.some.inj hd
      exact ⟨rfl, rfl⟩
     ·have h127 : ¬ Sch.badEnd A (Sch.runP A (Sch.kinds ts ps)) = true := by rw [show Sch.badEnd A (Sch.runP A (Sch.kinds ts ps)) = false from hc_t127]; simp
      rw [if_neg h127] at hd
      refine W.k (.h (.s (.s (.r (.q (.fab (.t rfl) fa35_3) rfl (.q (.ldb1 0 (.t rfl) rfl ag33 rfl) rfl (.q (.lensl (.t rfl) Tryz.underlying33) rfl (.q (.move .k) rfl (.n (.h (.b ?_))))))))))); refine W.loop (D := []) (ι := Nat) (fun i => [(131, true, .int (i : Int)), (130, true, .int ((ps.map Nd.av).length : Int)), (129, true, .sl 4 (ps.map Nd.av)), (11, true, .sl 1 ((Sch.kinds ts ps).map AV.int)), (0, true, .lit (.pointer (some ⟨b, 0, none⟩))), (2, true, .int (t : Int)), (4, true, .lit (.pointer (some ⟨b4, 0, none⟩)))]) (fun _ => [.box b4 35 [.str nm, .sl 2 (at_.map dav), .str tx, .sl 4 (ps.map Nd.av)], .box b 76 [.sl 3 (ts.map tpv), .sl 2 (as_.map Au.avx), .sl 1 (sz.map AV.int)]]) (fun i => i ≤ ps.length ∧ Sch.partsN (Sch.faultN ts as_ f) ts (ps.drop i) = some e) (fun i => ps.length - i) 0 ⟨rfl, rfl, rfl, rfl, rfl, rfl, rfl, trivial⟩ (.refl _) ⟨Nat.zero_le _, hd⟩ ?_
      rintro i ⟨hi, hi2⟩
      dsimp only at hi hi2 ⊢
      rcases (show i < ps.length ∨ i = ps.length from by omega) with hlt | hend
      ·have hgp := Nd.at_av ps i hlt
       have hkg := Sch.kinds_get ts ps i hlt
       have hgk := getD_map (Sch.kinds ts ps) i (by rw [Sch.kinds_len]; exact hlt)
       have hkm : ((Sch.kinds ts ps).map AV.int).length = ps.length := by rw [List.length_map]; exact Sch.kinds_len ts ps
       have hd1m := getD_memG Nd.dflt ps i hlt
       rw [Sch.partsN_drop hlt] at hi2
       obtain ⟨d1, hd1⟩ : ∃ q, ps.getD i Nd.dflt = q := ⟨_, rfl⟩
       rw [hd1] at hgp hkg hi2 hd1m
       rw [hkg] at hgk
       have hix := Sch.idxT_lt ts d1.name
       refine W.s (.r (.q (.lti (.t rfl) (.t rfl)) rfl (.n (.h (.s ?_))))); refine W.isb 132 true rfl (by exact decide_eq_true (by omega)) ?_; refine W.condT (.t rfl) (.k (.h (.s (.b (.s (.r (.mv rfl rfl ?_))))))); refine W.q (.at (E := 35) (.t rfl) (.t rfl) Tryz.underlying33 ty35 (fun hg => ⟨by omega, hgp⟩) rfl rfl) rfl ?_; refine W.q (.lden (.t rfl) ag35 ty35 rfl rfl) rfl ?_
       refine W.alloc ty35 rfl rfl ?_; intro b16; refine W.q (.assign (.t rfl)) rfl ?_
       refine W.stb 0 (.t rfl) (.t rfl) rfl ty35 rfl rfl rfl (.n (.h (.s (.s (.r (.mv rfl rfl (.mv rfl rfl ?_))))))); refine W.q (.at (E := 3) (.t rfl) (.t rfl) Tryz.underlying22 ty3 (fun _ => ⟨by omega, hgk⟩) rfl rfl) rfl ?_; refine W.q (.lde1 (.t rfl) ag3) rfl ?_
       refine W.q (.lti (.t rfl) .k) rfl ?_; refine W.n ?_; refine W.h ?_; refine W.cond (.t rfl) (fun hc_t140 => ?_) (fun hc_t140 => ?_)
       ·have h140 := of_decide_eq_true hc_t140
        rw [if_pos h140] at hi2
        refine W.s (.r (.q (.assign .k) rfl (.n (.h ?_)))); refine W.ret ?_; refine W.hr (.br (.hr (.hr (.br (.hr ?_))))); refine W.retn (M' := [.box b 76 [.sl 3 (ts.map tpv), .sl 2 (as_.map Au.avx), .sl 1 (sz.map AV.int)]]) (D := [_, _]) (rs := [.tmp 6]) (avs := [_]) Tryz.results61 ⟨rfl, trivial⟩ rfl (by (exact List.perm_append_comm (l₁ := [_, _]) (l₂ := [_]))) ?_
        obtain rfl := Option.some.inj hi2
        exact ⟨rfl, rfl⟩
       ·have h140 := of_decide_eq_false hc_t140
        rw [if_neg h140] at hi2
        obtain ⟨g, hg⟩ : ∃ g, Sch.faultN ts as_ f d1 (Sch.idxT ts d1.name).toNat = some g := by
         cases h : Sch.faultN ts as_ f d1 (Sch.idxT ts d1.name).toNat with
         | none => rw [h] at hi2; cases hi2
         | some g => exact ⟨g, rfl⟩
        rw [hg] at hi2
        dsimp only at hi2
        have hIH := IH d1 _ g hg
        rw [show (((Sch.idxT ts d1.name).toNat : Nat) : Int) = Sch.idxT ts d1.name from by omega] at hIH
        refine W.k (.h (.s ?_)); refine W.drawnE (ι := Unit) (fun _ _ => _) 8 () (by kernel_rfl) (by kernel_rfl) rfl ?_; refine DE.q (fun e c hk => (.move (.t rfl))) rfl (fun _ _ => rfl) (.inr fun _ _ => rfl) (.q (fun e c hk => (.ldbn 0 (.t rfl) rfl ag35 ty35 rfl)) rfl (fun _ _ => rfl) (.inr fun _ _ => rfl) (.q (fun e c hk => (.move (.t rfl))) rfl (fun _ _ => rfl) (.inr fun _ _ => rfl) (.q (fun e c hk => (.move (.t rfl))) rfl (fun _ _ => rfl) (.inr fun _ _ => rfl) ?_))); refine DE.q (fun e c_ hk_ => Ev.at (E := 3) (.t rfl) (.t rfl) Tryz.underlying22 ty3 (fun _ => ⟨by omega, hgk⟩) rfl rfl) rfl (fun _ _ => rfl) (.inr fun _ _ => rfl) ?_; refine DE.q (fun e c hk => (.lde1 (.t rfl) ag3)) rfl (fun _ _ => rfl) (.inr fun _ _ => rfl) ?_
        refine DE.callm (fun c => hIH) (fun e c => ⟨_, (List.perm_append_comm (l₁ := [_, _]) (l₂ := [_]))⟩) (fun c => ⟨(.t rfl), (.t rfl), (.t rfl), trivial⟩) rfl (fun _ _ => rfl) (.inr fun _ _ => rfl) ?_; refine DE.q (fun e c hk => (.assign (.t rfl))) rfl (fun _ _ => rfl) (.inr fun _ _ => rfl) ?_; refine DE.nil (fun c_ e_ he_ => ?_)
        dsimp only
        refine W.h ?_; refine W.s ?_; refine W.r ?_; refine W.q (.move (.t rfl)) rfl ?_; refine W.q (.nei (.t rfl) .k) rfl ?_; refine W.n ?_; refine W.h ?_; refine W.cond (.t rfl) (fun hc_t149 => ?_) (fun hc_t149 => ?_)
        ·have h149 : ¬ g = 0 := by intro h; rw [h] at hc_t149; cases hc_t149
         rw [if_neg h149] at hi2
         refine W.s (.r (.mv rfl rfl (.asg rfl rfl (.n (.h ?_))))); refine W.ret ?_; refine W.br (.hr (.hr (.br (.hr ?_)))); refine W.retn (M' := [.box b 76 [.sl 3 (ts.map tpv), .sl 2 (as_.map Au.avx), .sl 1 (sz.map AV.int)]]) (D := [_, _]) (rs := [.tmp 6]) (avs := [_]) Tryz.results61 ⟨rfl, trivial⟩ rfl (by (exact List.perm_append_comm (l₁ := [_, _]) (l₂ := [_]))) ?_
         obtain rfl := Option.some.inj hi2
         exact ⟨rfl, rfl⟩
        ·have h149 : g = 0 := by simpa using hc_t149
         rw [if_pos h149] at hi2
         refine W.k (.bn (.h (.r (.q (.add (.t rfl) .k (fun _ => by omega)) rfl ?_))))
         refine W.q (.move (.t rfl)) rfl ?_; refine W.n ?_; refine W.h ?_; refine W.reach (D := [_]) (i + 1) ⟨rfl, rfl, rfl, rfl, rfl, rfl, rfl, trivial⟩ ((List.perm_middle (l₁ := [_])).trans <| List.Perm.cons _ <| (List.perm_middle (l₁ := [_])).trans <| List.Perm.cons _ <| List.Perm.cons _ <| .refl _) ⟨⟨hlt, hi2⟩, by show ps.length - (i + 1) < ps.length - i; omega⟩
      ·rw [List.drop_of_length_le (by omega)] at hi2
       obtain rfl := Option.some.inj hi2
       refine W.s (.r (.q (.lti (.t rfl) (.t rfl)) rfl (.n (.h (.s ?_))))); refine W.isb 132 false rfl (by exact decide_eq_false (by omega)) ?_; refine W.condF (.t rfl) (.ex (.he (.he (.bh (.h (.s (.r (.q (.assign .k) rfl (.n (.h ?_)))))))))); refine W.ret ?_; refine W.retn (M' := [.box b 76 [.sl 3 (ts.map tpv), .sl 2 (as_.map Au.avx), .sl 1 (sz.map AV.int)]]) (D := [_]) (rs := [.tmp 6]) (avs := [_]) Tryz.results61 ⟨rfl, trivial⟩ rfl (by (exact List.Perm.swap _ _ [])) ?_
       exact ⟨rfl, rfl⟩
   ·rw [hat] at hd
    dsimp only at hd
    have hna0 : (tat.any fun s => a0.1 == s) = false := by rw [htat] at hd; cases h : (tat.any fun s => a0.1 == s); rfl; rw [h, if_pos rfl] at hd; cases hd
    rw [htat, hna0, if_neg (by simp)] at hd
    have hga : (at_.map dav)[(0 : Int).toNat]? = some (dav a0) := by rw [hat]; rfl
    have hal3 : 0 < at_.length := by rw [hat]; simp
    refine W.s (.r (.q (.lti (.t rfl) (.t rfl)) rfl (.n (.h (.s ?_))))); refine W.isb 43 true rfl (by exact decide_eq_true (by omega)) ?_; refine W.condT (.t rfl) (.k (.h (.s (.b (.s (.r (.mv rfl rfl ?_))))))); refine W.q (.at (E := 48) (.t rfl) (.t rfl) Tryz.underlying32 ty48 (fun hg => ⟨by omega, hga⟩) rfl rfl) rfl ?_; refine W.q (.lden (.t rfl) ag48 ty48 rfl rfl) rfl ?_
    refine W.alloc ty48 rfl rfl ?_; intro b8; refine W.q (.assign (.t rfl)) rfl ?_
    refine W.stb 0 (.t rfl) (.t rfl) rfl ty48 rfl rfl rfl (.n (.h (.s ?_))); refine W.drawnE (ι := Unit) (fun _ _ => _) 20 () (by kernel_rfl) (by kernel_rfl) rfl ?_; refine DE.q (fun e c hk => (.move (.t rfl))) rfl (fun _ _ => rfl) (.inr fun _ _ => rfl) (.q (fun e c hk => (.nilc (.t rfl))) rfl (fun _ _ => rfl) (.inr fun _ _ => rfl) (.q (fun e c hk => (.fab (.t rfl) fa76_0)) rfl (fun _ _ => rfl) (.inr fun _ _ => rfl) (.q (fun e c hk => (.ldb1 2 (.t rfl) rfl ag23 rfl)) rfl (fun _ _ => rfl) (.inr fun _ _ => rfl) (.q (fun e c hk => (.move (.t rfl))) rfl (fun _ _ => rfl) (.inr fun _ _ => rfl) ?_)))); refine DE.q (fun e c_ hk_ => Ev.at (E := 28) (.t rfl) (.t rfl) Tryz.underlying23 ty28 (fun _ => ⟨by omega, hgt⟩) rfl rfl) rfl (fun _ _ => rfl) (.inr fun _ _ => rfl) ?_; refine DE.q (fun e c hk => (.fae (.t rfl) fa28_2 rfl)) rfl (fun _ _ => rfl) (.inr fun _ _ => rfl) (.q (fun e c hk => (.lde1 (.t rfl) ag26)) rfl (fun _ _ => rfl) (.inr fun _ _ => rfl) (.q (fun e c hk => (.fab (.t rfl) fa48_0)) rfl (fun _ _ => rfl) (.inr fun _ _ => rfl) (.q (fun e c hk => (.ldb1 0 (.t rfl) rfl ag9 rfl)) rfl (fun _ _ => rfl) (.inr fun _ _ => rfl) ?_)))
    refine DE.callp (fun c => WSLib.c_Contains (ts.getD t Sch.dT).attrs a0.1 (by omega)) (fun c => ⟨(.t rfl), (.t rfl), trivial⟩) rfl (fun _ _ => rfl) (.inr fun _ _ => rfl) ?_; refine DE.q (av := fun _ => .bool true) (fun e c_ hk_ => Ev.as_ (.not (.t rfl)) (congrArg AV.bool (by rw [htat, hna0]; rfl))) rfl (fun _ _ => rfl) (.inr fun _ _ => rfl) ?_; refine DE.q (fun e c hk => (.move (.t rfl))) rfl (fun _ _ => rfl) (.inr fun _ _ => rfl) ?_; refine DE.skipg rfl (fun _ => rfl) rfl rfl (fun _ _ => rfl) ?_; refine DE.skipg rfl (fun _ => rfl) rfl rfl (fun _ _ => rfl) ?_; refine DE.skipg rfl (fun _ => rfl) rfl rfl (fun _ _ => rfl) ?_; refine DE.skipg rfl (fun _ => rfl) rfl rfl (fun _ _ => rfl) ?_; refine DE.skipg rfl (fun _ => rfl) rfl rfl (fun _ _ => rfl) ?_; refine DE.skipg rfl (fun _ => rfl) rfl rfl (fun _ _ => rfl) ?_; refine DE.q (fun e c_ hk_ => Ev.orT (.t rfl)) rfl (fun _ _ => rfl) (.inr fun _ _ => rfl) ?_; refine DE.nil (fun c_ e_ he_ => ?_)
    dsimp only
    refine W.h ?_; refine W.condT (.t rfl) ?_; refine W.s ?_; refine W.r ?_; refine W.q (.assign .k) rfl ?_; refine W.n ?_; refine W.h ?_; refine W.ret ?_; refine W.br ?_; refine W.hr ?_; refine W.hr ?_; refine W.br ?_; refine W.hr ?_; refine W.retn (M' := [.box b 76 [.sl 3 (ts.map tpv), .sl 2 (as_.map Au.avx), .sl 1 (sz.map AV.int)]]) (D := [_, _]) (rs := [.tmp 6]) (avs := [_]) Tryz.results61 ⟨rfl, trivial⟩ rfl ((List.perm_middle (l₁ := [_, _])).trans <| List.Perm.cons _ <| List.Perm.cons _ <| List.Perm.cons _ <| .refl _) ?_
    obtain rfl := Option.some.inj hd
    exact ⟨rfl, rfl⟩
theorem c_fault (b : Nat) (ts : List Tp) (as_ : List Au) (sz : List Int) (hal : as_.length = ts.length) (hts : ts.length ≤ 8) (hsh : ∀ A ∈ as_, A.Shape) (hta : ∀ i, (ts.getD i Sch.dT).attrs.length ≤ 1000) : ∀ (f : Nat) (d : Nd) (t : Nat) (e : Int), Sch.faultN ts as_ f d t = some e → FnC Tryz.prog 61 [.lit (.pointer (some ⟨b, 0, none⟩)), Nd.avx (d), .int (t : Int)] [.box b 76 [.sl 3 (ts.map tpv), .sl 2 (as_.map Au.avx), .sl 1 (sz.map AV.int)]] (fun r M => r = .int (e) ∧ M = [.box b 76 [.sl 3 (ts.map tpv), .sl 2 (as_.map Au.avx), .sl 1 (sz.map AV.int)]])
 | 0, _, _, _, h => by cases h
 | f + 1, d, t, e, h => c_faultX b ts as_ sz hal hts hsh f d t e h hta (c_fault b ts as_ sz hal hts hsh hta f)
theorem c_Fault (b : Nat) (ts : List Tp) (as_ : List Au) (sz : List Int) (hal : as_.length = ts.length) (hts : ts.length ≤ 8) (hp : 0 < ts.length) (hsh : ∀ A ∈ as_, A.Shape) (hta : ∀ i, (ts.getD i Sch.dT).attrs.length ≤ 1000) (f : Nat) (d : Nd) (e : Int) (hd : Sch.treeFault ts as_ f d = some e) : FnC Tryz.prog 34 [.lit (.pointer (some ⟨b, 0, none⟩)), Nd.avx d] [.box b 76 [.sl 3 (ts.map tpv), .sl 2 (as_.map Au.avx), .sl 1 (sz.map AV.int)]] (fun r M => r = .int e ∧ M = [.box b 76 [.sl 3 (ts.map tpv), .sl 2 (as_.map Au.avx), .sl 1 (sz.map AV.int)]]) :=  by
 refine FnC.mk Tryz.func34 (by kernel_rfl) rfl Tryz.ntmps34 rfl (fun w0 F => ?_)
 unfold Sch.treeFault at hd
 have hg0 := getD_mapG tpv Sch.dT ts 0 hp
 have hnt : (ts.map tpv).length = ts.length := List.length_map ..
 refine W.s ?_; refine W.r ?_; refine W.box (.t rfl) rfl rfl ?_; intro b3; refine W.q (.assign .k) rfl ?_; refine W.n ?_; refine W.h ?_; refine W.s ?_; refine W.s ?_; refine W.drawn (by kernel_rfl) (by kernel_rfl) ?_
 refine DP.q (.fab (.t rfl) fa35_0) rfl (.q (.ldb1 0 (.t rfl) rfl ag9 rfl) rfl (.q (.move (.t rfl)) rfl (.q (.nilc (.t rfl)) rfl (.q (.fab (.t rfl) fa76_0) rfl (.q (.ldb1 1 (.t rfl) rfl ag23 rfl) rfl ?_))))); refine DP.q (.at (E := 28) (.t rfl) .k Tryz.underlying23 ty28 (fun _ => ⟨by omega, hg0⟩) rfl rfl) rfl ?_; refine DP.q (.fae (.t rfl) fa28_0 rfl) rfl (.q (.lde1 (.t rfl) ag9) rfl ?_)
 refine DP.q (.nes (.t rfl) (.t rfl)) rfl ?_; refine DP.nil ?_; refine W.h ?_; refine W.cond (.t rfl) (fun hc_t14 => ?_) (fun hc_t14 => ?_)
 ·have h14 : d.name ≠ (ts.getD 0 Sch.dT).name := by intro h; rw [h] at hc_t14; simp at hc_t14
  rw [if_pos h14] at hd
  refine W.s (.r (.q (.assign .k) rfl (.n (.h ?_)))); refine W.ret ?_; refine W.hr ?_; refine W.retn (M' := [.box b 76 [.sl 3 (ts.map tpv), .sl 2 (as_.map Au.avx), .sl 1 (sz.map AV.int)]]) (D := [_]) (rs := [.tmp 4]) (avs := [_]) Tryz.results34 ⟨rfl, trivial⟩ rfl (List.Perm.swap _ _ []) ?_
  obtain rfl := Option.some.inj hd
  exact ⟨rfl, rfl⟩
 ·have h14 : ¬ d.name ≠ (ts.getD 0 Sch.dT).name := by intro h; apply h; simpa using hc_t14
  rw [if_neg h14] at hd
  refine W.k (.h (.s (.r (.mv rfl rfl (.q (.ldbn 0 (.t rfl) rfl ag35 ty35 rfl) rfl ?_))))); refine W.call (c_fault b ts as_ sz hal hts hsh hta f d 0 e hd) ⟨(.t rfl), (.t rfl), .k, trivial⟩ ((List.Perm.swap _ _ [])) rfl ?_
  rintro _ _ ⟨rfl, rfl⟩
  refine W.perm (List.Perm.swap _ _ []) ?_; refine W.asg rfl rfl (.n (.h ?_)); refine W.ret ?_; refine W.retn (M' := [.box b 76 [.sl 3 (ts.map tpv), .sl 2 (as_.map Au.avx), .sl 1 (sz.map AV.int)]]) (D := [_]) (rs := [.tmp 4]) (avs := [_]) Tryz.results34 ⟨rfl, trivial⟩ rfl (List.Perm.swap _ _ []) ?_
  exact ⟨rfl, rfl⟩
end WIdx
end Go.Proofs.YtphlkdbglpcikaaGreatDoor
end
section
namespace Go.Proofs.YtphlkdbglpcikaaGreatDoor
open Go.Vl
open Y
namespace WToGo
set_option maxHeartbeats 1600000 in
theorem c_ToGo (b : Nat) (ts : List Tp) (as_ : List Au) (vs : Value) (sz : List Int) (A : Au) (hsh : A.Shape) (hn : A.next.length ≤ 100) (hcol : ∀ r ∈ A.next, ∀ k, k < 8 → 0 ≤ r.getD k (-1) → k < sz.length) (out : List Int) (htg : Sch.toGo sz A = some out) : FnC Tryz.prog 90 [.lit (.pointer (some ⟨b, 0, none⟩)), .agg [.sl 1 (A.next.map pav), .sl 1 (A.final.map AV.bool)]] [.box b 76 [.sl 3 (ts.map tpv), .sl 2 (as_.map Au.avx), .lit vs], .arr vs 3 1 (sz.map AV.int)] (fun r M => r = .sl 1 (out.map AV.int) ∧ M = [.box b 76 [.sl 3 (ts.map tpv), .sl 2 (as_.map Au.avx), .lit vs], .arr vs 3 1 (sz.map AV.int)]) :=  by
 refine FnC.mk Tryz.func90 (by kernel_rfl) rfl Tryz.ntmps90 rfl (fun w0 F => ?_)
 have hnl : (A.next.map pav).length = A.next.length := List.length_map ..
 have hfl : (A.final.map AV.bool).length = A.final.length := List.length_map ..
 have hfn := hsh.fin
 have hszl : (sz.map AV.int).length = sz.length := List.length_map ..
 refine W.s ?_; refine W.r ?_; refine W.box (.t rfl) rfl rfl ?_; intro b3; refine W.q (.assign .k) rfl ?_; refine W.n ?_; refine W.h ?_; refine W.s ?_; refine W.r ?_
 refine W.q (.fab (.t rfl) fa62_0) rfl (.q (.ldb1 0 (.t rfl) rfl ag59 rfl) rfl (.q (.lensl (.t rfl) Tryz.underlying59) rfl ?_))
 refine W.mk (.t rfl) (.t rfl) Tryz.underlying22 ty3 rfl rfl rfl rfl rfl (by omega) rfl ?_; intro v17
 have h00 : List.replicate (A.next.map pav).length (AV.int 0) = (Sch.tgI A 0).map AV.int := by rw [Sch.tgI_zero, hnl, hfn, List.map_replicate]
 refine W.perm (List.Perm.of_eq (show _ = [.arr v17 3 1 ((Sch.tgI A 0).map AV.int), .box b3 62 [.sl 1 (A.next.map pav), .sl 1 (A.final.map AV.bool)], .box b 76 [.sl 3 (ts.map tpv), .sl 2 (as_.map Au.avx), .lit vs], .arr vs 3 1 (sz.map AV.int)] from by show (ME.arr v17 _ _ (List.replicate (A.next.map pav).length (AV.int 0)) :: _) = _; rw [h00]; rfl)) ?_; refine W.asg rfl rfl (.n (.h (.s (.s (.r (.q (.fab (.t rfl) fa62_1) rfl (.q (.ldb1 1 (.t rfl) rfl ag60 rfl) rfl (.q (.lensl (.t rfl) Tryz.underlying60) rfl ?_))))))))
 refine W.q (.move .k) rfl ?_; refine W.n ?_; refine W.h ?_; refine W.b ?_; refine W.loop (D := []) (ι := Nat) (fun i => [(21, true, .int (i : Int)), (20, true, .int ((A.final.map AV.bool).length : Int)), (19, true, .sl 1 (A.final.map AV.bool)), (0, true, .lit (.pointer (some ⟨b, 0, none⟩))), (3, true, .lit (.pointer (some ⟨b3, 0, none⟩))), (5, true, .lit v17)]) (fun i => [.arr v17 3 1 ((Sch.tgI A i).map AV.int), .box b3 62 [.sl 1 (A.next.map pav), .sl 1 (A.final.map AV.bool)], .box b 76 [.sl 3 (ts.map tpv), .sl 2 (as_.map Au.avx), .lit vs], .arr vs 3 1 (sz.map AV.int)]) (fun i => i ≤ A.final.length) (fun i => A.final.length - i) 0 ⟨rfl, rfl, rfl, rfl, rfl, rfl, trivial⟩ (.refl _) (Nat.zero_le _) ?_; intro i hi
 dsimp only at hi ⊢
 rcases (show i < A.final.length ∨ i = A.final.length from by omega) with hlt | hend
 ·have hgf := getD_mapG AV.bool false A.final i hlt
  have hg0 := getD_map (Sch.tgI A i) i (by rw [Sch.tgI_len A i hi]; exact hlt)
  refine W.s (.r (.q (.lti (.t rfl) (.t rfl)) rfl (.n (.h (.s ?_))))); refine W.isb 22 true rfl (by exact decide_eq_true (by omega)) ?_; refine W.condT (.t rfl) (.k (.h (.s (.b (.s (.r (.mv rfl rfl ?_))))))); refine W.q (.at (E := 4) (.t rfl) (.t rfl) Tryz.underlying60 ty4 (fun _ => ⟨by omega, hgf⟩) rfl rfl) rfl ?_; refine W.q (.lde1 (.t rfl) ag4) rfl ?_
  refine W.q (.assign (.t rfl)) rfl ?_; refine W.q (.assign (.t rfl)) rfl ?_; refine W.n ?_; refine W.h ?_; refine W.s ?_; refine W.r ?_; refine W.q (.move (.t rfl)) rfl ?_; refine W.q (.not (.t rfl)) rfl ?_; refine W.n ?_; refine W.h ?_; refine W.cond (.t rfl) (fun hc_t27 => ?_) (fun hc_t27 => ?_)
  ·have hf0 : ¬ A.final.getD i false = true := by intro h; rw [h] at hc_t27; cases hc_t27
   have hsu := Sch.tgI_succ A i hlt
   rw [if_neg hf0] at hsu
   refine W.r (.mv rfl rfl (.mv rfl rfl ?_)); refine W.q (.ata 0 (.t rfl) rfl (.t rfl) Tryz.underlying22 ty3 (fun hg => by rw [List.length_map, Sch.tgI_len A i hi]; omega)) rfl ?_; refine W.sta 0 i 0 (e := AV.int ((Sch.tgI A i).getD i 0)) (e' := AV.int (-1)) (.t rfl) .k rfl hg0 (by omega) ty3 rfl rfl rfl rfl rfl rfl rfl ?_; refine W.n (.bn (.h (.r (.q (.add (.t rfl) .k (fun _ => by omega)) rfl (.mv rfl rfl (.n (.h ?_)))))))
   rw [← List.map_set, ← hsu]
   refine W.reach (D := []) (i + 1) ⟨rfl, rfl, rfl, rfl, rfl, rfl, trivial⟩ (.refl _) ⟨hlt, by show A.final.length - (i + 1) < A.final.length - i; omega⟩
  ·have hf0 : A.final.getD i false = true := by cases h : A.final.getD i false; rw [h] at hc_t27; cases hc_t27; rfl
   have hsu := Sch.tgI_succ A i hlt
   rw [if_pos hf0] at hsu
   refine W.k (.bn (.h (.r (.q (.add (.t rfl) .k (fun _ => by omega)) rfl (.mv rfl rfl (.n (.h ?_)))))))
   rw [← hsu]
   refine W.reach (D := []) (i + 1) ⟨rfl, rfl, rfl, rfl, rfl, rfl, trivial⟩ (.refl _) ⟨hlt, by show A.final.length - (i + 1) < A.final.length - i; omega⟩
 ·rw [hend, Sch.tgI_all]
  refine W.s (.r (.q (.lti (.t rfl) (.t rfl)) rfl (.n (.h (.s ?_))))); refine W.isb 22 false rfl (by exact decide_eq_false (by omega)) ?_; refine W.condF (.t rfl) (.ex (.he (.he (.bh (.h (.s (.s (.r (.q (.assign .k) rfl (.n (.h (.b ?_)))))))))))); refine W.loop (D := []) (ι := Nat × List Int × Bool) (fun z => [(8, true, .bool z.2.2), (0, true, .lit (.pointer (some ⟨b, 0, none⟩))), (3, true, .lit (.pointer (some ⟨b3, 0, none⟩))), (5, true, .lit v17)]) (fun z => [.arr v17 3 1 (z.2.1.map AV.int), .box b3 62 [.sl 1 (A.next.map pav), .sl 1 (A.final.map AV.bool)], .box b 76 [.sl 3 (ts.map tpv), .sl 2 (as_.map Au.avx), .lit vs], .arr vs 3 1 (sz.map AV.int)]) (fun z => z.2.1.length = A.next.length ∧ ((z.2.2 = true ∧ Sch.tgo sz A z.1 z.2.1 = some out) ∨ (z.2.2 = false ∧ z.2.1 = out))) (fun z => if z.2.2 = true then z.1 + 1 else 0) (12, A.final.map (fun b => if b = true then (0 : Int) else -1), true) ⟨rfl, rfl, rfl, rfl, trivial⟩ (.refl _) ⟨by rw [List.length_map, hfn], .inl ⟨rfl, htg⟩⟩ ?_
  rintro ⟨f, o, mo⟩ ⟨hol0, hor⟩
  dsimp only at hol0 hor ⊢
  rcases hor with ⟨rfl, hrun⟩ | ⟨rfl, rfl⟩
  ·obtain ⟨m, rfl⟩ : ∃ m, f = m + 1 := by cases f; (cases hrun); exact ⟨_, rfl⟩
   simp only [Sch.tgo] at hrun
   refine W.s (.s (.r (.mv rfl rfl (.n (.h (.condT (.t rfl) (.k (.h (.b (.s (.r (.q (.assign .k) rfl (.n (.h (.s (.r (.q (.fab (.t rfl) fa62_0) rfl (.q (.ldb1 1 (.t rfl) rfl ag59 rfl) rfl (.q (.lensl (.t rfl) Tryz.underlying59) rfl ?_)))))))))))))))))))
   refine W.q (.move .k) rfl ?_; refine W.n ?_; refine W.h ?_; refine W.b ?_; refine W.loop (D := []) (ι := Nat) (fun i => [(36, true, .int (i : Int)), (35, true, .int ((A.next.map pav).length : Int)), (34, true, .sl 1 (A.next.map pav)), (8, true, .bool (Sch.rndc sz A (o, false) i).2), (0, true, .lit (.pointer (some ⟨b, 0, none⟩))), (3, true, .lit (.pointer (some ⟨b3, 0, none⟩))), (5, true, .lit v17)]) (fun i => [.arr v17 3 1 ((Sch.rndc sz A (o, false) i).1.map AV.int), .box b3 62 [.sl 1 (A.next.map pav), .sl 1 (A.final.map AV.bool)], .box b 76 [.sl 3 (ts.map tpv), .sl 2 (as_.map Au.avx), .lit vs], .arr vs 3 1 (sz.map AV.int)]) (fun i => i ≤ A.next.length) (fun i => A.next.length - i) 0 ⟨rfl, rfl, rfl, rfl, rfl, rfl, rfl, trivial⟩ (.refl _) (Nat.zero_le _) ?_; intro i hi
   dsimp only at hi ⊢
   rcases (show i < A.next.length ∨ i = A.next.length from by omega) with hlti | hend
   ·have hgr := getD_mapG pav [] A.next i hlti
    have hrm := getD_memG [] A.next i hlti
    have hr8 := hsh.mem_row _ hrm
    have hent := hsh.mem_ent _ hrm
    have hcl := hcol _ hrm
    have hsi := Sch.rndc_succ sz A (o, false) i
    generalize A.next.getD i [] = row at hgr hrm hr8 hent hcl hsi
    have hrl : (row.map AV.int).length = 8 := by rw [List.length_map]; exact hr8
    refine W.s (.r (.q (.lti (.t rfl) (.t rfl)) rfl (.n (.h (.s ?_))))); refine W.isb 37 true rfl (by exact decide_eq_true (by omega)) ?_; refine W.condT (.t rfl) (.k (.h (.s (.b (.s (.r (.mv rfl rfl ?_))))))); refine W.q (.at (E := 22) (.t rfl) (.t rfl) Tryz.underlying59 ty22 (fun _ => ⟨by omega, hgr⟩) rfl rfl) rfl ?_; refine W.q (.lde1 (.t rfl) ag22) rfl (.asg rfl rfl (.asg rfl rfl (.n (.h (.s (.r (.mv rfl rfl (.q (.lensl (.t rfl) Tryz.underlying22) rfl ?_))))))))
    refine W.q (.move .k) rfl ?_; refine W.n ?_; refine W.h ?_; refine W.b ?_; refine W.loop (D := []) (ι := Nat) (fun k => [(43, true, .int (k : Int)), (42, true, .int ((row.map AV.int).length : Int)), (41, true, .sl 1 (row.map AV.int)), (9, true, .int (i : Int)), (36, true, .int (i : Int)), (35, true, .int ((A.next.map pav).length : Int)), (34, true, .sl 1 (A.next.map pav)), (10, true, .sl 1 (row.map AV.int)), (8, true, .bool (Sch.rowc sz i row (Sch.rndc sz A (o, false) i) k).2), (0, true, .lit (.pointer (some ⟨b, 0, none⟩))), (3, true, .lit (.pointer (some ⟨b3, 0, none⟩))), (5, true, .lit v17)]) (fun k => [.arr v17 3 1 ((Sch.rowc sz i row (Sch.rndc sz A (o, false) i) k).1.map AV.int), .box b3 62 [.sl 1 (A.next.map pav), .sl 1 (A.final.map AV.bool)], .box b 76 [.sl 3 (ts.map tpv), .sl 2 (as_.map Au.avx), .lit vs], .arr vs 3 1 (sz.map AV.int)]) (fun k => k ≤ 8) (fun k => 8 - k) 0 ⟨rfl, rfl, rfl, rfl, rfl, rfl, rfl, rfl, rfl, rfl, rfl, rfl, trivial⟩ (.refl _) (Nat.zero_le _) ?_; intro k hk
    dsimp only at hk ⊢
    have hol : ((Sch.rowc sz i row (Sch.rndc sz A (o, false) i) k).1.map AV.int).length = A.next.length := by rw [List.length_map, Sch.rowc_len, Sch.rndc_len]; exact hol0
    have hol1 : (Sch.rowc sz i row (Sch.rndc sz A (o, false) i) k).1.length = A.next.length := by rw [Sch.rowc_len, Sch.rndc_len]; exact hol0
    obtain ⟨to, hto⟩ : ∃ z, row.getD k (-1) = z := ⟨_, rfl⟩
    rcases (show (k < 8 ∧ to < 0) ∨ (k < 8 ∧ 0 ≤ to) ∨ k = 8 from by omega) with ⟨hlt, hneg⟩ | ⟨hlt, hpos⟩ | hend
    ·have hgt : (row.map AV.int)[k]? = some (AV.int to) := by rw [List.getElem?_map, ← hto, List.getD_eq_getElem?_getD, List.getElem?_eq_getElem (show k < row.length by omega)]; rfl
     refine W.s (.r (.q (.lti (.t rfl) (.t rfl)) rfl (.n (.h (.s ?_))))); refine W.isb 44 true rfl (by exact decide_eq_true (by omega)) ?_; refine W.condT (.t rfl) (.k (.h (.s (.b (.s (.r (.mv rfl rfl ?_))))))); refine W.q (.at (E := 3) (.t rfl) (.t rfl) Tryz.underlying22 ty3 (fun _ => ⟨by omega, hgt⟩) rfl rfl) rfl ?_; refine W.q (.lde1 (.t rfl) ag3) rfl (.asg rfl rfl (.asg rfl rfl (.n (.h (.s (.s (.r (.mv rfl rfl (.q (.lti (.t rfl) .k) rfl (.mv rfl rfl ?_)))))))))); refine W.is (t := 50) (av' := .bool true) rfl (congrArg AV.bool (decide_eq_true hneg)) ?_; refine W.gnob rfl rfl (by simp) rfl ?_; refine W.gnob rfl rfl (by simp) rfl ?_; refine W.gnob rfl rfl (by simp) rfl ?_; refine W.gnob rfl rfl (by simp) rfl ?_; refine W.gnob rfl rfl (by simp) rfl ?_; refine W.q (.or (.t rfl) ⟨_, _, rfl, rfl, by ((simp; done))⟩) rfl ?_; refine W.mv rfl rfl ?_; refine W.isb 57 true rfl (by simp) ?_; refine W.gnob rfl rfl (by simp) rfl ?_; refine W.gnob rfl rfl (by simp) rfl ?_; refine W.gnob rfl rfl (by simp) rfl ?_; refine W.gnob rfl rfl (by simp) rfl ?_; refine W.gnob rfl rfl (by simp) rfl ?_; refine W.gnob rfl rfl (by simp) rfl ?_; refine W.gnob rfl rfl (by simp) rfl ?_; refine W.gnob rfl rfl (by simp) rfl ?_; refine W.q (.or (.t rfl) ⟨_, _, rfl, rfl, by ((simp; done))⟩) rfl ?_; refine W.n (.h ?_); refine W.isb 66 true rfl (by ((simp; done))) ?_; refine W.condT (.t rfl) (.ex (.he (.bh (.h (.r (.q (.add (.t rfl) .k (fun _ => by omega)) rfl (.mv rfl rfl (.n (.h ?_)))))))))
     have hst2 : Sch.rowc sz i row (Sch.rndc sz A (o, false) i) (k + 1) = Sch.rowc sz i row (Sch.rndc sz A (o, false) i) k := by rw [Sch.rowc_succ, hto]; exact if_pos (.inl hneg)
     refine W.is (t := 8) (av' := .bool (Sch.rowc sz i row (Sch.rndc sz A (o, false) i) (k + 1)).2) rfl (congrArg AV.bool (by rw [hst2])) ?_
     rw [← hst2]
     refine W.reach (D := []) (k + 1) ⟨rfl, rfl, rfl, rfl, rfl, rfl, rfl, rfl, rfl, rfl, rfl, rfl, trivial⟩ (.refl _) ⟨hlt, by show 8 - (k + 1) < 8 - k; omega⟩
    ·have hgt : (row.map AV.int)[k]? = some (AV.int to) := by rw [List.getElem?_map, ← hto, List.getD_eq_getElem?_getD, List.getElem?_eq_getElem (show k < row.length by omega)]; rfl
     have htn : to < A.next.length := (hent to (by rw [← hto]; exact getD_memG (-1) row k (by omega))).2
     have hks := hcl k hlt (by omega)
     have hgs := getD_map sz k hks
     have hgo := getD_map (Sch.rowc sz i row (Sch.rndc sz A (o, false) i) k).1 to.toNat (by omega)
     have hgi := getD_map (Sch.rowc sz i row (Sch.rndc sz A (o, false) i) k).1 i (by omega)
     refine W.s (.r (.q (.lti (.t rfl) (.t rfl)) rfl (.n (.h (.s ?_))))); refine W.isb 44 true rfl (by exact decide_eq_true (by omega)) ?_; refine W.condT (.t rfl) (.k (.h (.s (.b (.s (.r (.mv rfl rfl ?_))))))); refine W.q (.at (E := 3) (.t rfl) (.t rfl) Tryz.underlying22 ty3 (fun _ => ⟨by omega, hgt⟩) rfl rfl) rfl ?_; refine W.q (.lde1 (.t rfl) ag3) rfl (.asg rfl rfl (.asg rfl rfl (.n (.h (.s (.s (.r (.mv rfl rfl (.q (.lti (.t rfl) .k) rfl (.mv rfl rfl ?_)))))))))); refine W.is (t := 50) (av' := .bool false) rfl (congrArg AV.bool (decide_eq_false (by omega))) ?_; refine W.gyes rfl rfl (.mv rfl rfl (.gyes rfl rfl (.mv rfl rfl (.gyes rfl rfl ?_)))); refine W.q (.ata 0 (.t rfl) rfl (.t rfl) Tryz.underlying22 ty3 (fun hg => by rw [hol]; omega)) rfl ?_; refine W.gyes rfl rfl (.q (.lda1 0 to.toNat 0 (.t rfl) rfl hgo (by omega) rfl rfl rfl ag3) rfl (.gyes rfl rfl (.q (.lti (.t rfl) .k) rfl ?_))); refine W.q (.or (.t rfl) ⟨_, _, rfl, rfl, by ((simp; done))⟩) rfl ?_; refine W.mv rfl rfl (.qgF rfl rfl (.move (.t rfl)) rfl (.qgF rfl rfl (.nilc (.c rfl)) rfl (.qgF rfl rfl (.fab (.c rfl) fa76_2) rfl (.qgF rfl rfl (.ldb1 2 (.c rfl) rfl ag22 rfl) rfl ?_))))
     refine W.qgF rfl rfl (.move (.t rfl)) rfl ?_; refine W.qgF rfl rfl (.ata 3 (.c rfl) rfl (.c rfl) Tryz.underlying22 ty3 (fun hg => by omega)) rfl ?_; refine W.qgF rfl rfl (.lda1 3 k 0 (.c rfl) rfl hgs (by omega) rfl rfl rfl ag3) rfl ?_; refine W.qgF rfl rfl (.eqi (.c rfl) .k) rfl ?_; refine W.q (.or (.t rfl) ⟨_, _, rfl, rfl, by ((simp; done))⟩) rfl ?_; refine W.n ?_; refine W.h ?_; refine W.cond (.t rfl) (fun hc_t66 => ?_) (fun hc_t66 => ?_)
     ·have hst2 : Sch.rowc sz i row (Sch.rndc sz A (o, false) i) (k + 1) = Sch.rowc sz i row (Sch.rndc sz A (o, false) i) k := by rw [Sch.rowc_succ, hto]; unfold Sch.stepc; refine if_pos (.inr ?_); simpa using hc_t66
      refine W.ex (.he (.bh (.h (.r (.q (.add (.t rfl) .k (fun _ => by omega)) rfl (.mv rfl rfl (.n (.h ?_)))))))); refine W.is (t := 8) (av' := .bool (Sch.rowc sz i row (Sch.rndc sz A (o, false) i) (k + 1)).2) rfl (congrArg AV.bool (by rw [hst2])) ?_
      rw [← hst2]
      refine W.reach (D := []) (k + 1) ⟨rfl, rfl, rfl, rfl, rfl, rfl, rfl, rfl, rfl, rfl, rfl, rfl, trivial⟩ (.refl _) ⟨hlt, by show 8 - (k + 1) < 8 - k; omega⟩
     ·have h66 : ¬ (to < 0 ∨ (Sch.rowc sz i row (Sch.rndc sz A (o, false) i) k).1.getD to.toNat 0 < 0 ∨ sz.getD k 0 = 0) := by have hn0 : ¬ to < 0 := (by omega); simp only [hn0, false_or]; simpa using hc_t66
      refine W.k (.h (.s ?_)); refine W.drawn (by kernel_rfl) (by kernel_rfl) ?_; refine DP.q (.move (.t rfl)) rfl (.q (.nilc (.t rfl)) rfl (.q (.fab (.t rfl) fa76_2) rfl (.q (.ldb1 2 (.t rfl) rfl ag22 rfl) rfl (.q (.move (.t rfl)) rfl (.q (.ata 3 (.t rfl) rfl (.t rfl) Tryz.underlying22 ty3 (fun hg => by omega)) rfl (.q (.lda1 3 k 0 (.t rfl) rfl hgs (by omega) rfl rfl rfl ag3) rfl (.q (.move (.t rfl)) rfl (.q (.move (.t rfl)) rfl ?_)))))))); refine DP.q (.ata 0 (.t rfl) rfl (.t rfl) Tryz.underlying22 ty3 (fun hg => by rw [hol]; omega)) rfl ?_; refine DP.q (.lda1 0 to.toNat 0 (.t rfl) rfl hgo (by omega) rfl rfl rfl ag3) rfl (.q (.addw (.t rfl) (.t rfl)) rfl ?_)
      refine DP.q (.assign (.t rfl)) rfl ?_; refine DP.nil ?_; refine W.h ?_; refine W.s ?_; refine W.r ?_; refine W.q (.move (.t rfl)) rfl ?_; refine W.q (.move (.t rfl)) rfl ?_; refine W.q (.ata 0 (.t rfl) rfl (.t rfl) Tryz.underlying22 ty3 (fun hg => by rw [hol]; omega)) rfl ?_; refine W.q (.lda1 0 i 0 (.t rfl) rfl hgi (by omega) rfl rfl rfl ag3) rfl ?_; refine W.q (.lti (.t rfl) .k) rfl ?_; refine W.q (.move (.t rfl)) rfl ?_; refine W.qgF rfl rfl (.move (.t rfl)) rfl ?_; refine W.qgF rfl rfl (.move (.t rfl)) rfl ?_; refine W.qgF rfl rfl (.move (.t rfl)) rfl ?_; refine W.qgF rfl rfl (.ata 0 (.c rfl) rfl (.c rfl) Tryz.underlying22 ty3 (fun hg => by rw [hol]; omega)) rfl ?_; refine W.qgF rfl rfl (.lda1 0 i 0 (.c rfl) rfl hgi (by omega) rfl rfl rfl ag3) rfl ?_; refine W.qgF rfl rfl (.lti (.c rfl) (.c rfl)) rfl ?_; refine W.q (.or (.t rfl) ⟨_, _, rfl, rfl, by ((simp; done))⟩) rfl ?_; refine W.n ?_; refine W.h ?_; refine W.cond (.t rfl) (fun hc_t91 => ?_) (fun hc_t91 => ?_)
      ·have hst2 : Sch.rowc sz i row (Sch.rndc sz A (o, false) i) (k + 1) = ((Sch.rowc sz i row (Sch.rndc sz A (o, false) i) k).1.set i (Sch.wr (sz.getD k 0 + (Sch.rowc sz i row (Sch.rndc sz A (o, false) i) k).1.getD to.toNat 0)), true) := by rw [Sch.rowc_succ, hto]; unfold Sch.stepc; rw [if_neg h66]; refine if_pos ?_; simpa [Sch.wr] using hc_t91
       refine W.r (.mv rfl rfl (.mv rfl rfl (.mv rfl rfl ?_))); refine W.q (.ata 0 (.t rfl) rfl (.t rfl) Tryz.underlying22 ty3 (fun hg => by rw [hol]; omega)) rfl ?_; refine W.sta 0 i 0 (e := AV.int ((Sch.rowc sz i row (Sch.rndc sz A (o, false) i) k).1.getD i 0)) (e' := AV.int (Sch.wr (sz.getD k 0 + (Sch.rowc sz i row (Sch.rndc sz A (o, false) i) k).1.getD to.toNat 0))) (.t rfl) (.t rfl) rfl hgi (by omega) ty3 rfl rfl rfl rfl rfl rfl rfl ?_; refine W.q (.assign .k) rfl (.n (.bn (.h (.r (.q (.add (.t rfl) .k (fun _ => by omega)) rfl (.mv rfl rfl (.n (.h ?_)))))))); refine W.is (t := 8) (av' := .bool (Sch.rowc sz i row (Sch.rndc sz A (o, false) i) (k + 1)).2) rfl (congrArg AV.bool (by rw [hst2])) ?_
       rw [← List.map_set, show (Sch.rowc sz i row (Sch.rndc sz A (o, false) i) k).1.set i (Sch.wr (sz.getD k 0 + (Sch.rowc sz i row (Sch.rndc sz A (o, false) i) k).1.getD to.toNat 0)) = (Sch.rowc sz i row (Sch.rndc sz A (o, false) i) (k + 1)).1 from by rw [hst2]]
       refine W.reach (D := []) (k + 1) ⟨rfl, rfl, rfl, rfl, rfl, rfl, rfl, rfl, rfl, rfl, rfl, rfl, trivial⟩ (.refl _) ⟨hlt, by show 8 - (k + 1) < 8 - k; omega⟩
      ·have hst2 : Sch.rowc sz i row (Sch.rndc sz A (o, false) i) (k + 1) = Sch.rowc sz i row (Sch.rndc sz A (o, false) i) k := by rw [Sch.rowc_succ, hto]; unfold Sch.stepc; rw [if_neg h66]; refine if_neg ?_; simpa [Sch.wr] using hc_t91
       refine W.k (.bn (.h (.r (.q (.add (.t rfl) .k (fun _ => by omega)) rfl (.mv rfl rfl (.n (.h ?_))))))); refine W.is (t := 8) (av' := .bool (Sch.rowc sz i row (Sch.rndc sz A (o, false) i) (k + 1)).2) rfl (congrArg AV.bool (by rw [hst2])) ?_
       rw [← hst2]
       refine W.reach (D := []) (k + 1) ⟨rfl, rfl, rfl, rfl, rfl, rfl, rfl, rfl, rfl, rfl, rfl, rfl, trivial⟩ (.refl _) ⟨hlt, by show 8 - (k + 1) < 8 - k; omega⟩
    ·subst hend
     refine W.s (.r (.q (.lti (.t rfl) (.t rfl)) rfl (.n (.h (.s ?_))))); refine W.isb 44 false rfl (by exact decide_eq_false (by omega)) ?_; refine W.condF (.t rfl) (.ex (.he (.he (.bh (.bn (.h (.r (.q (.add (.t rfl) .k (fun _ => by omega)) rfl (.mv rfl rfl (.n (.h ?_)))))))))))
     rw [← hsi]
     refine W.reach (D := []) (i + 1) ⟨rfl, rfl, rfl, rfl, rfl, rfl, rfl, trivial⟩ (.refl _) ⟨hlti, by show A.next.length - (i + 1) < A.next.length - i; omega⟩
   ·rw [hend]
    have hrl2 := Sch.rndc_len sz A (o, false) A.next.length
    have hor2 : ((Sch.rndc sz A (o, false) A.next.length).2 = true ∧ Sch.tgo sz A m (Sch.rndc sz A (o, false) A.next.length).1 = some out) ∨ ((Sch.rndc sz A (o, false) A.next.length).2 = false ∧ (Sch.rndc sz A (o, false) A.next.length).1 = out) := by
     split at hrun
     ·rename_i h; exact .inl ⟨h, hrun⟩
     ·rename_i h; exact .inr ⟨Bool.eq_false_iff.2 h, Option.some.inj hrun⟩
    refine W.s ?_; refine W.r ?_; refine W.q (.lti (.t rfl) (.t rfl)) rfl ?_; refine W.n ?_; refine W.h ?_; refine W.s ?_; refine W.isb 37 false rfl (by exact decide_eq_false (by omega)) ?_; refine W.condF (.t rfl) ?_; refine W.ex ?_; refine W.he ?_; refine W.he ?_; refine W.bh ?_; refine W.bn ?_; refine W.h ?_; refine W.reach (D := []) (m, (Sch.rndc sz A (o, false) A.next.length).1, (Sch.rndc sz A (o, false) A.next.length).2) ⟨rfl, rfl, rfl, rfl, trivial⟩ (.refl _) ⟨⟨by rw [hrl2]; exact hol0, hor2⟩, by have h1 : (if true = true then m + 1 + 1 else 0) = m + 2 := if_pos rfl; show (if (Sch.rndc sz A (o, false) A.next.length).2 = true then m + 1 else 0) < (if true = true then m + 1 + 1 else 0); rw [h1]; split <;> omega⟩
  ·skip
   refine W.s ?_; refine W.s ?_; refine W.r ?_; refine W.q (.move (.t rfl)) rfl ?_; refine W.n ?_; refine W.h ?_; refine W.condF (.t rfl) ?_; refine W.ex ?_; refine W.he ?_; refine W.he ?_; refine W.bh ?_; refine W.h ?_; refine W.s ?_; refine W.r ?_; refine W.q (.move (.t rfl)) rfl ?_; refine W.q (.assign (.t rfl)) rfl ?_; refine W.n ?_; refine W.h ?_; refine W.ret ?_; refine W.freeze (M1 := [.box b 76 [.sl 3 (ts.map tpv), .sl 2 (as_.map Au.avx), .lit vs], .arr vs 3 1 (sz.map AV.int)]) (M2 := [.box b 76 [.sl 3 (ts.map tpv), .sl 2 (as_.map Au.avx), .lit vs], .arr vs 3 1 (sz.map AV.int)]) (D := [_]) (v := v17) (L' := [(4, true, .sl 1 (o.map AV.int))]) (List.Perm.cons _ <| (List.perm_middle (l₁ := [_])).trans <| List.Perm.cons _ <| (List.perm_middle (l₁ := [_])).trans <| List.Perm.cons _ <| List.Perm.cons _ <| .refl _) ⟨⟨_, rfl, .one .hit⟩, trivial⟩ (FrzMs.refl _) ?_; refine W.retn (M' := [.box b 76 [.sl 3 (ts.map tpv), .sl 2 (as_.map Au.avx), .lit vs], .arr vs 3 1 (sz.map AV.int)]) (D := []) (rs := [.tmp 4]) (avs := [_]) Tryz.results90 ⟨rfl, trivial⟩ rfl (.refl _) ?_
   exact ⟨rfl, rfl⟩
end WToGo
end Go.Proofs.YtphlkdbglpcikaaGreatDoor
end
section
namespace Go.Proofs.YtphlkdbglpcikaaGreatDoor
open Go.Vl
open Y
namespace WMeas
theorem c_measure (b : Nat) (ts : List Tp) (as_ : List Au) (has : as_.length = ts.length) (hsh : ∀ A ∈ as_, A.Shape ∧ A.next.length ≤ 100 ∧ ∀ r ∈ A.next, ∀ k, k < 8 → 0 ≤ r.getD k (-1) → k < ts.length) (hts : ts.length ≤ 100) (fin : List Int) (hfin : Sch.sizesOf ts as_ = some fin) : FnC Tryz.prog 53 [.lit (.pointer (some ⟨b, 0, none⟩))] [.box b 76 [.sl 3 (ts.map tpv), .sl 2 (as_.map Au.avx), .lit (.slice none 0 0)]] (fun r M => r = .tup [] ∧ ∃ vs, M = [.box b 76 [.sl 3 (ts.map tpv), .sl 2 (as_.map Au.avx), .lit vs], .arr vs 3 1 (fin.map AV.int)]) :=  by
 refine FnC.mk Tryz.func53 (by kernel_rfl) rfl Tryz.ntmps53 rfl (fun w0 F => ?_)
 have hnl : (ts.map tpv).length = ts.length := List.length_map ..
 have hal : (as_.map Au.avx).length = as_.length := List.length_map ..
 refine W.s (.r (.mv rfl rfl (.mv rfl rfl (.q (.nilc (.t rfl)) rfl (.q (.fab (.t rfl) fa76_0) rfl (.q (.ldb1 0 (.t rfl) rfl ag23 rfl) rfl (.q (.lensl (.t rfl) Tryz.underlying23) rfl ?_)))))))
 refine W.mk (.t rfl) (.t rfl) Tryz.underlying22 ty3 rfl rfl rfl rfl rfl (by omega) rfl ?_; intro v13; refine W.arr_inv 0 rfl (fun a13 n13 c13 h13 => ?_)
 subst h13
 have h00 : List.replicate (ts.map tpv).length (AV.int 0) = (List.replicate ts.length (0 : Int)).map AV.int := by rw [hnl, List.map_replicate]
 refine W.perm (List.Perm.of_eq (show _ = [.arr (.slice a13 n13 c13) 3 1 ((List.replicate ts.length (0 : Int)).map AV.int), .box b 76 [.sl 3 (ts.map tpv), .sl 2 (as_.map Au.avx), .lit (.slice none 0 0)]] from by show (ME.arr _ _ _ (List.replicate (ts.map tpv).length (AV.int 0)) :: _) = _; rw [h00])) ?_; refine W.q (.nilc (.t rfl)) rfl (.q (.fab (.t rfl) fa76_2) rfl (.stb 1 (.t rfl) (.t rfl) rfl ty22 rfl rfl rfl (.n (.h (.s (.r (.q (.assign .k) rfl (.n (.h (.b ?_)))))))))); refine W.loop (D := []) (ι := Nat × List Int × Bool) (fun z => [(2, true, .bool z.2.2), (0, true, .lit (.pointer (some ⟨b, 0, none⟩)))]) (fun z => [.arr (.slice a13 n13 c13) 3 1 (z.2.1.map AV.int), .box b 76 [.sl 3 (ts.map tpv), .sl 2 (as_.map Au.avx), .lit (.slice a13 n13 c13)]]) (fun z => z.2.1.length = ts.length ∧ ((z.2.2 = true ∧ Sch.mso ts as_ z.1 z.2.1 = some fin) ∨ (z.2.2 = false ∧ z.2.1 = fin))) (fun z => if z.2.2 = true then z.1 + 1 else 0) (10, List.replicate ts.length 0, true) ⟨rfl, rfl, trivial⟩ (.refl _) ⟨List.length_replicate, .inl ⟨rfl, hfin⟩⟩ ?_
 rintro ⟨f, z, mo⟩ ⟨hzl, hor⟩
 dsimp only at hzl hor ⊢
 rcases hor with ⟨rfl, hrun⟩ | ⟨rfl, rfl⟩
 ·obtain ⟨m, rfl⟩ : ∃ m, f = m + 1 := by cases f; (cases hrun); exact ⟨_, rfl⟩
  simp only [Sch.mso] at hrun
  obtain ⟨rr, hrr⟩ : ∃ r, Sch.rndm ts as_ (z, false) ts.length = some r := by
   cases h : Sch.rndm ts as_ (z, false) ts.length with
   | none => rw [h] at hrun; cases hrun
   | some r => exact ⟨r, rfl⟩
  rw [hrr] at hrun
  dsimp only at hrun
  refine W.s (.s (.r (.mv rfl rfl (.n (.h (.condT (.t rfl) (.k (.h (.b (.s (.r (.q (.assign .k) rfl (.n (.h (.s (.r (.mv rfl rfl (.q (.nilc (.t rfl)) rfl (.q (.fab (.t rfl) fa76_0) rfl (.q (.ldb1 1 (.t rfl) rfl ag23 rfl) rfl (.q (.lensl (.t rfl) Tryz.underlying23) rfl (.q (.move .k) rfl (.n ?_))))))))))))))))))))))); refine W.h (.b ?_); refine W.loop (D := []) (ι := Nat × List Int × Bool) (fun q => [(22, true, .int (q.1 : Int)), (21, true, .int ((ts.map tpv).length : Int)), (20, true, .sl 3 (ts.map tpv)), (0, true, .lit (.pointer (some ⟨b, 0, none⟩))), (2, true, .bool q.2.2)]) (fun q => [.arr (.slice a13 n13 c13) 3 1 (q.2.1.map AV.int), .box b 76 [.sl 3 (ts.map tpv), .sl 2 (as_.map Au.avx), .lit (.slice a13 n13 c13)]]) (fun q => q.1 ≤ ts.length ∧ Sch.rndm ts as_ (z, false) q.1 = some q.2 ∧ q.2.1.length = ts.length) (fun q => ts.length - q.1) (0, z, false) ⟨rfl, rfl, rfl, rfl, rfl, trivial⟩ (.refl _) ⟨Nat.zero_le _, rfl, hzl⟩ ?_
  rintro ⟨i, s⟩ ⟨hi, hs, hsl⟩
  dsimp only at hi hs hsl ⊢
  rcases (show i < ts.length ∨ i = ts.length from by omega) with hlt | hend
  ·have hgt := getD_mapG tpv Sch.dT ts i hlt
   have hgA := getD_mapG Au.avx Sch.dA as_ i (by omega)
   have hAm := getD_memG Sch.dA as_ i (by omega)
   have hgi := getD_map s.1 i (by omega)
   obtain ⟨s2, hs2⟩ := Sch.rndm_some hrr (i + 1) hlt
   rw [Sch.rndm_succ hs] at hs2
   have hstep := hs2
   refine W.s (.r (.q (.lti (.t rfl) (.t rfl)) rfl (.n (.h (.s ?_))))); refine W.isb 23 true rfl (by exact decide_eq_true (by omega)) ?_; refine W.condT (.t rfl) (.k (.h (.s (.b (.s (.r (.mv rfl rfl ?_))))))); refine W.q (.at (E := 28) (.t rfl) (.t rfl) Tryz.underlying23 ty28 (fun _ => ⟨by omega, hgt⟩) rfl rfl) rfl ?_; refine W.q (.lden (.t rfl) ag28 ty28 rfl rfl) rfl ?_
   refine W.alloc ty28 rfl rfl ?_; intro b4; refine W.q (.assign (.t rfl)) rfl ?_
   refine W.stb 0 (.t rfl) (.t rfl) rfl ty28 rfl rfl rfl (.n (.h (.s (.r (.q (.assign .k) rfl (.n (.h (.s (.s (.r (.q (.fab (.t rfl) fa28_0) rfl (.q (.ldb1 0 (.t rfl) rfl ag9 rfl) rfl ?_))))))))))))
   refine W.q (.nes (.t rfl) .k) rfl ?_; refine W.n ?_; refine W.h ?_; refine W.cond (.t rfl) (fun hc_t29 => ?_) (fun hc_t29 => ?_)
   ·have hne : ¬ (ts.getD i Sch.dT).name = [] := by simpa using hc_t29
    unfold Sch.stepm at hstep
    rw [if_neg hne] at hstep
    obtain ⟨o, hto⟩ : ∃ o, Sch.toGo s.1 (as_.getD i Sch.dA) = some o := by
     cases h : Sch.toGo s.1 (as_.getD i Sch.dA) with
     | none => rw [h] at hstep; cases hstep
     | some o => exact ⟨o, rfl⟩
    rw [hto] at hstep
    dsimp only at hstep
    have hol := Sch.toGo_len hto
    have hpos := (hsh _ hAm).1.pos
    have hfnl := (hsh _ hAm).1.fin
    have hg0 := getD_map o 0 (by omega)
    refine W.s (.r (.mv rfl rfl (.mv rfl rfl (.q (.nilc (.t rfl)) rfl (.q (.fab (.t rfl) fa76_1) rfl (.q (.ldb1 2 (.t rfl) rfl ag74 rfl) rfl (.mv rfl rfl ?_))))))); refine W.q (.at (E := 62) (.t rfl) (.t rfl) Tryz.underlying74 ty62 (fun _ => ⟨by omega, hgA⟩) rfl rfl) rfl ?_; refine W.q (.lden (.t rfl) ag62 ty62 rfl rfl) rfl ?_
    refine W.call (WToGo.c_ToGo b ts as_ (.slice a13 n13 c13) s.1 (as_.getD i Sch.dA) (hsh _ hAm).1 (hsh _ hAm).2.1 (fun r hr k hk h => by rw [hsl]; exact (hsh _ hAm).2.2 r hr k hk h) o hto) ⟨(.t rfl), (.t rfl), trivial⟩ (((List.perm_middle (l₁ := [_, _])).trans <| List.Perm.cons _ <| (List.perm_middle (l₁ := [_])).trans <| List.Perm.cons _ <| List.Perm.cons _ <| .refl _)) rfl ?_
    rintro _ _ ⟨rfl, rfl⟩
    refine W.perm ((List.perm_middle (l₁ := [_, _])).trans <| List.Perm.cons _ <| (List.perm_middle (l₁ := [_])).trans <| List.Perm.cons _ <| List.Perm.cons _ <| .refl _) ?_; refine W.q (.at (E := 3) (.t rfl) .k Tryz.underlying22 ty3 (fun _ => ⟨by omega, hg0⟩) rfl rfl) rfl ?_
    refine W.q (.lde1 (.t rfl) ag3) rfl ?_
    refine W.q (.assign (.t rfl)) rfl ?_; refine W.n ?_; refine W.h ?_; refine W.s ?_; refine W.s ?_; refine W.r ?_; refine W.q (.move (.t rfl)) rfl ?_; refine W.q (.lti (.t rfl) .k) rfl ?_; refine W.n ?_; refine W.h ?_; refine W.cond (.t rfl) (fun hc_t42 => ?_) (fun hc_t42 => ?_)
    ·have h42 := of_decide_eq_true hc_t42
     rw [if_pos h42] at hstep
     refine W.ex (.he (.he (.bh (.h (.r (.q (.add (.t rfl) .k (fun _ => by omega)) rfl ?_))))))
     refine W.q (.move (.t rfl)) rfl ?_; refine W.n ?_; refine W.h ?_; refine W.reach (D := [_]) (i + 1, s.1, s.2) ⟨rfl, rfl, rfl, rfl, rfl, trivial⟩ ((List.perm_middle (l₁ := [_])).trans <| List.Perm.cons _ <| (List.perm_middle (l₁ := [_])).trans <| List.Perm.cons _ <| List.Perm.cons _ <| .refl _) ⟨⟨hlt, by rw [Sch.rndm_succ hs, hs2]; exact hstep.symm, by have h9 := Sch.stepm_len hs2; rw [← Option.some.inj hstep] at h9; exact h9.trans hsl⟩, by show ts.length - (i + 1) < ts.length - i; omega⟩
    ·have h42 := of_decide_eq_false hc_t42
     rw [if_neg (by omega)] at hstep
     refine W.k (.h (.r (.mv rfl rfl (.mv rfl rfl (.q (.addw (.t rfl) (.t rfl)) rfl ?_)))))
     rw [show (IntKind.i64.wrap (1 + o.getD 0 0)) = Sch.wr (1 + o.getD 0 0) from rfl]
     obtain ⟨nn, hnn⟩ : ∃ z : Int, Sch.wr (1 + o.getD 0 0) = z := ⟨_, rfl⟩
     rw [hnn] at hstep ⊢
     refine W.asg rfl rfl (.n (.h (.s (.r (.mv rfl rfl (.q (.nilc (.t rfl)) rfl (.q (.fab (.t rfl) fa76_2) rfl (.q (.ldb1 2 (.t rfl) rfl ag22 rfl) rfl (.mv rfl rfl ?_))))))))); refine W.q (.ata 1 (.t rfl) rfl (.t rfl) Tryz.underlying22 ty3 (fun hg => by rw [List.length_map]; omega)) rfl ?_; refine W.q (.lda1 1 i 0 (.t rfl) rfl hgi (by omega) rfl rfl rfl ag3) rfl (.q (.eqi (.t rfl) .k) rfl (.mv rfl rfl (.qgF rfl rfl (.move (.t rfl)) rfl (.qgF rfl rfl (.move (.t rfl)) rfl (.qgF rfl rfl (.nilc (.c rfl)) rfl (.qgF rfl rfl (.fab (.c rfl) fa76_2) rfl (.qgF rfl rfl (.ldb1 2 (.c rfl) rfl ag22 rfl) rfl ?_)))))))
     refine W.qgF rfl rfl (.move (.t rfl)) rfl ?_; refine W.qgF rfl rfl (.ata 1 (.c rfl) rfl (.c rfl) Tryz.underlying22 ty3 (fun hg => by rw [List.length_map]; omega)) rfl ?_; refine W.qgF rfl rfl (.lda1 1 i 0 (.c rfl) rfl hgi (by omega) rfl rfl rfl ag3) rfl ?_; refine W.qgF rfl rfl (.lti (.c rfl) (.c rfl)) rfl ?_; refine W.q (.or (.t rfl) ⟨_, _, rfl, rfl, by ((simp; done))⟩) rfl ?_; refine W.n ?_; refine W.h ?_; refine W.cond (.t rfl) (fun hc_t64 => ?_) (fun hc_t64 => ?_)
     ·have hu : Sch.upd s i nn = (s.1.set i nn, true) := if_pos (by simpa using hc_t64)
      refine W.r (.mv rfl rfl (.q (.nilc (.t rfl)) rfl (.q (.fab (.t rfl) fa76_2) rfl (.q (.ldb1 2 (.t rfl) rfl ag22 rfl) rfl (.mv rfl rfl (.mv rfl rfl ?_)))))); refine W.q (.ata 1 (.t rfl) rfl (.t rfl) Tryz.underlying22 ty3 (fun hg => by rw [List.length_map]; omega)) rfl ?_; refine W.sta 1 i 0 (e := AV.int (s.1.getD i 0)) (e' := AV.int nn) (.t rfl) (.t rfl) rfl hgi (by omega) ty3 rfl rfl rfl rfl rfl rfl rfl ?_; refine W.q (.assign .k) rfl (.n (.bn (.h (.r (.q (.add (.t rfl) .k (fun _ => by omega)) rfl (.mv rfl rfl (.n (.h ?_))))))))
      rw [hu] at hstep
      rw [← List.map_set]
      refine W.reach (D := [_]) (i + 1, s.1.set i nn, true) ⟨rfl, rfl, rfl, rfl, rfl, trivial⟩ ((List.perm_middle (l₁ := [_])).trans <| List.Perm.cons _ <| (List.perm_middle (l₁ := [_])).trans <| List.Perm.cons _ <| List.Perm.cons _ <| .refl _) ⟨⟨hlt, by rw [Sch.rndm_succ hs, hs2]; exact hstep.symm, by have h9 := Sch.stepm_len hs2; rw [← Option.some.inj hstep] at h9; exact h9.trans hsl⟩, by show ts.length - (i + 1) < ts.length - i; omega⟩
     ·have hu : Sch.upd s i nn = s := if_neg (by simpa using hc_t64)
      refine W.k (.bn (.h (.r (.q (.add (.t rfl) .k (fun _ => by omega)) rfl (.mv rfl rfl (.n (.h ?_)))))))
      rw [hu] at hstep
      refine W.reach (D := [_]) (i + 1, s.1, s.2) ⟨rfl, rfl, rfl, rfl, rfl, trivial⟩ ((List.perm_middle (l₁ := [_])).trans <| List.Perm.cons _ <| (List.perm_middle (l₁ := [_])).trans <| List.Perm.cons _ <| List.Perm.cons _ <| .refl _) ⟨⟨hlt, by rw [Sch.rndm_succ hs, hs2]; exact hstep.symm, by have h9 := Sch.stepm_len hs2; rw [← Option.some.inj hstep] at h9; exact h9.trans hsl⟩, by show ts.length - (i + 1) < ts.length - i; omega⟩
   ·have hne : (ts.getD i Sch.dT).name = [] := by simpa using hc_t29
    unfold Sch.stepm at hstep
    rw [if_pos hne] at hstep
    obtain ⟨nn, hnn⟩ : ∃ z : Int, (1 : Int) = z := ⟨_, rfl⟩
    refine W.is (t := 5) (av' := .int nn) rfl (congrArg AV.int hnn) ?_
    rw [hnn] at hstep
    refine W.k (.h (.s (.r (.mv rfl rfl (.q (.nilc (.t rfl)) rfl (.q (.fab (.t rfl) fa76_2) rfl (.q (.ldb1 2 (.t rfl) rfl ag22 rfl) rfl (.mv rfl rfl ?_)))))))); refine W.q (.ata 1 (.t rfl) rfl (.t rfl) Tryz.underlying22 ty3 (fun hg => by rw [List.length_map]; omega)) rfl ?_; refine W.q (.lda1 1 i 0 (.t rfl) rfl hgi (by omega) rfl rfl rfl ag3) rfl (.q (.eqi (.t rfl) .k) rfl (.mv rfl rfl (.qgF rfl rfl (.move (.t rfl)) rfl (.qgF rfl rfl (.move (.t rfl)) rfl (.qgF rfl rfl (.nilc (.c rfl)) rfl (.qgF rfl rfl (.fab (.c rfl) fa76_2) rfl (.qgF rfl rfl (.ldb1 2 (.c rfl) rfl ag22 rfl) rfl ?_)))))))
    refine W.qgF rfl rfl (.move (.t rfl)) rfl ?_; refine W.qgF rfl rfl (.ata 1 (.c rfl) rfl (.c rfl) Tryz.underlying22 ty3 (fun hg => by rw [List.length_map]; omega)) rfl ?_; refine W.qgF rfl rfl (.lda1 1 i 0 (.c rfl) rfl hgi (by omega) rfl rfl rfl ag3) rfl ?_; refine W.qgF rfl rfl (.lti (.c rfl) (.c rfl)) rfl ?_; refine W.q (.or (.t rfl) ⟨_, _, rfl, rfl, by ((simp; done))⟩) rfl ?_; refine W.n ?_; refine W.h ?_; refine W.cond (.t rfl) (fun hc_t64 => ?_) (fun hc_t64 => ?_)
    ·have hu : Sch.upd s i nn = (s.1.set i nn, true) := if_pos (by simpa using hc_t64)
     refine W.r (.mv rfl rfl (.q (.nilc (.t rfl)) rfl (.q (.fab (.t rfl) fa76_2) rfl (.q (.ldb1 2 (.t rfl) rfl ag22 rfl) rfl (.mv rfl rfl (.mv rfl rfl ?_)))))); refine W.q (.ata 1 (.t rfl) rfl (.t rfl) Tryz.underlying22 ty3 (fun hg => by rw [List.length_map]; omega)) rfl ?_; refine W.sta 1 i 0 (e := AV.int (s.1.getD i 0)) (e' := AV.int nn) (.t rfl) (.t rfl) rfl hgi (by omega) ty3 rfl rfl rfl rfl rfl rfl rfl ?_; refine W.q (.assign .k) rfl (.n (.bn (.h (.r (.q (.add (.t rfl) .k (fun _ => by omega)) rfl (.mv rfl rfl (.n (.h ?_))))))))
     rw [hu] at hstep
     rw [← List.map_set]
     refine W.reach (D := [_]) (i + 1, s.1.set i nn, true) ⟨rfl, rfl, rfl, rfl, rfl, trivial⟩ ((List.perm_middle (l₁ := [_])).trans <| List.Perm.cons _ <| (List.perm_middle (l₁ := [_])).trans <| List.Perm.cons _ <| List.Perm.cons _ <| .refl _) ⟨⟨hlt, by rw [Sch.rndm_succ hs, hs2]; exact hstep.symm, by have h9 := Sch.stepm_len hs2; rw [← Option.some.inj hstep] at h9; exact h9.trans hsl⟩, by show ts.length - (i + 1) < ts.length - i; omega⟩
    ·have hu : Sch.upd s i nn = s := if_neg (by simpa using hc_t64)
     refine W.k (.bn (.h (.r (.q (.add (.t rfl) .k (fun _ => by omega)) rfl (.mv rfl rfl (.n (.h ?_)))))))
     rw [hu] at hstep
     refine W.reach (D := [_]) (i + 1, s.1, s.2) ⟨rfl, rfl, rfl, rfl, rfl, trivial⟩ ((List.perm_middle (l₁ := [_])).trans <| List.Perm.cons _ <| (List.perm_middle (l₁ := [_])).trans <| List.Perm.cons _ <| List.Perm.cons _ <| .refl _) ⟨⟨hlt, by rw [Sch.rndm_succ hs, hs2]; exact hstep.symm, by have h9 := Sch.stepm_len hs2; rw [← Option.some.inj hstep] at h9; exact h9.trans hsl⟩, by show ts.length - (i + 1) < ts.length - i; omega⟩
  ·subst hend
   rw [hrr] at hs
   obtain rfl := Option.some.inj hs
   have hor2 : (rr.2 = true ∧ Sch.mso ts as_ m rr.1 = some fin) ∨ (rr.2 = false ∧ rr.1 = fin) := by
    split at hrun
    ·rename_i h; exact .inl ⟨h, hrun⟩
    ·rename_i h; exact .inr ⟨Bool.eq_false_iff.2 h, Option.some.inj hrun⟩
   refine W.s ?_; refine W.r ?_; refine W.q (.lti (.t rfl) (.t rfl)) rfl ?_; refine W.n ?_; refine W.h ?_; refine W.s ?_; refine W.isb 23 false rfl (by exact decide_eq_false (by omega)) ?_; refine W.condF (.t rfl) ?_; refine W.ex ?_; refine W.he ?_; refine W.he ?_; refine W.bh ?_; refine W.bn ?_; refine W.h ?_; refine W.reach (D := []) (m, rr.1, rr.2) ⟨rfl, rfl, trivial⟩ (.refl _) ⟨⟨hsl, hor2⟩, by have h1 : (if true = true then m + 1 + 1 else 0) = m + 2 := if_pos rfl; show (if rr.2 = true then m + 1 else 0) < (if true = true then m + 1 + 1 else 0); rw [h1]; split <;> omega⟩
 ·skip
  refine W.s ?_; refine W.s ?_; refine W.r ?_; refine W.q (.move (.t rfl)) rfl ?_; refine W.n ?_; refine W.h ?_; refine W.condF (.t rfl) ?_; refine W.ex ?_; refine W.he ?_; refine W.he ?_; refine W.bh ?_; refine W.endn (M' := [.box b 76 [.sl 3 (ts.map tpv), .sl 2 (as_.map Au.avx), .lit (.slice a13 n13 c13)], .arr (.slice a13 n13 c13) 3 1 (z.map AV.int)]) (D := []) (rs := []) (avs := []) Tryz.results53 trivial rfl ((List.perm_middle (l₁ := [_])).trans <| List.Perm.cons _ <| List.Perm.cons _ <| .refl _) ?_
  exact ⟨rfl, _, rfl⟩
end WMeas
end Go.Proofs.YtphlkdbglpcikaaGreatDoor
end
section
namespace Go.Vl
open Go.RowKit (Below)
theorem Fr.of_below {w w' : World} (h : Below w.heap.size w w') : Fr w [] w' [] :=
 ⟨h.os, h.tape, h.output, h.size, fun k hk _ => ⟨h.block k hk, by simp⟩⟩
theorem FnP.of_below {P : Program} {f : FuncId} {args : List AV} {r : AV} (hc : CallOk P f)
 (h : ∀ (w : World) (F : List Nat) (vs : List Value), RepT w F args vs → Calls P f vs.toArray w fun e w' => ∃ v, e = .returned v ∧ Rep w' F r v ∧ Below w.heap.size w w') : FnP P f args r :=
 ⟨hc, fun w F vs hF hm ha => (h w F vs (by simpa [bl] using ha)).mono fun e w' ⟨v, he, hr, hb⟩ => ⟨v, r, [], he, ⟨rfl, rfl⟩, MOk.nil w' F, by simpa [bl] using hr, by simpa [bl] using Fr.of_below hb⟩⟩
theorem CallOk.of {P : Program} {f : FuncId} {fn : Func} (h1 : P.funcs[f]? = some fn) (h2 : (fn.name == "runtime.NumGoroutine") = false) (h3 : fn.body.isNone = false) : CallOk P f := ⟨fn, h1, h2, h3⟩
theorem RepE.strs {w : World} {N : List Nat} {l : List (List UInt8)} {row : List Value} (h : RepE w N 1 (l.map AV.str) row) (j : Nat) (x : List UInt8) (hj : l[j]? = some x) : row[j]? = some (.string ⟨x.toArray⟩) := by
 obtain ⟨h1, h2⟩ := RepE.get (i := j) (e := AV.str x) h (by rw [List.getElem?_map, hj]; rfl)
 simp only [RepC, Nat.mul_one] at h2
 have h3 : (List.take 1 (List.drop j row)) = [Value.string ⟨x.toArray⟩] := h2
 have : (List.take 1 (List.drop j row))[0]? = row[j]? := by simp [List.getElem?_take, List.getElem?_drop]
 rw [← this, h3]; rfl
theorem joinP {P : Program} {f : FuncId} (hc : CallOk P f)
 (h0 : ∀ (a : Option Addr) (c : Nat) (sep : ByteArray) (w : World), Calls P f #[.slice a 0 c, .string sep] w fun e w' => e = .returned (.string ⟨#[]⟩) ∧ w' = w)
 (h1 : ∀ (bk o c : Nat) (xs : List ByteArray) (sep : ByteArray) (w : World), (∀ (j : Nat) x, xs[j]? = some x → w.cell? ⟨bk, o + j, none⟩ = some (.string x)) → bk < w.heap.size → xs.length ≤ 140737488355328 → xs.length ≤ c →
  (Lib.join (xs.map (·.data.toList)) sep.data.toList).length ≤ 140737488355328 → Calls P f #[.slice (some ⟨bk, o, none⟩) xs.length c, .string sep] w fun e w' => e = .returned (.string ⟨(Lib.join (xs.map (·.data.toList)) sep.data.toList).toArray⟩) ∧ Below w.heap.size w w')
 (l : List (List UInt8)) (sep : List UInt8) (hl : l.length ≤ 140737488355328) (hj : (Lib.join l sep).length ≤ 140737488355328) : FnP P f [.sl 1 (l.map AV.str), .str sep] (.str (Lib.join l sep)) := by
 refine FnP.of_below hc fun w F vs ha => ?_
 simp only [RepT] at ha
 obtain ⟨v0, _, rfl, ⟨hs0, h2⟩, v1, _, rfl, ⟨hs1, h3⟩, rfl⟩ := ha
 have e1 : v1 = .string ⟨sep.toArray⟩ := Rep.lit_iff.1 (show Rep w F (.str sep) v1 from ⟨hs1, h3⟩)
 subst e1
 obtain ⟨a, cap, rfl, h4, h5, h6⟩ := Rep.sl_inv (show Rep w F (.sl 1 (l.map AV.str)) v0 from ⟨hs0, h2⟩)
 rw [List.length_map] at h4
 rcases h6 with h6 | ⟨b, off, cur, T, fr, rfl, hb, hcur, he⟩
 ·obtain rfl : l = [] := by simpa using h6
  refine (h0 a cap ⟨sep.toArray⟩ w).mono fun e w' ⟨e1, e2⟩ => ?_
  subst e2
  exact ⟨_, e1, Rep.lit _, Below.refl _ _⟩
 ·have hx : (l.map fun x => (⟨x.toArray⟩ : ByteArray)).map (·.data.toList) = l := by rw [List.map_map]; exact List.map_id' _
  have key := h1 b off cap (l.map fun x => (⟨x.toArray⟩ : ByteArray)) ⟨sep.toArray⟩ w (fun j x hjx => by
   rw [List.getElem?_map] at hjx
   obtain ⟨y, hy, rfl⟩ := Option.map_eq_some_iff.1 hjx
   have := RepE.strs he j y hy
   rw [cell_of hcur]
   rw [List.getElem?_drop, Array.getElem?_toList] at this
   exact this) (heap_lt hcur) (by rw [List.length_map]; exact hl) (by rw [List.length_map]; exact h4) (by rw [hx]; exact hj)
  rw [hx, List.length_map] at key
  rw [List.length_map]
  exact key.mono fun e w' ⟨e1, e2⟩ => ⟨_, e1, Rep.lit _, e2⟩
end Go.Vl
end
section
namespace Go.Vl
open Go.RowKit (Below)
theorem MOk.below {w w' : World} {M : List ME} {F : List Nat} (h : MOk w M F) (hb : Below w.heap.size w w') (hF : ∀ b ∈ F, b < w.heap.size) : MOk w' M F := by
 refine ⟨h.nodup, h.apart, fun m hm => ME.holds_keep (w := w) (N := bl M ++ F) ?_ (fun b hb' => ?_) (h.holds m hm)⟩
 ·intro b c T fr hn hc
  exact ⟨hn, (hb.block b (heap_lt hc)).trans hc⟩
 ·exact hb.block b (bl_lt h b (List.mem_flatMap.2 ⟨m, hm, hb'⟩))
theorem Fr.below {w w' : World} {N : List Nat} (h : Below w.heap.size w w') : Fr w N w' N :=
 ⟨h.os, h.tape, h.output, h.size, fun k hk hn => ⟨h.block k hk, hn⟩⟩
theorem FnC.belowM {P : Program} {f : FuncId} {args : List AV} {M0 : List ME} {r : AV} (hc : CallOk P f)
 (h : ∀ (w : World) (F : List Nat) (vs : List Value), MOk w M0 F → RepT w (bl M0 ++ F) args vs → Calls P f vs.toArray w fun e w' => ∃ v, e = .returned v ∧ Rep w' (bl M0 ++ F) r v ∧ Below w.heap.size w w') : FnC P f args M0 (fun r' M => r' = r ∧ M = M0) :=
 ⟨hc, fun w F vs hF hm ha => (h w F vs hm ha).mono fun e w' ⟨v, he, hr, hb⟩ => ⟨v, r, M0, he, ⟨rfl, rfl⟩, hm.below hb hF, hr, Fr.below hb⟩⟩
theorem lit_cell {w : World} {N : List Nat} {v u : Value} (h1 : (AV.lit v).sh = 0) (h3 : RepC w N (.lit v) [u]) : u = v := by
 simp only [RepC] at h3
 have e : v.cells.toList = [v] := by cases v <;> simp_all [AV.sh, shV, Value.cells]
 rw [e] at h3
 exact (List.cons.inj h3).1
end Go.Vl
end
section
namespace Go.Vl
open Go.RowKit (Below)
open Go.Sort
theorem RepE.ints {w : World} {N : List Nat} : ∀ {l : List Int} {row : List Value}, row.take l.length = l.map (Value.int .i64) → RepE w N 1 (l.map AV.int) row
 | [], row, _ => by simp only [List.map_nil, RepE]
 | n :: l, row, h => by
  cases row with
  | nil => simp at h
  | cons x row =>
   simp only [List.length_cons, List.take_succ_cons, List.map_cons, List.cons.injEq] at h
   simp only [List.map_cons, RepE]
   refine ⟨by simp, ?_, RepE.ints h.2⟩
   rw [h.1]
   simp only [RepC]; rfl
theorem RepE.toInts {w : World} {N : List Nat} : ∀ {l : List Int} {row : List Value}, RepE w N 1 (l.map AV.int) row → row.take l.length = l.map (Value.int .i64)
 | [], row, _ => by simp
 | n :: l, row, h => by
  simp only [List.map_cons, RepE] at h
  obtain ⟨h1, h2, h3⟩ := h
  cases row with
  | nil => simp at h1
  | cons x row =>
   have h2 : [x] = (Value.int .i64 n).cells.toList := by simpa [RepC] using h2
   have hx : x = .int .i64 n := by simpa [Value.cells] using h2
   rw [List.length_cons, List.take_succ_cons, List.map_cons, hx]
   congr 1
   exact RepE.toInts (w := w) (N := N) h3
theorem FnC.belowRow {P : Program} {f : FuncId} {args : List AV} {M0 : List ME} {I : TypeId} {l : List Int} (hc : CallOk P f)
 (h : ∀ (w : World) (F : List Nat) (vs : List Value), (∀ b ∈ F, b < w.heap.size) → MOk w M0 F → RepT w (bl M0 ++ F) args vs → Calls P f vs.toArray w fun e w' => ∃ v, e = .returned v ∧ w'.ownsRow w.heap.size I 1 v l.length (l.map (Value.int .i64)) ∧ Below w.heap.size w w') :
 FnC P f args M0 (fun r M => ∃ v, r = .lit v ∧ M = .arr v I 1 (l.map AV.int) :: M0) := by
 refine ⟨hc, fun w F vs hF hm ha => (h w F vs hF hm ha).mono fun e w' ⟨v, he, hr, hb⟩ => ?_⟩
 have hm' := hm.below hb hF
 refine ⟨v, .lit v, .arr v I 1 (l.map AV.int) :: M0, he, ⟨v, rfl, rfl⟩, ?_, Rep.lit v, ?_⟩
 ·rcases hr.2 with ⟨rfl, h0⟩ | ⟨g, cap, cur, rfl, hbase, hg, h1, h2, h3, h4⟩
  ·have : l = [] := List.eq_nil_of_length_eq_zero h0
   subst this
   refine ⟨hm'.nodup, hm'.apart, fun m hmm => ?_⟩
   rcases List.mem_cons.1 hmm with rfl | hmm
   ·exact ⟨none, 0, rfl, Nat.le_refl _, by simp [maxLen], .inl ⟨rfl, rfl⟩⟩
   ·exact hm'.holds m hmm
  ·have hgn : g ∉ bl M0 ++ F := fun hg' => by
    rcases List.mem_append.1 hg' with h' | h'
    ·have := bl_lt hm g h'; omega
    ·have := hF g h'; omega
   have hbl : bl (.arr (.slice (some ⟨g, 0, none⟩) l.length cap) I 1 (l.map AV.int) :: M0) = g :: bl M0 := rfl
   refine ⟨?_, ?_, ?_⟩
   ·rw [hbl]
    exact List.nodup_cons.2 ⟨fun h' => hgn (List.mem_append_left _ h'), hm'.nodup⟩
   ·rw [hbl]
    intro b hb'
    rcases List.mem_cons.1 hb' with rfl | hb'
    ·exact fun h' => hgn (List.mem_append_right _ h')
    ·exact hm'.apart b hb'
   ·intro m hmm
    rw [hbl]
    rcases List.mem_cons.1 hmm with rfl | hmm
    ·refine ⟨some ⟨g, 0, none⟩, cap, by rw [List.length_map], by rw [List.length_map]; exact h1, h2, .inr ⟨g, 0, cur, 0, 0, rfl, hg, by omega, .inl (Nat.le_refl _), ?_⟩⟩
     rw [List.drop_zero]
     exact RepE.ints (by rw [Nat.mul_one] at h4; exact h4)
    ·have h5 := hm.holds m hmm
     refine ME.holds_keep (w := w) (N := bl M0 ++ F) ?_ (fun b hb' => hb.block b (bl_lt hm b (List.mem_flatMap.2 ⟨m, hmm, hb'⟩))) h5
     intro b c T fr hn hcc
     refine ⟨fun h' => ?_, (hb.block b (heap_lt hcc)).trans hcc⟩
     rcases List.mem_cons.1 h' with rfl | h'
     ·have := heap_lt hcc; omega
     ·exact hn h'
 ·have hF2 := Fr.below (N := bl M0) hb
  refine ⟨hF2.os, hF2.tape, hF2.output, hF2.size, fun k hk hn => ⟨(hF2.block k hk hn).1, fun h' => ?_⟩⟩
  rcases hr.2 with ⟨rfl, h0⟩ | ⟨g, cap, cur, rfl, hbase, _⟩
  ·exact hn h'
  ·have h' : k ∈ g :: bl M0 := h'
   rcases List.mem_cons.1 h' with rfl | h'
   ·omega
   ·exact hn h'
theorem take_putCells (cur : Array Value) (off : Nat) (ts : List Int) (h : off + ts.length ≤ cur.size) : ((putCells (Value.int .i64) off ts.toArray cur).toList.drop off).take ts.length = ts.map (Value.int .i64) := by
 apply List.ext_getElem?
 intro j
 by_cases hj : j < ts.length
 ·rw [List.getElem?_take_of_lt hj, List.getElem?_drop, Array.getElem?_toList]
  simp [putCells, hj, show off + j < cur.size by omega]
 ·rw [List.getElem?_take_eq_none (by omega), List.getElem?_eq_none (by simp; omega)]
theorem FnC.row {P : Program} {f : FuncId} {I : TypeId} {v : Value} {l : List Int} (hc : CallOk P f) (new : List Int) (hn : new.length = l.length) (m : Nat) (hm : m ≤ l.length) (rv : Option Addr → Nat → Value)
 (h0 : l = [] → ∀ (ad : Option Addr) (cap : Nat) (w : World), Calls P f #[.slice ad 0 cap] w fun e w' => e = .returned (rv ad cap) ∧ w' = w)
 (h1 : l ≠ [] → ∀ (g off cap : Nat) (w : World), Holds (Value.int .i64) w g off l.toArray → g < w.heap.size → l.length ≤ cap → cap ≤ maxLen → Calls P f #[.slice (some ⟨g, off, none⟩) l.length cap] w fun e w' => e = .returned (rv (some ⟨g, off, none⟩) cap) ∧ ∃ n os, w' = grow (putRow (Value.int .i64) (Sort.ahead w n) g off new.toArray) os) :
 FnC P f [.lit v] [.arr v I 1 (l.map AV.int)] (fun r M => ∃ ad cap, v = .slice ad l.length cap ∧ r = .lit (rv ad cap) ∧ M = [.arr (.slice ad m cap) I 1 ((new.take m).map AV.int)]) := by
 refine ⟨hc, fun w F vs hF hmk ha => ?_⟩
 simp only [RepT] at ha
 obtain ⟨v0, _, rfl, ⟨hs0, hr0⟩, rfl⟩ := ha
 have e0 : v0 = v := Rep.lit_iff.1 (show Rep w (bl [.arr v I 1 (l.map AV.int)] ++ F) (.lit v) v0 from ⟨hs0, hr0⟩)
 subst e0
 obtain ⟨ad, cap, rfl, hl1, hl2, h3⟩ := hmk.holds _ List.mem_cons_self
 rw [List.length_map] at *
 by_cases hl : l = []
 ·subst hl
  refine (h0 rfl ad cap w).mono fun e w' ⟨he, hw⟩ => ?_
  subst hw
  obtain rfl : m = 0 := by simpa using hm
  have hnew : new = [] := List.eq_nil_of_length_eq_zero hn
  subst hnew
  exact ⟨_, _, _, he, ⟨ad, cap, rfl, rfl, rfl⟩, hmk, Rep.lit _, Fr.refl _ _⟩
 ·rcases h3 with ⟨_, h3⟩ | ⟨g, off, cur, lo, hi, rfl, hg, hsz, hfr, he⟩
  ·have : l.length ≠ 0 := fun h => hl (List.eq_nil_of_length_eq_zero h)
   omega
  ·have hti := RepE.toInts he
   have hle : off + l.length ≤ cur.size := by omega
   have hH : Holds (Value.int .i64) w g off l.toArray := by
    intro j hj
    have hj' : j < l.length := by simpa using hj
    refine ⟨?_, ?_⟩
    ·rw [cell_of hg]
     have h5 : ((cur.toList.drop off).take l.length)[j]? = (l.map (Value.int .i64))[j]? := by rw [hti]
     rw [List.getElem?_take_of_lt hj', List.getElem?_drop, Array.getElem?_toList] at h5
     rw [h5]; simp [hj']
    ·simp only [World.frozen?, hg]
     rcases hfr with h5 | h5
     ·simp; omega
     ·simp; omega
   refine (h1 hl g off cap w hH (heap_lt hg) hl1 hl2).mono fun e w' ⟨he', n, os, hw⟩ => ?_
   subst hw
   have hg' : (grow (putRow (Value.int .i64) (Sort.ahead w n) g off new.toArray) os).heap[g]? = some (.cells (putCells (Value.int .i64) off new.toArray cur) I (lo, hi)) := by
    rw [heap_grow_old _ _ (by simpa using heap_lt hg)]
    simp [putRow, mapBlock, Sort.ahead, Array.getElem?_modify, hg, onCells]
   have hother : ∀ k, k < w.heap.size → k ≠ g → (grow (putRow (Value.int .i64) (Sort.ahead w n) g off new.toArray) os).heap[k]? = w.heap[k]? := fun k hk hne => by
    rw [heap_grow_old _ _ (by simpa using hk)]
    have hne' : ¬ g = k := fun e => hne e.symm
    simp [putRow, mapBlock, Sort.ahead, Array.getElem?_modify, hne']
   have htl : (new.take m).length = m := by rw [List.length_take]; omega
   refine ⟨_, _, [.arr (.slice (some ⟨g, off, none⟩) m cap) I 1 ((new.take m).map AV.int)], he', ⟨_, cap, rfl, rfl, rfl⟩, ⟨?_, ?_, ?_⟩, Rep.lit _, ?_⟩
   ·exact hmk.nodup
   ·exact hmk.apart
   ·intro q hq
    rw [List.mem_singleton.1 hq]
    refine ⟨some ⟨g, off, none⟩, cap, by rw [List.length_map, htl], by rw [List.length_map, htl]; omega, hl2, .inr ⟨g, off, _, lo, hi, rfl, hg', by simpa [putCells] using hsz, hfr, ?_⟩⟩
    refine RepE.ints ?_
    rw [htl]
    have := take_putCells cur off new (by omega)
    have h6 := congrArg (List.take m) this
    rw [List.take_take, Nat.min_eq_left (by omega), ← List.map_take] at h6
    exact h6
   ·refine ⟨rfl, rfl, rfl, by simp [grow, Sort.ahead], fun k hk hkn => ?_⟩
    have hne : k ≠ g := fun e => hkn (by rw [e]; exact List.mem_cons_self)
    exact ⟨hother k hk hne, hkn⟩
end Go.Vl
end
