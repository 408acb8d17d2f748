/-
  Merged: WAdd WSets WClone WLive.
-/
import Derived.Test.YtphlkdbglpcikaaGreatDoorG7
set_option linter.unusedVariables false
set_option linter.unusedSimpArgs false
set_option maxRecDepth 100000

section
namespace Go.Proofs.YtphlkdbglpcikaaGreatDoor
open Go.Vl
open Y
namespace WAdd
theorem c_add1 (x : Ex) (hx : x.ok) (hk : x.kind = 1) (b : Nat) (vT vF : Value) (tys : List Int) (R : List Rw) (hR : R.length = tys.length) (hsz : tys.length + x.sz ≤ 1048576) : FnC Tryz.prog 69 [.lit (.pointer (some ⟨b, 0, none⟩)), x.avx] (.box b 134 [.lit vT, .lit vF, .lit (.slice none 0 0), .lit (.slice none 0 0), .bool false] :: .arr vT 3 1 (tys.map AV.int) :: .arr vF 22 1 (rowsV R) :: rowsM 3 R) (fun r M => ∃ vT' vF' tys' R' v1 v2 fi la no, Pl tys (folOf R) tys' (folOf R') fi la no x.lg ∧ tys'.length = tys.length + x.lv ∧ Tys tys tys' ∧ R'.length = tys'.length ∧ r = .agg [.lit v1, .lit v2, .bool no] ∧ M = .arr v1 3 1 (fi.map natv) :: .arr v2 3 1 (la.map natv) :: .box b 134 [.lit vT', .lit vF', .lit (.slice none 0 0), .lit (.slice none 0 0), .bool false] :: .arr vT' 3 1 (tys'.map AV.int) :: .arr vF' 22 1 (rowsV R') :: rowsM 3 R') :=  by
 refine FnC.mk Tryz.func69 (by kernel_rfl) rfl Tryz.ntmps69 rfl (fun w0 F => ?_)
 refine W.own_nil 3 1 ?_; refine W.perm (List.perm_append_comm (l₁ := [_])) ?_
 have hxl : x.lv = 1 := by rw [Ex.lv_eq, if_pos hk]
 have hxg : x.lg = Lg.one x.type := by rw [Ex.lg_eq, if_pos hk]
 have hxt : 0 ≤ x.type ∧ x.type < 8 := by rcases ((Ex.ok_iff x).1 hx).1 with h | h | h | h <;> omega
 have hx1 := Ex.sz_eq x
 have hrl := rowsV_len R
 show W _ _ (.box b 134 [.lit vT, .lit vF, .lit (.slice none 0 0), .lit (.slice none 0 0), .bool false] :: .arr vT 3 1 (tys.map AV.int) :: .arr vF 22 1 (rowsV R) :: (rowsM 3 R ++ rowsM 3 [(Value.slice none 0 0, [])])) _
 rw [← rowsM_app]
 refine W.s ?_; refine W.r ?_; refine W.box (.t rfl) rfl rfl ?_; intro b3; refine W.alloc ty136 rfl rfl ?_; intro b4; refine W.n ?_; refine W.h ?_; refine W.s ?_; refine W.s ?_; refine W.r ?_
 refine W.q (.fab (.t rfl) fa56_0) rfl (.q (.ldb1 1 (.t rfl) rfl ag3 rfl) rfl (.q (.eqi (.t rfl) .k) rfl (.n (.h ?_)))); refine W.isb 12 true rfl (by rw [hk]; rfl) ?_; refine W.condT (.t rfl) (.s (.r (.mv rfl rfl (.q (.nilc (.t rfl)) rfl (.q (.fab (.t rfl) fa134_0) rfl (.q (.ldb1 2 (.t rfl) rfl ag22 rfl) rfl ?_)))))); refine W.q (.lenar (i := 3) (.t rfl) rfl Tryz.underlying22) rfl ?_; refine W.is (t := 17) (av' := .int (tys.length : Int)) rfl (by rw [List.length_map]) ?_; refine W.asg rfl rfl (.n (.h (.s ?_))); refine W.drawnM (fun ee c_ => .box b4 136 [.lit (.slice none 0 0), .lit (.slice none 0 0), .lit (.bool false)] :: .box b3 56 x.avx.cells :: .box b 134 [bif ee 18 then .lit (c_ 9).2 else .lit vT, bif ee 21 then .lit (c_ 15).2 else .lit vF, .lit (.slice none 0 0), .lit (.slice none 0 0), .bool false] :: (bif ee 9 then .arr (c_ 9).2 3 1 (tys.map AV.int ++ [.int x.type]) else .arr vT 3 1 (tys.map AV.int)) :: (bif ee 15 then .arr (c_ 15).2 22 1 (rowsV R ++ [.lit (.slice none 0 0)]) else .arr vF 22 1 (rowsV R)) :: rowsM 3 (R ++ [(Value.slice none 0 0, [])])) (c0 := ks0) (by kernel_rfl) (by kernel_rfl) rfl ?_; refine DM.q (fun e c hk => (.move (.t rfl))) rfl (fun _ _ => rfl) (fun _ _ _ => rfl) (.q (fun e c hk => (.move (.t rfl))) rfl (fun _ _ => rfl) (fun _ _ _ => rfl) (.q (fun e c hk => (.move (.t rfl))) rfl (fun _ _ => rfl) (fun _ _ _ => rfl) (.q (fun e c hk => (.nilc (.t rfl))) rfl (fun _ _ => rfl) (fun _ _ _ => rfl) (.q (fun e c hk => (.fab (.t rfl) fa134_0)) rfl (fun _ _ => rfl) (fun _ _ _ => rfl) ?_)))); refine DM.q (av := fun _ => .lit vT) (fun e c hk => by have h := hk.down 18 (by kernel_rfl); simp only [h, cond_false]; exact Ev.ldb1 2 (.t rfl) rfl ag22 rfl) rfl (fun _ _ => rfl) (fun _ _ _ => rfl) ?_; refine DM.q (fun e c hk => (.fab (.t rfl) fa56_1)) rfl (fun _ _ => rfl) (fun _ _ _ => rfl) (.q (fun e c hk => (.ldb1 1 (.t rfl) rfl ag3 rfl)) rfl (fun _ _ => rfl) (fun _ _ _ => rfl) ?_)
 refine DM.bs (es := fun _ => [_]) Tryz.underlying22 ty3 (fun c => ⟨rfl, (.t rfl), rfl, rfl, trivial⟩) (fun _ => rfl) (by decide) rfl rfl (fun _ _ => rfl) (fun _ _ _ => rfl) ?_; refine DM.eff1 (av := fun c => .lit (c 9).2) rfl (fun c c_ h => by (simp only [h 9 (by (exact .inl rfl))])) (fun e c hk L_ hs Q h => ?_) ?_
 ·have hk_9 := hk.not
  have hk_15 := hk.down 15 (by kernel_rfl)
  have hk_18 := hk.down 18 (by kernel_rfl)
  have hk_21 := hk.down 21 (by kernel_rfl)
  simp only [addE, upd, eq_self, List.nil_append, List.cons_append, List.append_nil, hk_9, hk_15, hk_18, hk_21, Nat.reduceAdd, Nat.reduceEqDiff, ↓reduceIte, cond_true, cond_false] at h ⊢
  ((refine W.app 3 (.t (hs _ _ rfl)) rfl (.sl (.t (hs _ _ rfl)) (by intro e he; rw [List.mem_singleton.1 he]; rfl)) Tryz.underlying22 ni22 ty3 rfl rfl (by rw [List.length_map]; simp only [List.length_cons, List.length_nil]; omega) rfl ?_; exact fun v => h (0, v) _ (by (exact .refl _))))
 refine DM.q (fun e c hk => (.move (.t rfl))) rfl (fun _ _ => rfl) (fun _ _ _ => rfl) (.q (fun e c hk => (.nilc (.t rfl))) rfl (fun _ _ => rfl) (fun _ _ _ => rfl) (.q (fun e c hk => (.fab (.t rfl) fa134_1)) rfl (fun _ _ => rfl) (fun _ _ _ => rfl) ?_))
 refine DM.q (av := fun _ => .lit vF) (fun e c hk => by have h := hk.down 21 (by kernel_rfl); simp only [h, cond_false]; exact Ev.ldb1 2 (.t rfl) rfl ag59 rfl) rfl (fun _ _ => rfl) (fun _ _ _ => rfl) ?_; refine DM.bs (es := fun _ => [_]) Tryz.underlying59 ty22 (fun c => ⟨rfl, .k, rfl, rfl, trivial⟩) (fun _ => rfl) (by decide) rfl rfl (fun _ _ => rfl) (fun _ _ _ => rfl) ?_; refine DM.eff1 (av := fun c => .lit (c 15).2) rfl (fun c c_ h => by (simp only [h 9 (by (exact .inr (by kernel_rfl))), h 15 (by (exact .inl rfl))])) (fun e c hk L_ hs Q h => ?_) ?_
 ·have hk_15 := hk.not
  have hk_9 := hk.up 9 (by kernel_rfl)
  have hk_18 := hk.down 18 (by kernel_rfl)
  have hk_21 := hk.down 21 (by kernel_rfl)
  simp only [addE, upd, eq_self, List.nil_append, List.cons_append, List.append_nil, hk_15, hk_9, hk_18, hk_21, Nat.reduceAdd, Nat.reduceEqDiff, ↓reduceIte, cond_true, cond_false] at h ⊢
  ((refine W.app 4 (.t (hs _ _ rfl)) rfl (.sl (.t (hs _ _ rfl)) (by intro e he; rw [List.mem_singleton.1 he]; rfl)) Tryz.underlying59 ni59 ty22 rfl rfl (by rw [hrl]; simp only [List.length_cons, List.length_nil]; omega) rfl ?_; exact fun v => h (0, v) _ (by (exact .refl _))))
 refine DM.q (fun e c hk => (.nilc (.t rfl))) rfl (fun _ _ => rfl) (fun _ _ _ => rfl) (.q (fun e c hk => (.fab (.t rfl) fa134_0)) rfl (fun _ _ => rfl) (fun _ _ _ => rfl) ?_)
 refine DM.eff0 (fun e c hk L_ hs Q h => ?_) ?_
 ·have hk_18 := hk.not
  have hk_9 := hk.up 9 (by kernel_rfl)
  simp only [addE, upd, eq_self, List.nil_append, List.cons_append, List.append_nil, hk_18, hk_9, Nat.reduceAdd, Nat.reduceEqDiff, ↓reduceIte, cond_true, cond_false] at h ⊢
  refine W.arr_inv 3 rfl (fun a9 n9 c9 h9 => ?_)
  rw [h9] at h ⊢
  refine W.stb 2 (.t (hs _ _ rfl)) (.t ((hs _ _ rfl).trans (congrArg (fun v => some (true, AV.lit v)) h9))) rfl ty22 rfl rfl rfl ?_
  exact h
 refine DM.q (fun e c hk => (.nilc (.t rfl))) rfl (fun _ _ => rfl) (fun _ _ _ => rfl) (.q (fun e c hk => (.fab (.t rfl) fa134_1)) rfl (fun _ _ => rfl) (fun _ _ _ => rfl) ?_)
 refine DM.eff0 (fun e c hk L_ hs Q h => ?_) ?_
 ·have hk_21 := hk.not
  have hk_15 := hk.up 15 (by kernel_rfl)
  simp only [addE, upd, eq_self, List.nil_append, List.cons_append, List.append_nil, hk_21, hk_15, Nat.reduceAdd, Nat.reduceEqDiff, ↓reduceIte, cond_true, cond_false] at h ⊢
  refine W.arr_inv 4 rfl (fun a9 n9 c9 h9 => ?_)
  rw [h9] at h ⊢
  refine W.stb 2 (.t (hs _ _ rfl)) (.t ((hs _ _ rfl).trans (congrArg (fun v => some (true, AV.lit v)) h9))) rfl ty59 rfl rfl rfl ?_
  exact h
 refine DM.nil (fun cc e_ he_ => ?_)
 simp only [he_ 9 (by decide), he_ 15 (by decide), he_ 18 (by decide), he_ 21 (by decide), cond_true, cond_false]
 generalize (cc 9).2 = v27
 generalize (cc 15).2 = v33
 refine W.h ?_; refine W.s ?_; refine W.r ?_; refine W.q (.move (.t rfl)) rfl ?_; refine W.bso (es := [_]) Tryz.underlying22 ty3 ⟨rfl, (.t rfl), rfl, rfl, trivial⟩ rfl (by decide) rfl rfl ?_; intro v39; refine W.q (.move (.t rfl)) rfl ?_; refine W.bso (es := [_]) Tryz.underlying22 ty3 ⟨rfl, (.t rfl), rfl, rfl, trivial⟩ rfl (by decide) rfl rfl ?_; intro v41; refine W.arr_inv 0 rfl (fun a8 n8 c8 h8 => ?_)
 subst h8
 refine W.arr_inv 1 rfl (fun a7 n7 c7 h7 => ?_)
 subst h7
 refine W.q (.build ty136 st136 rfl (fun hg => ⟨_, _, _, rfl, (.t rfl), rfl, rfl, rfl, _, _, _, rfl, (.t rfl), rfl, rfl, rfl, _, _, _, rfl, .k, rfl, rfl, rfl, rfl⟩)) rfl (.stb 2 (.t rfl) (.t rfl) rfl ty136 rfl rfl rfl (.n (.h ?_))); refine W.ret ?_; refine W.hr ?_; refine W.retn (M' := (.arr _ 3 1 [natv tys.length] :: .arr _ 3 1 [natv tys.length] :: .box b 134 [.lit v27, .lit v33, .lit (.slice none 0 0), .lit (.slice none 0 0), .bool false] :: .arr v27 3 1 (tys.map AV.int ++ [.int x.type]) :: .arr v33 22 1 (rowsV R ++ [.lit (.slice none 0 0)]) :: rowsM 3 (R ++ [(Value.slice none 0 0, [])]))) (D := _) (rs := [.cell 4 136]) (avs := [_]) Tryz.results69 ⟨⟨_, _, _, rfl, by repeat (first | exact List.mem_cons_self | apply List.mem_cons_of_mem), rfl, by funext w; exact ag136.run w, by funext w; exact ty136.size w⟩, trivial⟩ rfl (List.Perm.trans (List.Perm.swap _ _ _) (List.Perm.cons _ (List.Perm.cons _ (List.perm_append_comm (l₁ := [_, _]))))) ?_
 refine ⟨v27, v33, tys ++ [x.type], R ++ [(Value.slice none 0 0, [])], _, _, [tys.length], [tys.length], false, ?_, by rw [hxl, List.length_append]; rfl, ?_, by rw [List.length_append, List.length_append, hR]; rfl, rfl, ?_⟩
 ·rw [hxg, show folOf (R ++ [(Value.slice none 0 0, [])]) = folOf R ++ [[]] from by unfold folOf; rw [List.map_append]; rfl]; exact Pl.one (by rw [folOf_len]; exact hR) x.type
 ·intro c hc; rcases List.mem_append.1 hc with hc | hc; exact .inl hc; rw [List.mem_singleton.1 hc]; exact .inr hxt
 ·rw [List.map_append, show rowsV (R ++ [(Value.slice none 0 0, [])]) = rowsV R ++ [.lit (.slice none 0 0)] from by unfold rowsV; rw [List.map_append]; rfl]; rfl
theorem c_addA (x : Ex) (hx : x.ok) (hk : 3 ≤ x.kind ∧ x.kind ≤ 6) (ih : ∀ y ∈ x.parts, ∀ (b : Nat) (vT vF : Value) (tys : List Int) (R : List Rw), R.length = tys.length → tys.length + y.sz ≤ 1048576 → FnC Tryz.prog 69 [.lit (.pointer (some ⟨b, 0, none⟩)), y.avx] (.box b 134 [.lit vT, .lit vF, .lit (.slice none 0 0), .lit (.slice none 0 0), .bool false] :: .arr vT 3 1 (tys.map AV.int) :: .arr vF 22 1 (rowsV R) :: rowsM 3 R) (fun r M => ∃ vT' vF' tys' R' v1 v2 fi la no, Pl tys (folOf R) tys' (folOf R') fi la no y.lg ∧ tys'.length = tys.length + y.lv ∧ Tys tys tys' ∧ R'.length = tys'.length ∧ r = .agg [.lit v1, .lit v2, .bool no] ∧ M = .arr v1 3 1 (fi.map natv) :: .arr v2 3 1 (la.map natv) :: .box b 134 [.lit vT', .lit vF', .lit (.slice none 0 0), .lit (.slice none 0 0), .bool false] :: .arr vT' 3 1 (tys'.map AV.int) :: .arr vF' 22 1 (rowsV R') :: rowsM 3 R')) (b : Nat) (vT vF : Value) (tys : List Int) (R : List Rw) (hR : R.length = tys.length) (hsz : tys.length + x.sz ≤ 1048576) : FnC Tryz.prog 69 [.lit (.pointer (some ⟨b, 0, none⟩)), x.avx] (.box b 134 [.lit vT, .lit vF, .lit (.slice none 0 0), .lit (.slice none 0 0), .bool false] :: .arr vT 3 1 (tys.map AV.int) :: .arr vF 22 1 (rowsV R) :: rowsM 3 R) (fun r M => ∃ vT' vF' tys' R' v1 v2 fi la no, Pl tys (folOf R) tys' (folOf R') fi la no x.lg ∧ tys'.length = tys.length + x.lv ∧ Tys tys tys' ∧ R'.length = tys'.length ∧ r = .agg [.lit v1, .lit v2, .bool no] ∧ M = .arr v1 3 1 (fi.map natv) :: .arr v2 3 1 (la.map natv) :: .box b 134 [.lit vT', .lit vF', .lit (.slice none 0 0), .lit (.slice none 0 0), .bool false] :: .arr vT' 3 1 (tys'.map AV.int) :: .arr vF' 22 1 (rowsV R') :: rowsM 3 R') :=  by
 refine FnC.mk Tryz.func69 (by kernel_rfl) rfl Tryz.ntmps69 rfl (fun w0 F => ?_)
 have hszx := Ex.sz_eq x
 have hpln := Ex.szs_len x.parts
 have hlsz := Ex.lv_sz x
 have hxl : x.lv = Ex.lvs x.parts := by rw [Ex.lv_eq, if_neg (by omega)]
 refine W.s ?_; refine W.r ?_; refine W.box (.t rfl) rfl rfl ?_; intro b3; refine W.alloc ty136 rfl rfl ?_; intro b4; refine W.n ?_; refine W.h ?_; refine W.s ?_; refine W.s ?_; refine W.r ?_
 refine W.q (.fab (.t rfl) fa56_0) rfl (.q (.ldb1 1 (.t rfl) rfl ag3 rfl) rfl (.q (.eqi (.t rfl) .k) rfl (.n (.h ?_)))); refine W.isb 12 false rfl (by rw [beq_eq_false_iff_ne]; show x.kind ≠ 1; omega) ?_; refine W.condF (.t rfl) (.k (.h (.s (.r (.q (.fab (.t rfl) fa56_0) rfl (.q (.ldb1 1 (.t rfl) rfl ag3 rfl) rfl ?_))))))
 refine W.q (.eqi (.t rfl) .k) rfl ?_; refine W.isb 45 false rfl (by rw [beq_eq_false_iff_ne]; show x.kind ≠ 2; omega) ?_; refine W.q (.build ty136 st136 rfl (fun hg => ⟨_, _, _, rfl, (.t rfl), rfl, rfl, rfl, rfl⟩)) rfl ?_; refine W.alloc ty136 rfl rfl ?_; intro b6
 refine W.stb 0 (.t rfl) (.t rfl) rfl ty136 rfl rfl rfl (.n (.h (.s (.s (.r (.q (.fab (.t rfl) fa56_2) rfl (.q (.ldb1 2 (.t rfl) rfl ag54 rfl) rfl (.q (.lensl (.t rfl) Tryz.underlying54) rfl (.q (.move .k) rfl (.n (.h (.b ?_)))))))))))); refine W.own_nil 3 1 ?_; refine W.own_nil 3 1 ?_; refine W.loop (D := []) (ι := AddZ) (fun z => [(50, true, .int (z.i : Int)), (49, true, .int ((x.parts.map Ex.av).length : Int)), (48, true, .sl 3 (x.parts.map Ex.av)), (0, true, .lit (.pointer (some ⟨b, 0, none⟩))), (3, true, .lit (.pointer (some ⟨b3, 0, none⟩))), (4, true, .lit (.pointer (some ⟨b4, 0, none⟩))), (6, true, .lit (.pointer (some ⟨b6, 0, none⟩)))]) (fun z => .arr z.vf 3 1 (z.fi.map natv) :: .arr z.vl 3 1 (z.la.map natv) :: .box b6 136 [.lit z.vf, .lit z.vl, .bool z.no] :: .box b4 136 [.lit (.slice none 0 0), .lit (.slice none 0 0), .lit (.bool false)] :: .box b3 56 x.avx.cells :: .box b 134 [.lit z.vT, .lit z.vF, .lit (.slice none 0 0), .lit (.slice none 0 0), .bool false] :: .arr z.vT 3 1 (z.tys.map AV.int) :: .arr z.vF 22 1 (rowsV z.R) :: rowsM 3 z.R) (fun z => Pl tys (folOf R) z.tys (folOf z.R) z.fi z.la z.no (Ex.alts (x.parts.take z.i)) ∧ z.i ≤ x.parts.length ∧ z.R.length = z.tys.length ∧ z.tys.length = tys.length + Ex.lvs (x.parts.take z.i) ∧ Tys tys z.tys) (fun z => x.parts.length - z.i) ⟨0, [], [], false, .slice none 0 0, .slice none 0 0, vT, vF, tys, R⟩ ⟨rfl, rfl, rfl, rfl, rfl, rfl, rfl, trivial⟩ (by rw [List.append_nil]; exact .refl _) ⟨Pl.nothing (by rw [folOf_len]; exact hR) false, Nat.zero_le _, hR, rfl, Tys.refl _⟩ ?_
 rintro ⟨i, fi, la, no, vf, vl, vT1, vF1, tys1, R1⟩ ⟨hP, hi, hR1, hlv, hty⟩
 dsimp only at hP hi hR1 hlv hty ⊢
 have hml : (x.parts.map Ex.av).length = x.parts.length := List.length_map ..
 have hpl := hP.lf
 have hpl2 := hP.ll
 have hlt0 := Ex.lvs_take x.parts i
 rcases (show i < x.parts.length ∨ i = x.parts.length from by omega) with hlt | hend
 ·have hga := Ex.at_av x.parts i hlt
  have hym := getD_memG Ex.dflt x.parts i hlt
  have hlv2 := Ex.lvs_snoc x.parts i hlt
  have hlg := alts_snoc x.parts i hlt
  have hlt1 := Ex.lvs_take x.parts (i + 1)
  have hysz : tys1.length + (x.parts.getD i Ex.dflt).sz ≤ 1048576 := by
   have h1 := Ex.szs_append (x.parts.take i) (x.parts.drop i)
   rw [List.take_append_drop] at h1
   have h2 : (x.parts.getD i Ex.dflt).sz ≤ Ex.szs (x.parts.drop i) := by
    refine Ex.szs_mem ?_
    rw [List.drop_eq_getElem_cons hlt, List.getD_eq_getElem?_getD, List.getElem?_eq_getElem hlt]; exact List.mem_cons_self
   have h3 : Ex.lvs (x.parts.take i) ≤ Ex.szs (x.parts.take i) := by
    have : ∀ l : List Ex, Ex.lvs l ≤ Ex.szs l := fun l => by
     induction l with
     | nil => exact Nat.le_refl _
     | cons d l ih => rw [Ex.lvs, Ex.szs]; have := Ex.lv_sz d; omega
    exact this _
   omega
  have hcall := ih _ hym b vT1 vF1 tys1 R1 hR1 hysz
  generalize x.parts.getD i Ex.dflt = y at hga hym hlv2 hlg hysz hcall
  refine W.s (.r (.q (.lti (.t rfl) (.t rfl)) rfl (.n (.h (.s ?_))))); refine W.isb 51 true rfl (by exact decide_eq_true (by omega)) ?_; refine W.condT (.t rfl) (.k (.h (.s (.b (.s (.r ?_)))))); refine W.q (.at (E := 56) (.t rfl) (.t rfl) Tryz.underlying54 ty56 (fun _ => ⟨by omega, hga⟩) rfl rfl) rfl ?_; refine W.q (.lden (.t rfl) ag56 ty56 rfl rfl) rfl ?_
  refine W.alloc ty56 rfl rfl ?_; intro b8
  refine W.stb 0 (.t rfl) (.t rfl) rfl ty56 rfl rfl rfl (.n (.h (.s (.r (.mv rfl rfl (.q (.ldbn 0 (.t rfl) rfl ag56 ty56 rfl) rfl ?_)))))); refine W.call (hcall) ⟨(.t rfl), (.t rfl), trivial⟩ (List.perm_append_comm (l₁ := [_, _, _, _, _, _])) rfl ?_
  rintro _ _ ⟨vT2, vF2, tys2, R2, v1, v2, fi2, la2, n2, hP2, hlv3, hty2, hR2, rfl, rfl⟩
  refine W.perm (List.Perm.cons _ (List.Perm.cons _ (List.perm_append_comm (l₂ := [_, _, _, _, _, _])))) ?_
  have hle2 := hP2.le
  have hp2f := hP2.lf
  have hp2l := hP2.ll
  refine W.alloc ty136 rfl rfl ?_; intro b9
  refine W.stb 0 (.t rfl) (.t rfl) rfl ty136 rfl rfl rfl (.n (.h (.b (.s (.r (.q (.fab (.t rfl) fa56_0) rfl (.q (.ldb1 8 (.t rfl) rfl ag3 rfl) rfl (.q (.nei (.t rfl) .k) rfl (.asg rfl rfl (.n (.h ?_))))))))))); refine W.isb 88 true rfl (by show (x.kind != 2) = true; rw [bne_iff_ne]; omega) ?_; refine W.condT (.t rfl) (.s ?_); refine W.drawnM (fun ee c_ => .box b9 136 [.lit v1, .lit v2, .bool n2] :: .arr v1 3 1 (fi2.map natv) :: .arr v2 3 1 (la2.map natv) :: .box b8 56 y.avx.cells :: (bif ee 4 then .arr (c_ 4).2 3 1 (fi.map natv ++ fi2.map natv) else .arr vf 3 1 (fi.map natv)) :: (bif ee 9 then .arr (c_ 9).2 3 1 (la.map natv ++ la2.map natv) else .arr vl 3 1 (la.map natv)) :: .box b6 136 [bif ee 11 then .lit (c_ 4).2 else .lit vf, bif ee 13 then .lit (c_ 9).2 else .lit vl, .bool no] :: .box b4 136 [.lit (.slice none 0 0), .lit (.slice none 0 0), .lit (.bool false)] :: .box b3 56 x.avx.cells :: .box b 134 [.lit vT2, .lit vF2, .lit (.slice none 0 0), .lit (.slice none 0 0), .bool false] :: .arr vT2 3 1 (tys2.map AV.int) :: .arr vF2 22 1 (rowsV R2) :: rowsM 3 R2) (c0 := ks0) (by kernel_rfl) (by kernel_rfl) rfl ?_; refine DM.q (fun e c hk => (.fab (.t rfl) fa136_0)) rfl (fun _ _ => rfl) (fun _ _ _ => rfl) ?_; refine DM.q (av := fun _ => .lit vf) (fun e c hk => by have h := hk.down 11 (by kernel_rfl); simp only [h, cond_false]; exact Ev.ldb1 6 (.t rfl) rfl ag22 rfl) rfl (fun _ _ => rfl) (fun _ _ _ => rfl) ?_; refine DM.q (fun e c hk => (.fab (.t rfl) fa136_0)) rfl (fun _ _ => rfl) (fun _ _ _ => rfl) (.q (fun e c hk => (.ldb1 0 (.t rfl) rfl ag22 rfl)) rfl (fun _ _ => rfl) (fun _ _ _ => rfl) ?_)
  refine DM.eff1 (av := fun c => .lit (c 4).2) rfl (fun c c_ h => by (simp only [h 4 (by (exact .inl rfl))])) (fun e c hk L_ hs Q h => ?_) ?_
  ·have hk_4 := hk.not
   have hk_9 := hk.down 9 (by kernel_rfl)
   have hk_11 := hk.down 11 (by kernel_rfl)
   have hk_13 := hk.down 13 (by kernel_rfl)
   simp only [addE, upd, eq_self, List.nil_append, List.cons_append, List.append_nil, hk_4, hk_9, hk_11, hk_13, Nat.reduceAdd, Nat.reduceEqDiff, ↓reduceIte, cond_true, cond_false] at h ⊢
   ((refine W.app 4 (.t (hs _ _ rfl)) rfl (.arr 1 (.t (hs _ _ rfl)) rfl (okc_natv fi2)) Tryz.underlying22 ni22 ty3 rfl rfl (by rw [List.length_map, List.length_map]; omega) rfl ?_; exact fun v => h (0, v) _ (by (exact .refl _))))
  refine DM.q (fun e c hk => (.fab (.t rfl) fa136_1)) rfl (fun _ _ => rfl) (fun _ _ _ => rfl) ?_; refine DM.q (av := fun _ => .lit vl) (fun e c hk => by have h := hk.down 13 (by kernel_rfl); simp only [h, cond_false]; exact Ev.ldb1 6 (.t rfl) rfl ag22 rfl) rfl (fun _ _ => rfl) (fun _ _ _ => rfl) ?_; refine DM.q (fun e c hk => (.fab (.t rfl) fa136_1)) rfl (fun _ _ => rfl) (fun _ _ _ => rfl) (.q (fun e c hk => (.ldb1 0 (.t rfl) rfl ag22 rfl)) rfl (fun _ _ => rfl) (fun _ _ _ => rfl) ?_)
  refine DM.eff1 (av := fun c => .lit (c 9).2) rfl (fun c c_ h => by (simp only [h 4 (by (exact .inr (by kernel_rfl))), h 9 (by (exact .inl rfl))])) (fun e c hk L_ hs Q h => ?_) ?_
  ·have hk_9 := hk.not
   have hk_4 := hk.up 4 (by kernel_rfl)
   have hk_11 := hk.down 11 (by kernel_rfl)
   have hk_13 := hk.down 13 (by kernel_rfl)
   simp only [addE, upd, eq_self, List.nil_append, List.cons_append, List.append_nil, hk_9, hk_4, hk_11, hk_13, Nat.reduceAdd, Nat.reduceEqDiff, ↓reduceIte, cond_true, cond_false] at h ⊢
   ((refine W.app 5 (.t (hs _ _ rfl)) rfl (.arr 2 (.t (hs _ _ rfl)) rfl (okc_natv la2)) Tryz.underlying22 ni22 ty3 rfl rfl (by rw [List.length_map, List.length_map]; omega) rfl ?_; exact fun v => h (0, v) _ (by (exact .refl _))))
  refine DM.q (fun e c hk => (.fab (.t rfl) fa136_0)) rfl (fun _ _ => rfl) (fun _ _ _ => rfl) ?_
  refine DM.eff0 (fun e c hk L_ hs Q h => ?_) ?_
  ·have hk_11 := hk.not
   have hk_4 := hk.up 4 (by kernel_rfl)
   simp only [addE, upd, eq_self, List.nil_append, List.cons_append, List.append_nil, hk_11, hk_4, Nat.reduceAdd, Nat.reduceEqDiff, ↓reduceIte, cond_true, cond_false] at h ⊢
   refine W.arr_inv 4 rfl (fun a9 n9 c9 h9 => ?_)
   rw [h9] at h ⊢
   refine W.stb 6 (.t (hs _ _ rfl)) (.t ((hs _ _ rfl).trans (congrArg (fun v => some (true, AV.lit v)) h9))) rfl ty22 rfl rfl rfl ?_
   exact h
  refine DM.q (fun e c hk => (.fab (.t rfl) fa136_1)) rfl (fun _ _ => rfl) (fun _ _ _ => rfl) ?_
  refine DM.eff0 (fun e c hk L_ hs Q h => ?_) ?_
  ·have hk_13 := hk.not
   have hk_9 := hk.up 9 (by kernel_rfl)
   simp only [addE, upd, eq_self, List.nil_append, List.cons_append, List.append_nil, hk_13, hk_9, Nat.reduceAdd, Nat.reduceEqDiff, ↓reduceIte, cond_true, cond_false] at h ⊢
   refine W.arr_inv 5 rfl (fun a9 n9 c9 h9 => ?_)
   rw [h9] at h ⊢
   refine W.stb 6 (.t (hs _ _ rfl)) (.t ((hs _ _ rfl).trans (congrArg (fun v => some (true, AV.lit v)) h9))) rfl ty22 rfl rfl rfl ?_
   exact h
  refine DM.nil (fun cc e_ he_ => ?_)
  simp only [he_ 4 (by decide), he_ 9 (by decide), he_ 11 (by decide), he_ 13 (by decide), cond_true, cond_false]
  generalize (cc 4).2 = v96
  generalize (cc 9).2 = v101
  refine W.h (.r (.q (.fab (.t rfl) fa136_2) rfl (.q (.ldb1 6 (.t rfl) rfl ag4 rfl) rfl (.mv rfl rfl (.qgF rfl rfl (.fab (.t rfl) fa136_2) rfl (.qgF rfl rfl (.ldb1 0 (.c rfl) rfl ag4 rfl) rfl ?_)))))); refine W.q (.or (.t rfl) ⟨_, _, rfl, rfl, by ((simp; done))⟩) rfl ?_; refine W.q (.fab (.t rfl) fa136_2) rfl (.stb 6 (.t rfl) (.t rfl) rfl ty4 rfl rfl rfl (.n (.bn (.bn (.h (.r (.q (.add (.t rfl) .k (fun _ => by omega)) rfl ?_)))))))
  refine W.q (.move (.t rfl)) rfl ?_; refine W.n ?_; refine W.h ?_; refine W.reach (D := [.box b9 136 [.lit v1, .lit v2, .bool n2], .arr v1 3 1 (fi2.map natv), .arr v2 3 1 (la2.map natv), .box b8 56 y.avx.cells]) ⟨i + 1, fi ++ fi2, la ++ la2, no || n2, v96, v101, vT2, vF2, tys2, R2⟩ ⟨rfl, rfl, rfl, rfl, rfl, rfl, rfl, trivial⟩ ?_ ⟨⟨by dsimp only; rw [hlg]; exact hP.or hP2, hlt, hR2, by dsimp only; omega, hty.trans hty2⟩, by show x.parts.length - (i + 1) < x.parts.length - i; omega⟩
  dsimp only
  rw [List.map_append, List.map_append]
  exact List.perm_append_comm (l₁ := [_, _, _, _])
 ·subst hend
  rw [List.take_length] at hP hlv
  refine W.s (.r (.q (.lti (.t rfl) (.t rfl)) rfl (.n (.h (.s ?_))))); refine W.isb 51 false rfl (by exact decide_eq_false (by omega)) ?_; refine W.condF (.t rfl) (.ex (.he (.he (.bh (.h (.s (.s (.r ?_))))))))
  have hpre := hP.pre1
  refine W.q (.fab (.t rfl) fa56_0) rfl (.q (.ldb1 4 (.t rfl) rfl ag3 rfl) rfl (.q (.eqi (.t rfl) .k) rfl (.mv rfl rfl (.qgF rfl rfl (.fab (.t rfl) fa56_0) rfl (.qgF rfl rfl (.ldb1 4 (.c rfl) rfl ag3 rfl) rfl ?_)))))
  refine W.qgF rfl rfl (.eqi (.c rfl) .k) rfl ?_; refine W.q (.or (.t rfl) ⟨_, _, rfl, rfl, by ((simp; done))⟩) rfl ?_; refine W.n ?_; refine W.h ?_; refine W.cond (.t rfl) (fun hc_t119 => ?_) (fun hc_t119 => ?_)
  ·have hk45 : x.kind = 4 ∨ x.kind = 5 := by simpa using hc_t119
   refine W.r (.mv rfl rfl (.q (.fab (.t rfl) fa136_1) rfl (.q (.ldb1 2 (.t rfl) rfl ag22 rfl) rfl (.q (.fab (.t rfl) fa136_0) rfl (.q (.ldb1 2 (.t rfl) rfl ag22 rfl) rfl ?_))))); refine W.call (WLink.c_link b vl vf vT1 vF1 tys1 R1 la fi (fun p hp => by have := hpre.1 p hp; omega) hpre.2.1 (fun p hp q hq => by have := hpre.2.2.1 p hp q hq; omega) (fun q hq => by have := hpre.2.2.2 q hq; omega) (by omega) (by omega) (by omega)) ⟨(.t rfl), (.t rfl), (.t rfl), trivial⟩ ((List.Perm.trans (List.Perm.swap _ _ _) (List.Perm.cons _ (List.Perm.cons _ (List.perm_append_comm (l₁ := [_, _, _])))))) rfl ?_
   rintro _ _ ⟨rfl, R3, hL3, hR3, rfl⟩
   refine W.perm (List.Perm.trans (List.Perm.cons _ (List.Perm.cons _ (List.perm_append_comm (l₂ := [_, _, _])))) (List.Perm.swap _ _ _)) ?_; refine W.n (.h (.s (.r (.q (.fab (.t rfl) fa136_2) rfl (.q (.ldb1 2 (.t rfl) rfl ag4 rfl) rfl (.mv rfl rfl (.qgF rfl rfl (.fab (.t rfl) fa56_0) rfl (.qgF rfl rfl (.ldb1 4 (.c rfl) rfl ag3 rfl) rfl (.qgF rfl rfl (.eqi (.c rfl) .k) rfl ?_))))))))); refine W.q (.or (.t rfl) ⟨_, _, rfl, rfl, by ((simp; done))⟩) rfl ?_; refine W.mv rfl rfl (.qgF rfl rfl (.fab (.t rfl) fa56_0) rfl (.qgF rfl rfl (.ldb1 4 (.c rfl) rfl ag3 rfl) rfl (.qgF rfl rfl (.eqi (.c rfl) .k) rfl ?_))); refine W.q (.or (.t rfl) ⟨_, _, rfl, rfl, by ((simp; done))⟩) rfl ?_; refine W.q (.fab (.t rfl) fa136_2) rfl (.stb 2 (.t rfl) (.t rfl) rfl ty4 rfl rfl rfl (.n (.h (.s (.r (.q (.ldbn 2 (.t rfl) rfl ag136 ty136 rfl) rfl (.stb 3 (.t rfl) (.t rfl) rfl ty136 rfl rfl rfl (.n (.h ?_))))))))); refine W.ret ?_; refine W.retn (M' := (.arr vf 3 1 (fi.map natv) :: .arr vl 3 1 (la.map natv) :: .box b 134 [.lit vT1, .lit vF1, .lit (.slice none 0 0), .lit (.slice none 0 0), .bool false] :: .arr vT1 3 1 (tys1.map AV.int) :: .arr vF1 22 1 (rowsV R3) :: rowsM 3 R3)) (D := _) (rs := [.cell 4 136]) (avs := [_]) Tryz.results69 ⟨⟨_, _, _, rfl, by repeat (first | exact List.mem_cons_self | apply List.mem_cons_of_mem), rfl, by funext w; exact ag136.run w, by funext w; exact ty136.size w⟩, trivial⟩ rfl (List.Perm.cons _ (List.Perm.cons _ (List.perm_append_comm (l₁ := [_, _, _])))) ?_
   exact ⟨vT1, vF1, tys1, R3, vf, vl, fi, la, _, hP.fin4 hL3 hk45, by rw [Ex.lv_eq, if_neg (by omega)]; exact hlv, hty, by omega, rfl, rfl⟩
  ·have hk36 : x.kind = 3 ∨ x.kind = 6 := by
    have h : ¬ (x.kind = 4 ∨ x.kind = 5) := by simpa using hc_t119
    omega
   refine W.k (.h (.s (.r (.q (.fab (.t rfl) fa136_2) rfl (.q (.ldb1 2 (.t rfl) rfl ag4 rfl) rfl (.mv rfl rfl (.qgF rfl rfl (.fab (.t rfl) fa56_0) rfl (.qgF rfl rfl (.ldb1 4 (.c rfl) rfl ag3 rfl) rfl (.qgF rfl rfl (.eqi (.c rfl) .k) rfl ?_))))))))); refine W.q (.or (.t rfl) ⟨_, _, rfl, rfl, by ((simp; done))⟩) rfl ?_; refine W.mv rfl rfl (.qgF rfl rfl (.fab (.t rfl) fa56_0) rfl (.qgF rfl rfl (.ldb1 4 (.c rfl) rfl ag3 rfl) rfl (.qgF rfl rfl (.eqi (.c rfl) .k) rfl ?_))); refine W.q (.or (.t rfl) ⟨_, _, rfl, rfl, by ((simp; done))⟩) rfl ?_; refine W.q (.fab (.t rfl) fa136_2) rfl (.stb 2 (.t rfl) (.t rfl) rfl ty4 rfl rfl rfl (.n (.h (.s (.r (.q (.ldbn 2 (.t rfl) rfl ag136 ty136 rfl) rfl (.stb 3 (.t rfl) (.t rfl) rfl ty136 rfl rfl rfl (.n (.h ?_))))))))); refine W.ret ?_; refine W.retn (M' := (.arr vf 3 1 (fi.map natv) :: .arr vl 3 1 (la.map natv) :: .box b 134 [.lit vT1, .lit vF1, .lit (.slice none 0 0), .lit (.slice none 0 0), .bool false] :: .arr vT1 3 1 (tys1.map AV.int) :: .arr vF1 22 1 (rowsV R1) :: rowsM 3 R1)) (D := _) (rs := [.cell 4 136]) (avs := [_]) Tryz.results69 ⟨⟨_, _, _, rfl, by repeat (first | exact List.mem_cons_self | apply List.mem_cons_of_mem), rfl, by funext w; exact ag136.run w, by funext w; exact ty136.size w⟩, trivial⟩ rfl (List.Perm.cons _ (List.Perm.cons _ (List.perm_append_comm (l₁ := [_, _, _])))) ?_
   exact ⟨vT1, vF1, tys1, R1, vf, vl, fi, la, _, hP.fin3 hk36, by rw [Ex.lv_eq, if_neg (by omega)]; exact hlv, hty, by omega, rfl, rfl⟩
theorem c_addS (x : Ex) (hx : x.ok) (hk : x.kind = 2) (ih : ∀ y ∈ x.parts, ∀ (b : Nat) (vT vF : Value) (tys : List Int) (R : List Rw), R.length = tys.length → tys.length + y.sz ≤ 1048576 → FnC Tryz.prog 69 [.lit (.pointer (some ⟨b, 0, none⟩)), y.avx] (.box b 134 [.lit vT, .lit vF, .lit (.slice none 0 0), .lit (.slice none 0 0), .bool false] :: .arr vT 3 1 (tys.map AV.int) :: .arr vF 22 1 (rowsV R) :: rowsM 3 R) (fun r M => ∃ vT' vF' tys' R' v1 v2 fi la no, Pl tys (folOf R) tys' (folOf R') fi la no y.lg ∧ tys'.length = tys.length + y.lv ∧ Tys tys tys' ∧ R'.length = tys'.length ∧ r = .agg [.lit v1, .lit v2, .bool no] ∧ M = .arr v1 3 1 (fi.map natv) :: .arr v2 3 1 (la.map natv) :: .box b 134 [.lit vT', .lit vF', .lit (.slice none 0 0), .lit (.slice none 0 0), .bool false] :: .arr vT' 3 1 (tys'.map AV.int) :: .arr vF' 22 1 (rowsV R') :: rowsM 3 R')) (b : Nat) (vT vF : Value) (tys : List Int) (R : List Rw) (hR : R.length = tys.length) (hsz : tys.length + x.sz ≤ 1048576) : FnC Tryz.prog 69 [.lit (.pointer (some ⟨b, 0, none⟩)), x.avx] (.box b 134 [.lit vT, .lit vF, .lit (.slice none 0 0), .lit (.slice none 0 0), .bool false] :: .arr vT 3 1 (tys.map AV.int) :: .arr vF 22 1 (rowsV R) :: rowsM 3 R) (fun r M => ∃ vT' vF' tys' R' v1 v2 fi la no, Pl tys (folOf R) tys' (folOf R') fi la no x.lg ∧ tys'.length = tys.length + x.lv ∧ Tys tys tys' ∧ R'.length = tys'.length ∧ r = .agg [.lit v1, .lit v2, .bool no] ∧ M = .arr v1 3 1 (fi.map natv) :: .arr v2 3 1 (la.map natv) :: .box b 134 [.lit vT', .lit vF', .lit (.slice none 0 0), .lit (.slice none 0 0), .bool false] :: .arr vT' 3 1 (tys'.map AV.int) :: .arr vF' 22 1 (rowsV R') :: rowsM 3 R') :=  by
 refine FnC.mk Tryz.func69 (by kernel_rfl) rfl Tryz.ntmps69 rfl (fun w0 F => ?_)
 have hszx := Ex.sz_eq x
 have hpln := Ex.szs_len x.parts
 have hlsz := Ex.lv_sz x
 have hxl : x.lv = Ex.lvs x.parts := by rw [Ex.lv_eq, if_neg (by omega)]
 refine W.s ?_; refine W.r ?_; refine W.box (.t rfl) rfl rfl ?_; intro b3; refine W.alloc ty136 rfl rfl ?_; intro b4; refine W.n ?_; refine W.h ?_; refine W.s ?_; refine W.s ?_; refine W.r ?_
 refine W.q (.fab (.t rfl) fa56_0) rfl (.q (.ldb1 1 (.t rfl) rfl ag3 rfl) rfl (.q (.eqi (.t rfl) .k) rfl (.n (.h ?_)))); refine W.isb 12 false rfl (by rw [hk]; rfl) ?_; refine W.condF (.t rfl) (.k (.h (.s (.r (.q (.fab (.t rfl) fa56_0) rfl (.q (.ldb1 1 (.t rfl) rfl ag3 rfl) rfl ?_))))))
 refine W.q (.eqi (.t rfl) .k) rfl ?_; refine W.isb 45 true rfl (by rw [hk]; rfl) ?_; refine W.q (.build ty136 st136 rfl (fun hg => ⟨_, _, _, rfl, (.t rfl), rfl, rfl, rfl, rfl⟩)) rfl ?_; refine W.alloc ty136 rfl rfl ?_; intro b6
 refine W.stb 0 (.t rfl) (.t rfl) rfl ty136 rfl rfl rfl (.n (.h (.s (.s (.r (.q (.fab (.t rfl) fa56_2) rfl (.q (.ldb1 2 (.t rfl) rfl ag54 rfl) rfl (.q (.lensl (.t rfl) Tryz.underlying54) rfl (.q (.move .k) rfl (.n (.h (.b ?_)))))))))))); refine W.own_nil 3 1 ?_; refine W.own_nil 3 1 ?_; refine W.loop (D := []) (ι := AddZ) (fun z => [(50, true, .int (z.i : Int)), (49, true, .int ((x.parts.map Ex.av).length : Int)), (48, true, .sl 3 (x.parts.map Ex.av)), (0, true, .lit (.pointer (some ⟨b, 0, none⟩))), (3, true, .lit (.pointer (some ⟨b3, 0, none⟩))), (4, true, .lit (.pointer (some ⟨b4, 0, none⟩))), (6, true, .lit (.pointer (some ⟨b6, 0, none⟩)))]) (fun z => .arr z.vf 3 1 (z.fi.map natv) :: .arr z.vl 3 1 (z.la.map natv) :: .box b6 136 [.lit z.vf, .lit z.vl, .bool z.no] :: .box b4 136 [.lit (.slice none 0 0), .lit (.slice none 0 0), .lit (.bool false)] :: .box b3 56 x.avx.cells :: .box b 134 [.lit z.vT, .lit z.vF, .lit (.slice none 0 0), .lit (.slice none 0 0), .bool false] :: .arr z.vT 3 1 (z.tys.map AV.int) :: .arr z.vF 22 1 (rowsV z.R) :: rowsM 3 z.R) (fun z => Pl tys (folOf R) z.tys (folOf z.R) z.fi z.la z.no (Ex.seqs (x.parts.take z.i)) ∧ z.i ≤ x.parts.length ∧ z.R.length = z.tys.length ∧ z.tys.length = tys.length + Ex.lvs (x.parts.take z.i) ∧ Tys tys z.tys) (fun z => x.parts.length - z.i) ⟨0, [], [], true, .slice none 0 0, .slice none 0 0, vT, vF, tys, R⟩ ⟨rfl, rfl, rfl, rfl, rfl, rfl, rfl, trivial⟩ (by rw [List.append_nil]; exact .refl _) ⟨Pl.nothing (by rw [folOf_len]; exact hR) true, Nat.zero_le _, hR, rfl, Tys.refl _⟩ ?_
 rintro ⟨i, fi, la, no, vf, vl, vT1, vF1, tys1, R1⟩ ⟨hP, hi, hR1, hlv, hty⟩
 dsimp only at hP hi hR1 hlv hty ⊢
 have hml : (x.parts.map Ex.av).length = x.parts.length := List.length_map ..
 have hpl := hP.lf
 have hpl2 := hP.ll
 have hlt0 := Ex.lvs_take x.parts i
 rcases (show i < x.parts.length ∨ i = x.parts.length from by omega) with hlt | hend
 ·have hga := Ex.at_av x.parts i hlt
  have hym := getD_memG Ex.dflt x.parts i hlt
  have hlv2 := Ex.lvs_snoc x.parts i hlt
  have hlg := seqs_snoc x.parts i hlt
  have hlt1 := Ex.lvs_take x.parts (i + 1)
  have hysz : tys1.length + (x.parts.getD i Ex.dflt).sz ≤ 1048576 := by
   have h1 := Ex.szs_append (x.parts.take i) (x.parts.drop i)
   rw [List.take_append_drop] at h1
   have h2 : (x.parts.getD i Ex.dflt).sz ≤ Ex.szs (x.parts.drop i) := by
    refine Ex.szs_mem ?_
    rw [List.drop_eq_getElem_cons hlt, List.getD_eq_getElem?_getD, List.getElem?_eq_getElem hlt]; exact List.mem_cons_self
   have h3 : Ex.lvs (x.parts.take i) ≤ Ex.szs (x.parts.take i) := by
    have : ∀ l : List Ex, Ex.lvs l ≤ Ex.szs l := fun l => by
     induction l with
     | nil => exact Nat.le_refl _
     | cons d l ih => rw [Ex.lvs, Ex.szs]; have := Ex.lv_sz d; omega
    exact this _
   omega
  have hcall := ih _ hym b vT1 vF1 tys1 R1 hR1 hysz
  generalize x.parts.getD i Ex.dflt = y at hga hym hlv2 hlg hysz hcall
  refine W.s (.r (.q (.lti (.t rfl) (.t rfl)) rfl (.n (.h (.s ?_))))); refine W.isb 51 true rfl (by exact decide_eq_true (by omega)) ?_; refine W.condT (.t rfl) (.k (.h (.s (.b (.s (.r ?_)))))); refine W.q (.at (E := 56) (.t rfl) (.t rfl) Tryz.underlying54 ty56 (fun _ => ⟨by omega, hga⟩) rfl rfl) rfl ?_; refine W.q (.lden (.t rfl) ag56 ty56 rfl rfl) rfl ?_
  refine W.alloc ty56 rfl rfl ?_; intro b8
  refine W.stb 0 (.t rfl) (.t rfl) rfl ty56 rfl rfl rfl (.n (.h (.s (.r (.mv rfl rfl (.q (.ldbn 0 (.t rfl) rfl ag56 ty56 rfl) rfl ?_)))))); refine W.call (hcall) ⟨(.t rfl), (.t rfl), trivial⟩ (List.perm_append_comm (l₁ := [_, _, _, _, _, _])) rfl ?_
  rintro _ _ ⟨vT2, vF2, tys2, R2, v1, v2, fi2, la2, n2, hP2, hlv3, hty2, hR2, rfl, rfl⟩
  refine W.perm (List.Perm.trans (List.Perm.cons _ (List.Perm.cons _ (List.perm_append_comm (l₂ := [_, _, _, _, _, _])))) (List.perm_middle (l₁ := [_, _, _, _]))) ?_
  have hle2 := hP2.le
  have hp2f := hP2.lf
  have hp2l := hP2.ll
  have hpre := hP.pre2 hP2
  refine W.alloc ty136 rfl rfl ?_; intro b9
  refine W.stb 0 (.t rfl) (.t rfl) rfl ty136 rfl rfl rfl (.n (.h (.b (.s (.r (.q (.fab (.t rfl) fa56_0) rfl (.q (.ldb1 8 (.t rfl) rfl ag3 rfl) rfl (.q (.nei (.t rfl) .k) rfl (.asg rfl rfl (.n (.h ?_))))))))))); refine W.isb 88 false rfl (by rw [hk]; rfl) ?_; refine W.condF (.t rfl) (.s (.r (.mv rfl rfl (.q (.fab (.t rfl) fa136_1) rfl (.q (.ldb1 6 (.t rfl) rfl ag22 rfl) rfl (.q (.fab (.t rfl) fa136_0) rfl (.q (.ldb1 0 (.t rfl) rfl ag22 rfl) rfl ?_))))))); refine W.call (WLink.c_link b vl v1 vT2 vF2 tys2 R2 la fi2 (fun p hp => by have := hpre.1 p hp; omega) hpre.2.1 (fun p hp q hq => by have := hpre.2.2.1 p hp q hq; omega) (fun q hq => by have := hpre.2.2.2 q hq; omega) (by omega) (by omega) (by omega)) ⟨(.t rfl), (.t rfl), (.t rfl), trivial⟩ ((List.Perm.trans (List.Perm.swap _ _ _) (List.Perm.cons _ (List.Perm.trans (List.Perm.swap _ _ _) (List.Perm.cons _ (List.perm_append_comm (l₁ := [_, _, _, _, _, _, _]))))))) rfl ?_
  rintro _ _ ⟨rfl, R3, hL3, hR3, rfl⟩
  refine W.perm (List.Perm.cons _ (List.Perm.cons _ (List.perm_append_comm (l₂ := [_, _, _, _, _, _, _])))) ?_
  have hS := hP.seq hP2 hL3
  rw [← hlg] at hS
  refine W.n (.h (.s (.s (.r (.q (.fab (.t rfl) fa136_2) rfl (.q (.ldb1 6 (.t rfl) rfl ag4 rfl) rfl ?_))))))
  refine W.n ?_; refine W.h ?_; refine W.cond (.t rfl) (fun hc_t64 => ?_) (fun hc_t64 => ?_)
  ·have hn1 : no = true := hc_t64
   subst hn1
   refine W.r (.q (.fab (.t rfl) fa136_0) rfl (.q (.ldb1 6 (.t rfl) rfl ag22 rfl) rfl (.q (.fab (.t rfl) fa136_0) rfl (.q (.ldb1 2 (.t rfl) rfl ag22 rfl) rfl ?_)))); refine W.app 5 (.t rfl) rfl (.arr 1 (.t rfl) rfl (okc_natv fi2)) Tryz.underlying22 ni22 ty3 rfl rfl (by rw [List.length_map, List.length_map]; omega) rfl ?_
   intro v69
   refine W.q (.fab (.t rfl) fa136_0) rfl ?_
   refine W.arr_inv 5 rfl (fun a9 n9 c9 h9 => ?_)
   subst h9
   refine W.stb 6 (.t rfl) (.t rfl) rfl ty22 rfl rfl rfl (.n (.h (.s (.s (.r (.q (.fab (.t rfl) fa136_2) rfl (.q (.ldb1 2 (.t rfl) rfl ag4 rfl) rfl ?_)))))))
   refine W.q (.not (.t rfl)) rfl ?_; refine W.n ?_; refine W.h ?_; refine W.cond (.t rfl) (fun hc_t73 => ?_) (fun hc_t73 => ?_)
   ·have hn2 : n2 = false := by simpa using hc_t73
    subst hn2
    refine W.r (.q (.fab (.t rfl) fa136_1) rfl (.stb 6 (.t rfl) .k rfl ty22 rfl rfl rfl (.n (.h (.s (.r ?_)))))); refine W.own_nil 3 1 ?_; refine W.q (.fab (.t rfl) fa136_1) rfl (.q (.ldb1 7 (.t rfl) rfl ag22 rfl) rfl (.q (.fab (.t rfl) fa136_1) rfl (.q (.ldb1 3 (.t rfl) rfl ag22 rfl) rfl ?_))); refine W.app 0 (.t rfl) rfl (.arr 4 (.t rfl) rfl (okc_natv la2)) Tryz.underlying22 ni22 ty3 rfl rfl (by ((rw [List.length_map]; simp only [List.length_nil]; omega))) rfl ?_
    intro v79
    refine W.q (.fab (.t rfl) fa136_1) rfl ?_
    refine W.arr_inv 0 rfl (fun a8 n8 c8 h8 => ?_)
    subst h8
    refine W.stb 7 (.t rfl) (.t rfl) rfl ty22 rfl rfl rfl (.n (.h (.r (.q (.fab (.t rfl) fa136_2) rfl (.q (.ldb1 7 (.t rfl) rfl ag4 rfl) rfl (.mv rfl rfl (.qgT rfl rfl (.fab (.t rfl) fa136_2) rfl (.qgT rfl rfl (.ldb1 3 (.c rfl) rfl ag4 rfl) rfl ?_)))))))); refine W.q (.and (.t rfl) ⟨_, _, rfl, rfl, by ((simp; done))⟩) rfl ?_; refine W.q (.fab (.t rfl) fa136_2) rfl (.stb 7 (.t rfl) (.t rfl) rfl ty4 rfl rfl rfl (.n (.bn (.bn (.h (.r (.q (.add (.t rfl) .k (fun _ => by omega)) rfl ?_)))))))
    refine W.q (.move (.t rfl)) rfl ?_; refine W.n ?_; refine W.h ?_; refine W.reach (D := [.arr vl 3 1 (la.map natv), .arr v1 3 1 (fi2.map natv), .box b9 136 [.lit v1, .lit v2, .bool false], .arr v2 3 1 (la2.map natv), .box b8 56 y.avx.cells]) ⟨i + 1, fi ++ fi2, la2, true && false, (.slice a9 n9 c9), (.slice a8 n8 c8), vT2, vF2, tys2, R3⟩ ⟨rfl, rfl, rfl, rfl, rfl, rfl, rfl, trivial⟩ ?_ ⟨⟨hS, hlt, by dsimp only; omega, by dsimp only; omega, hty.trans hty2⟩, by show x.parts.length - (i + 1) < x.parts.length - i; omega⟩
    dsimp only
    (try simp only [List.map_append])
    exact (List.Perm.cons _ (List.perm_middle (l₁ := [_, _, _, _, _]))).trans ((List.Perm.swap _ _ _).trans (List.Perm.cons _ (List.Perm.cons _ (List.perm_append_comm (l₁ := [_, _, _, _, _])))))
   ·have hn2 : n2 = true := by simpa using hc_t73
    subst hn2
    refine W.k (.h (.s (.r (.q (.fab (.t rfl) fa136_1) rfl (.q (.ldb1 6 (.t rfl) rfl ag22 rfl) rfl (.q (.fab (.t rfl) fa136_1) rfl (.q (.ldb1 2 (.t rfl) rfl ag22 rfl) rfl ?_))))))); refine W.app 0 (.t rfl) rfl (.arr 3 (.t rfl) rfl (okc_natv la2)) Tryz.underlying22 ni22 ty3 rfl rfl (by ((rw [List.length_map, List.length_map]; omega))) rfl ?_
    intro v79
    refine W.q (.fab (.t rfl) fa136_1) rfl ?_
    refine W.arr_inv 0 rfl (fun a8 n8 c8 h8 => ?_)
    subst h8
    refine W.stb 6 (.t rfl) (.t rfl) rfl ty22 rfl rfl rfl (.n (.h (.r (.q (.fab (.t rfl) fa136_2) rfl (.q (.ldb1 6 (.t rfl) rfl ag4 rfl) rfl (.mv rfl rfl (.qgT rfl rfl (.fab (.t rfl) fa136_2) rfl (.qgT rfl rfl (.ldb1 2 (.c rfl) rfl ag4 rfl) rfl ?_)))))))); refine W.q (.and (.t rfl) ⟨_, _, rfl, rfl, by ((simp; done))⟩) rfl ?_; refine W.q (.fab (.t rfl) fa136_2) rfl (.stb 6 (.t rfl) (.t rfl) rfl ty4 rfl rfl rfl (.n (.bn (.bn (.h (.r (.q (.add (.t rfl) .k (fun _ => by omega)) rfl ?_)))))))
    refine W.q (.move (.t rfl)) rfl ?_; refine W.n ?_; refine W.h ?_; refine W.reach (D := [.arr v1 3 1 (fi2.map natv), .box b9 136 [.lit v1, .lit v2, .bool true], .arr v2 3 1 (la2.map natv), .box b8 56 y.avx.cells]) ⟨i + 1, fi ++ fi2, la ++ la2, true && true, (.slice a9 n9 c9), (.slice a8 n8 c8), vT2, vF2, tys2, R3⟩ ⟨rfl, rfl, rfl, rfl, rfl, rfl, rfl, trivial⟩ ?_ ⟨⟨hS, hlt, by dsimp only; omega, by dsimp only; omega, hty.trans hty2⟩, by show x.parts.length - (i + 1) < x.parts.length - i; omega⟩
    dsimp only
    (try simp only [List.map_append])
    exact (List.Perm.cons _ (List.perm_middle (l₁ := [_, _, _, _]))).trans ((List.Perm.swap _ _ _).trans (List.Perm.cons _ (List.Perm.cons _ (List.perm_append_comm (l₁ := [_, _, _, _])))))
  ·have hn1 : no = false := hc_t64
   subst hn1
   refine W.k (.h (.s (.s (.r (.q (.fab (.t rfl) fa136_2) rfl (.q (.ldb1 2 (.t rfl) rfl ag4 rfl) rfl ?_))))))
   refine W.q (.not (.t rfl)) rfl ?_; refine W.n ?_; refine W.h ?_; refine W.cond (.t rfl) (fun hc_t73 => ?_) (fun hc_t73 => ?_)
   ·have hn2 : n2 = false := by simpa using hc_t73
    subst hn2
    refine W.r (.q (.fab (.t rfl) fa136_1) rfl (.stb 6 (.t rfl) .k rfl ty22 rfl rfl rfl (.n (.h (.s (.r ?_)))))); refine W.own_nil 3 1 ?_; refine W.q (.fab (.t rfl) fa136_1) rfl (.q (.ldb1 7 (.t rfl) rfl ag22 rfl) rfl (.q (.fab (.t rfl) fa136_1) rfl (.q (.ldb1 3 (.t rfl) rfl ag22 rfl) rfl ?_))); refine W.app 0 (.t rfl) rfl (.arr 4 (.t rfl) rfl (okc_natv la2)) Tryz.underlying22 ni22 ty3 rfl rfl (by ((rw [List.length_map]; simp only [List.length_nil]; omega))) rfl ?_
    intro v79
    refine W.q (.fab (.t rfl) fa136_1) rfl ?_
    refine W.arr_inv 0 rfl (fun a8 n8 c8 h8 => ?_)
    subst h8
    refine W.stb 7 (.t rfl) (.t rfl) rfl ty22 rfl rfl rfl (.n (.h (.r (.q (.fab (.t rfl) fa136_2) rfl (.q (.ldb1 7 (.t rfl) rfl ag4 rfl) rfl (.mv rfl rfl (.qgT rfl rfl (.fab (.t rfl) fa136_2) rfl (.qgT rfl rfl (.ldb1 3 (.c rfl) rfl ag4 rfl) rfl ?_)))))))); refine W.q (.and (.t rfl) ⟨_, _, rfl, rfl, by ((simp; done))⟩) rfl ?_; refine W.q (.fab (.t rfl) fa136_2) rfl (.stb 7 (.t rfl) (.t rfl) rfl ty4 rfl rfl rfl (.n (.bn (.bn (.h (.r (.q (.add (.t rfl) .k (fun _ => by omega)) rfl ?_)))))))
    refine W.q (.move (.t rfl)) rfl ?_; refine W.n ?_; refine W.h ?_; refine W.reach (D := [.arr vl 3 1 (la.map natv), .arr v1 3 1 (fi2.map natv), .box b9 136 [.lit v1, .lit v2, .bool false], .arr v2 3 1 (la2.map natv), .box b8 56 y.avx.cells]) ⟨i + 1, fi, la2, false && false, vf, (.slice a8 n8 c8), vT2, vF2, tys2, R3⟩ ⟨rfl, rfl, rfl, rfl, rfl, rfl, rfl, trivial⟩ ?_ ⟨⟨hS, hlt, by dsimp only; omega, by dsimp only; omega, hty.trans hty2⟩, by show x.parts.length - (i + 1) < x.parts.length - i; omega⟩
    dsimp only
    (try simp only [List.map_append])
    exact (List.Perm.cons _ (List.perm_middle (l₁ := [_, _, _, _, _]))).trans ((List.Perm.swap _ _ _).trans (List.Perm.cons _ (List.Perm.cons _ (List.perm_append_comm (l₁ := [_, _, _, _, _])))))
   ·have hn2 : n2 = true := by simpa using hc_t73
    subst hn2
    refine W.k (.h (.s (.r (.q (.fab (.t rfl) fa136_1) rfl (.q (.ldb1 6 (.t rfl) rfl ag22 rfl) rfl (.q (.fab (.t rfl) fa136_1) rfl (.q (.ldb1 2 (.t rfl) rfl ag22 rfl) rfl ?_))))))); refine W.app 0 (.t rfl) rfl (.arr 3 (.t rfl) rfl (okc_natv la2)) Tryz.underlying22 ni22 ty3 rfl rfl (by ((rw [List.length_map, List.length_map]; omega))) rfl ?_
    intro v79
    refine W.q (.fab (.t rfl) fa136_1) rfl ?_
    refine W.arr_inv 0 rfl (fun a8 n8 c8 h8 => ?_)
    subst h8
    refine W.stb 6 (.t rfl) (.t rfl) rfl ty22 rfl rfl rfl (.n (.h (.r (.q (.fab (.t rfl) fa136_2) rfl (.q (.ldb1 6 (.t rfl) rfl ag4 rfl) rfl (.mv rfl rfl (.qgT rfl rfl (.fab (.t rfl) fa136_2) rfl (.qgT rfl rfl (.ldb1 2 (.c rfl) rfl ag4 rfl) rfl ?_)))))))); refine W.q (.and (.t rfl) ⟨_, _, rfl, rfl, by ((simp; done))⟩) rfl ?_; refine W.q (.fab (.t rfl) fa136_2) rfl (.stb 6 (.t rfl) (.t rfl) rfl ty4 rfl rfl rfl (.n (.bn (.bn (.h (.r (.q (.add (.t rfl) .k (fun _ => by omega)) rfl ?_)))))))
    refine W.q (.move (.t rfl)) rfl ?_; refine W.n ?_; refine W.h ?_; refine W.reach (D := [.arr v1 3 1 (fi2.map natv), .box b9 136 [.lit v1, .lit v2, .bool true], .arr v2 3 1 (la2.map natv), .box b8 56 y.avx.cells]) ⟨i + 1, fi, la ++ la2, false && true, vf, (.slice a8 n8 c8), vT2, vF2, tys2, R3⟩ ⟨rfl, rfl, rfl, rfl, rfl, rfl, rfl, trivial⟩ ?_ ⟨⟨hS, hlt, by dsimp only; omega, by dsimp only; omega, hty.trans hty2⟩, by show x.parts.length - (i + 1) < x.parts.length - i; omega⟩
    dsimp only
    (try simp only [List.map_append])
    exact (List.Perm.cons _ (List.perm_middle (l₁ := [_, _, _, _]))).trans ((List.Perm.swap _ _ _).trans (List.Perm.cons _ (List.Perm.cons _ (List.perm_append_comm (l₁ := [_, _, _, _])))))
 ·subst hend
  rw [List.take_length] at hP hlv
  refine W.s (.r (.q (.lti (.t rfl) (.t rfl)) rfl (.n (.h (.s ?_))))); refine W.isb 51 false rfl (by exact decide_eq_false (by omega)) ?_; refine W.condF (.t rfl) (.ex (.he (.he (.bh (.h (.s (.s (.r (.q (.fab (.t rfl) fa56_0) rfl (.q (.ldb1 4 (.t rfl) rfl ag3 rfl) rfl (.q (.eqi (.t rfl) .k) rfl (.mv rfl rfl (.qgF rfl rfl (.fab (.t rfl) fa56_0) rfl (.qgF rfl rfl (.ldb1 4 (.c rfl) rfl ag3 rfl) rfl (.qgF rfl rfl (.eqi (.c rfl) .k) rfl ?_))))))))))))))); refine W.q (.or (.t rfl) ⟨_, _, rfl, rfl, by ((simp; done))⟩) rfl ?_; refine W.n (.h ?_); refine W.isb 119 false rfl (by rw [hk]; rfl) ?_; refine W.condF (.t rfl) (.k (.h (.s (.r (.q (.fab (.t rfl) fa136_2) rfl (.q (.ldb1 2 (.t rfl) rfl ag4 rfl) rfl (.mv rfl rfl (.qgF rfl rfl (.fab (.t rfl) fa56_0) rfl (.qgF rfl rfl (.ldb1 4 (.c rfl) rfl ag3 rfl) rfl (.qgF rfl rfl (.eqi (.c rfl) .k) rfl ?_)))))))))); refine W.q (.or (.t rfl) ⟨_, _, rfl, rfl, by ((simp; done))⟩) rfl ?_; refine W.mv rfl rfl (.qgF rfl rfl (.fab (.t rfl) fa56_0) rfl (.qgF rfl rfl (.ldb1 4 (.c rfl) rfl ag3 rfl) rfl (.qgF rfl rfl (.eqi (.c rfl) .k) rfl ?_))); refine W.q (.or (.t rfl) ⟨_, _, rfl, rfl, by ((simp; done))⟩) rfl ?_; refine W.q (.fab (.t rfl) fa136_2) rfl (.stb 2 (.t rfl) (.t rfl) rfl ty4 rfl rfl rfl (.n (.h (.s (.r (.q (.ldbn 2 (.t rfl) rfl ag136 ty136 rfl) rfl (.stb 3 (.t rfl) (.t rfl) rfl ty136 rfl rfl rfl (.n (.h ?_))))))))); refine W.ret ?_; refine W.retn (M' := (.arr vf 3 1 (fi.map natv) :: .arr vl 3 1 (la.map natv) :: .box b 134 [.lit vT1, .lit vF1, .lit (.slice none 0 0), .lit (.slice none 0 0), .bool false] :: .arr vT1 3 1 (tys1.map AV.int) :: .arr vF1 22 1 (rowsV R1) :: rowsM 3 R1)) (D := _) (rs := [.cell 4 136]) (avs := [_]) Tryz.results69 ⟨⟨_, _, _, rfl, by repeat (first | exact List.mem_cons_self | apply List.mem_cons_of_mem), rfl, by funext w; exact ag136.run w, by funext w; exact ty136.size w⟩, trivial⟩ rfl (List.Perm.cons _ (List.Perm.cons _ (List.perm_append_comm (l₁ := [_, _, _])))) ?_
  exact ⟨vT1, vF1, tys1, R1, vf, vl, fi, la, _, hP.fin2 hk, by rw [Ex.lv_eq, if_neg (by omega)]; exact hlv, hty, by omega, rfl, rfl⟩
theorem c_add : ∀ x : Ex, x.ok → ∀ (b : Nat) (vT vF : Value) (tys : List Int) (R : List Rw), R.length = tys.length → tys.length + x.sz ≤ 1048576 → FnC Tryz.prog 69 [.lit (.pointer (some ⟨b, 0, none⟩)), x.avx] (.box b 134 [.lit vT, .lit vF, .lit (.slice none 0 0), .lit (.slice none 0 0), .bool false] :: .arr vT 3 1 (tys.map AV.int) :: .arr vF 22 1 (rowsV R) :: rowsM 3 R) (fun r M => ∃ vT' vF' tys' R' v1 v2 fi la no, Pl tys (folOf R) tys' (folOf R') fi la no x.lg ∧ tys'.length = tys.length + x.lv ∧ Tys tys tys' ∧ R'.length = tys'.length ∧ r = .agg [.lit v1, .lit v2, .bool no] ∧ M = .arr v1 3 1 (fi.map natv) :: .arr v2 3 1 (la.map natv) :: .box b 134 [.lit vT', .lit vF', .lit (.slice none 0 0), .lit (.slice none 0 0), .bool false] :: .arr vT' 3 1 (tys'.map AV.int) :: .arr vF' 22 1 (rowsV R') :: rowsM 3 R') := by
 refine Ex.rec' fun x ih hx b vT vF tys R hR hsz => ?_
 have hk := Ex.ok_kind hx
 have ih' := fun y (hy : y ∈ x.parts) => ih y hy (((Ex.ok_iff x).1 hx).2 y hy)
 rcases (show x.kind = 1 ∨ x.kind = 2 ∨ (3 ≤ x.kind ∧ x.kind ≤ 6) from by omega) with h | h | h
 ·exact c_add1 x hx h b vT vF tys R hR hsz
 ·exact c_addS x hx h ih' b vT vF tys R hR hsz
 ·exact c_addA x hx h ih' b vT vF tys R hR hsz
end WAdd
end Go.Proofs.YtphlkdbglpcikaaGreatDoor
end
section
namespace Go.Proofs.YtphlkdbglpcikaaGreatDoor
open Go.Vl
open Y
namespace WSets
theorem c_sets (x : Ex) (hx : x.ok) (hlv : x.lv ≤ 6) (hxs : x.sz ≤ 1048576) : FnC Tryz.prog 38 [x.avx] [] (fun r M => M = [] ∧ ∃ w : Au, w.Shape ∧ w.next.length ≤ 64 ∧ (∀ u, w.acc 0 u ↔ x.lg u) ∧ r = .agg [.sl 8 (w.next.map wrow), .sl 1 (w.final.map AV.bool)]) :=  by
 refine FnC.mk Tryz.func38 (by kernel_rfl) rfl Tryz.ntmps38 rfl (fun w0 F => ?_)
 refine W.s ?_; refine W.r ?_; refine W.box (.t rfl) rfl rfl ?_; intro b1; refine W.alloc ty99 rfl rfl ?_; intro b2; refine W.n ?_; refine W.h ?_; refine W.s ?_; refine W.r ?_; refine W.q (.build ty134 st134 rfl (fun hg => rfl)) rfl ?_; refine W.box (.t rfl) rfl rfl ?_; intro b21; refine W.q (.assign (.t rfl)) rfl ?_; refine W.n ?_; refine W.h ?_; refine W.s ?_; refine W.r ?_; refine W.own_nil 22 1 ?_; refine W.own_nil 3 1 ?_; refine W.perm (List.perm_middle (l₁ := [_, _])) ?_; refine W.q (.move (.t rfl)) rfl ?_
 refine W.q (.ldbn 4 (.t rfl) rfl ag56 ty56 rfl) rfl ?_; refine W.call (WAdd.c_add x hx b21 (.slice none 0 0) (.slice none 0 0) [] [] rfl (by simp only [List.length_nil]; omega)) ⟨(.t rfl), (.t rfl), trivial⟩ (.refl _) rfl ?_
 rintro _ _ ⟨vT, vF, tys, R, v1, v2, fi, la, no, hP, hlv2, hty, hRl, rfl, rfl⟩
 refine W.perm (List.Perm.cons _ (List.Perm.cons _ (List.perm_append_comm (l₂ := [_, _])))) ?_
 obtain ⟨hgok, hglg, hrow⟩ := hP.gp hty
 have htl : tys.length ≤ 6 := by simp only [List.length_nil] at hlv2; omega
 obtain ⟨g, hgd⟩ : ∃ g : Gp, g = ⟨tys, folOf R, fi, la, no⟩ := ⟨_, rfl⟩
 have hgt : g.tys = tys := by rw [hgd]
 have hgF : g.F = folOf R := by rw [hgd]
 have hgl : g.la = la := by rw [hgd]
 rw [← hgd] at hgok
 have hlal : la.length ≤ 6 := by have := hP.ll; simp only [List.length_nil] at this; omega
 have hfil : fi.length ≤ 6 := by have := hP.lf; simp only [List.length_nil] at this; omega
 have hlam : ∀ p ∈ la, p < tys.length := fun p hp => by have := hgok.la p (by rw [hgl]; exact hp); rwa [hgt] at this
 have hfim : ∀ p ∈ fi, p < tys.length := fun p hp => by have := hgok.fi p (by rw [hgd]; exact hp); rwa [hgt] at this
 refine W.alloc ty136 rfl rfl ?_; intro b4
 refine W.stb 0 (.t rfl) (.t rfl) rfl ty136 rfl rfl rfl (.n (.h (.s (.r (.mv rfl rfl (.q (.nilc (.t rfl)) rfl (.q (.fab (.t rfl) fa134_0) rfl (.q (.ldb1 5 (.t rfl) rfl ag22 rfl) rfl ?_)))))))); refine W.q (.lenar (i := 6) (.t rfl) rfl Tryz.underlying22) rfl ?_
 refine W.is (t := 29) (av' := .int (tys.length : Int)) rfl (by rw [List.length_map]) ?_; refine W.mk (.t rfl) (.t rfl) Tryz.underlying60 ty4 rfl rfl rfl rfl rfl (by omega) rfl ?_; intro v30; refine W.q (.assign (.t rfl)) rfl ?_; refine W.n ?_; refine W.h ?_; refine W.s ?_; refine W.s ?_; refine W.r ?_
 refine W.q (.fab (.t rfl) fa136_1) rfl (.q (.ldb1 1 (.t rfl) rfl ag22 rfl) rfl ?_); refine W.q (.lenar (i := 3) (.t rfl) rfl Tryz.underlying22) rfl ?_
 refine W.q (.move .k) rfl ?_; refine W.n ?_; refine W.h ?_; refine W.b ?_; refine W.loop (D := []) (ι := Nat) (fun i => [(34, true, .int (i : Int)), (33, true, .int ((la.map natv).length : Int)), (32, true, .lit v2), (3, true, .lit (.pointer (some ⟨b21, 0, none⟩))), (4, true, .lit (.pointer (some ⟨b4, 0, none⟩))), (5, true, .lit v30), (1, true, .lit (.pointer (some ⟨b1, 0, none⟩))), (2, true, .lit (.pointer (some ⟨b2, 0, none⟩)))]) (fun i => .arr v30 4 1 (rowB tys.length (fun p => decide (p ∈ la.take i))) :: .box b4 136 [.lit v1, .lit v2, .bool no] :: .arr v1 3 1 (fi.map natv) :: .arr v2 3 1 (la.map natv) :: .box b2 99 [.lit (.slice none 0 0), .lit (.slice none 0 0)] :: .box b1 56 x.avx.cells :: .box b21 134 [.lit vT, .lit vF, .lit (.slice none 0 0), .lit (.slice none 0 0), .bool false] :: .arr vT 3 1 (tys.map AV.int) :: .arr vF 22 1 (rowsV R) :: rowsM 3 R) (fun i => i ≤ la.length) (fun i => la.length - i) 0 ⟨rfl, rfl, rfl, rfl, rfl, rfl, rfl, rfl, trivial⟩ (by rw [List.append_nil]; (try dsimp only); rw [show rowB tys.length (fun p => decide (p ∈ la.take 0)) = List.replicate tys.length (AV.bool false) from ((rowB_rep _).trans (rowB_congr _ _ _ fun k _ => by simp)).symm]; exact .refl _) (Nat.zero_le _) ?_; intro i hi
 dsimp only at hi ⊢
 have hml : (la.map natv).length = la.length := List.length_map ..
 rcases (show i < la.length ∨ i = la.length from by omega) with hi | hend
 ·have hgp := getD_mapG natv 0 la i hi
  have hpm := hlam _ (getD_memG 0 la i hi)
  have htk := take_getDG 0 la i hi
  obtain ⟨p0, hp00⟩ : ∃ p, p = la.getD i 0 := ⟨_, rfl⟩
  rw [← hp00] at hgp hpm htk
  have hp0 : p0 < tys.length := hpm
  refine W.s (.r (.q (.lti (.t rfl) (.t rfl)) rfl (.n (.h (.s ?_))))); refine W.isb 35 true rfl (by exact decide_eq_true (by omega)) ?_; refine W.condT (.t rfl) (.k (.h (.s (.b (.s (.r ?_)))))); refine W.q (.ata 3 (.t rfl) rfl (.t rfl) Tryz.underlying22 ty3 (fun _ => by rw [List.length_map]; omega)) rfl ?_; refine W.q (.lda1 3 i 0 (.t rfl) rfl hgp (by omega) rfl rfl rfl ag3) rfl (.asg rfl rfl (.n (.h (.r (.mv rfl rfl (.mv rfl rfl ?_)))))); refine W.q (.ata 0 (.t rfl) rfl (.t rfl) Tryz.underlying60 ty4 (fun _ => by rw [rowB_len]; omega)) rfl ?_; refine W.sta 0 p0 0 (e := AV.bool (decide (p0 ∈ la.take i))) (e' := AV.bool true) (.t rfl) .k rfl (rowB_at _ _ p0 hp0) (by omega) ty4 rfl rfl rfl rfl rfl rfl rfl ?_; refine W.n (.bn (.h (.r (.q (.add (.t rfl) .k (fun _ => by omega)) rfl ?_))))
  refine W.q (.move (.t rfl)) rfl ?_; refine W.n ?_; refine W.h ?_; refine W.reach (D := []) (i + 1) ⟨rfl, rfl, rfl, rfl, rfl, rfl, rfl, rfl, trivial⟩ ?_ ⟨hi, by show la.length - (i + 1) < la.length - i; omega⟩
  rw [List.append_nil]
  (try dsimp only)
  rw [show rowB tys.length (fun p => decide (p ∈ la.take (i + 1))) = (rowB tys.length (fun p => decide (p ∈ la.take i))).set p0 (AV.bool true) from by rw [rowB_set]; exact rowB_congr _ _ _ fun k _ => by rw [htk]; by_cases h : k = p0 <;> simp [h]]
  exact .refl _
 ·subst hend
  rw [List.take_length]
  refine W.s ?_; refine W.r ?_; refine W.q (.lti (.t rfl) (.t rfl)) rfl ?_; refine W.n ?_; refine W.h ?_; refine W.s ?_; refine W.isb 35 false rfl (by exact decide_eq_false (by omega)) ?_; refine W.condF (.t rfl) ?_; refine W.ex ?_; refine W.he ?_; refine W.he ?_; refine W.bh ?_; refine W.h ?_; refine W.s ?_; refine W.r ?_; refine W.alloc ty99 rfl rfl ?_; intro b8; refine W.n ?_; refine W.h ?_; refine W.s ?_; refine W.r ?_; refine W.alloc ty59 rfl rfl ?_; intro b9; refine W.n ?_; refine W.h ?_; refine W.s ?_; refine W.r ?_; refine W.mkmap rfl ?_; intro b42; refine W.alloc ty138 rfl rfl ?_; intro b10
  refine W.stb 0 (.t rfl) (.t rfl) rfl ty138 rfl rfl rfl (.n (.h (.s (.r ?_)))); refine W.q (.mkfn (caps := [.tmp 10, .tmp 9, .tmp 8]) (vs := [_, _, _]) ⟨(.t rfl), (.t rfl), (.t rfl), trivial⟩) rfl ?_; refine W.asg rfl rfl (.n (.h (.s (.r ?_)))); refine W.own_nil 4 1 ?_; refine W.own_nil 22 1 ?_; refine W.own_nil 147 8 ?_
  rw [← Gp.ints_av fi]
  refine W.perm ((List.perm_middle (l₁ := [_, _, _, _, _, _, _, _, _])).trans <| List.Perm.cons _ <| (List.perm_middle (l₁ := [_, _, _])).trans <| List.Perm.cons _ <| (List.perm_middle (l₁ := [_, _, _])).trans <| List.Perm.cons _ <| (List.perm_middle (l₁ := [_, _, _])).trans <| List.Perm.cons _ <| (List.perm_middle (l₁ := [_])).trans <| List.Perm.cons _ <| (List.perm_middle (l₁ := [_, _])).trans <| List.Perm.cons _ <| (List.perm_middle (l₁ := [_])).trans <| List.Perm.cons _ <| List.Perm.cons _ <| List.Perm.cons _ <| List.Perm.cons _ <| (List.perm_middle (l₁ := [_])).trans <| List.Perm.cons _ <| (List.perm_middle (l₁ := [_])).trans <| List.Perm.cons _ <| List.Perm.cons _ <| .refl _) ?_; refine W.q (.move (.t rfl)) rfl ?_
  refine W.q (.fab (.t rfl) fa136_0) rfl (.q (.ldb1 9 (.t rfl) rfl ag22 rfl) rfl (.q (.fab (.t rfl) fa136_2) rfl (.q (.ldb1 9 (.t rfl) rfl ag4 rfl) rfl ?_))); refine W.callv (caps := [.pointer (some ⟨b10, 0, none⟩), .pointer (some ⟨b9, 0, none⟩), .pointer (some ⟨b8, 0, none⟩)]) (avs := [_, _]) (WState.c_state v1 (Gp.ints fi) no b10 b42 b9 b8 (.slice none 0 0) (.slice none 0 0) (.slice none 0 0) [] (by unfold Gp.ints; rw [List.length_map]; omega) (fun x hx => by obtain ⟨n, hn, rfl⟩ := (Gp.ints_mem fi x).1 hx; have := hfim n hn; omega) (fun s hs => by cases hs) (by decide)) (.t rfl) ⟨(.t rfl), (.t rfl), trivial⟩ rfl (.refl _) rfl ?_
  rintro _ _ ⟨k0, vS, vFi, SL, rfl, rfl, hor⟩
  obtain ⟨_, rfl, rfl⟩ : (norm (Gp.ints fi), no) ∉ ([] : List Ss) ∧ k0 = ([] : List Ss).length ∧ SL = [] ++ [(norm (Gp.ints fi), no)] := by
   rcases hor with ⟨h, _⟩ | h
   ·cases h
   ·exact h
  refine W.n ?_; refine W.h ?_; refine W.s ?_; refine W.s ?_; refine W.r ?_; refine W.q (.assign .k) rfl ?_; refine W.n ?_; refine W.h ?_; refine W.b ?_; refine W.loop (D := [.arr v2 3 1 (la.map natv)]) (ι := Nat × List Ss × (Nat → Nat → Int) × Value × Value × Value) (fun z => [(12, true, .int (z.1 : Int)), (3, true, .lit (.pointer (some ⟨b21, 0, none⟩))), (2, true, .lit (.pointer (some ⟨b2, 0, none⟩))), (5, true, .lit v30), (8, true, .lit (.pointer (some ⟨b8, 0, none⟩))), (9, true, .lit (.pointer (some ⟨b9, 0, none⟩))), (10, true, .lit (.pointer (some ⟨b10, 0, none⟩))), (11, true, .lit (.func (.func 70) #[] #[.pointer (some ⟨b10, 0, none⟩), .pointer (some ⟨b9, 0, none⟩), .pointer (some ⟨b8, 0, none⟩)]))]) (fun z => .box b10 138 [.lit (.map (some b42))] :: .obj b42 (mObj ((z.2.1.map keyS).map fun s : List UInt8 => Value.string ⟨s.toArray⟩)) :: .box b9 59 [.lit z.2.2.2.1] :: .arr z.2.2.2.1 22 1 (z.2.1.map fun s : Ss => .sl 1 (s.1.map AV.int)) :: .box b8 99 [.lit z.2.2.2.2.1, .lit z.2.2.2.2.2] :: .arr z.2.2.2.2.2 4 1 (z.2.1.map fun s : Ss => .bool s.2) :: .arr z.2.2.2.2.1 147 8 ((List.range z.1).map fun k => r8av (z.2.2.1 k)) :: .arr v30 4 1 (rowB tys.length (fun p => decide (p ∈ la))) :: .box b4 136 [.lit v1, .lit v2, .bool no] :: .box b2 99 [.lit (.slice none 0 0), .lit (.slice none 0 0)] :: .box b1 56 x.avx.cells :: .box b21 134 [.lit vT, .lit vF, .lit (.slice none 0 0), .lit (.slice none 0 0), .bool false] :: .arr vT 3 1 (tys.map AV.int) :: .arr vF 22 1 (rowsV R) :: rowsM 3 R) (fun z => Sts g z.2.1 z.2.2.1 z.1 0 ∧ z.1 ≤ z.2.1.length) (fun z => 65 - z.1) (0, [(norm (Gp.ints fi), no)], (fun _ _ => 0), vS, .slice none 0 0, vFi) ⟨rfl, rfl, rfl, rfl, rfl, rfl, rfl, rfl, trivial⟩ (by dsimp only; refine List.Perm.append_left [_, _, _, _, _, _, _, _, _, _, _] ?_; exact List.perm_append_comm (l₁ := [_])) ⟨by have := Sts.start hgok (fun _ _ => 0); rw [hgd] at this ⊢; exact this, Nat.zero_le _⟩ ?_
  skip
  rintro ⟨i, SL, T, vS, vN, vFi⟩ ⟨hT, hi⟩
  dsimp only at hT hi ⊢
  have h64 : SL.length ≤ 64 := Nat.le_trans hT.len (by rw [hgt]; exact Nat.le_trans (Nat.pow_le_pow_right (by decide) htl) (by decide))
  have hms : (SL.map fun s : Ss => AV.sl 1 (s.1.map AV.int)).length = SL.length := List.length_map ..
  rcases (show i < SL.length ∨ i = SL.length from by omega) with hi | hend
  ·skip
   refine W.s (.s (.r (.mv rfl rfl (.q (.ldb1 2 (.t rfl) rfl ag59 rfl) rfl ?_)))); refine W.q (.lenar (i := 3) (.t rfl) rfl Tryz.underlying59) rfl ?_
   refine W.q (.lti (.t rfl) (.t rfl)) rfl ?_; refine W.n ?_; refine W.h ?_; refine W.isb 53 true rfl (by exact decide_eq_true (by omega)) ?_; refine W.condT (.t rfl) ?_; refine W.k ?_; refine W.h ?_; refine W.s ?_; refine W.b ?_; refine W.s ?_; refine W.r ?_; refine W.alloc ty147 rfl rfl ?_; intro b13; refine W.n ?_; refine W.h ?_; refine W.s ?_; refine W.s ?_; refine W.r ?_; refine W.q (.move .k) rfl ?_; refine W.n ?_; refine W.h ?_; refine W.b ?_; refine W.loop (D := []) (ι := Nat × List Ss × (Nat → Nat → Int) × Value × Value) (fun z => [(56, true, .int (z.1 : Int)), (13, true, .lit (.pointer (some ⟨b13, 0, none⟩))), (12, true, .int (i : Int)), (3, true, .lit (.pointer (some ⟨b21, 0, none⟩))), (2, true, .lit (.pointer (some ⟨b2, 0, none⟩))), (5, true, .lit v30), (8, true, .lit (.pointer (some ⟨b8, 0, none⟩))), (9, true, .lit (.pointer (some ⟨b9, 0, none⟩))), (10, true, .lit (.pointer (some ⟨b10, 0, none⟩))), (11, true, .lit (.func (.func 70) #[] #[.pointer (some ⟨b10, 0, none⟩), .pointer (some ⟨b9, 0, none⟩), .pointer (some ⟨b8, 0, none⟩)]))]) (fun z => .box b13 147 (Au.rowV z.2.2.1 i z.1) :: .box b10 138 [.lit (.map (some b42))] :: .obj b42 (mObj ((z.2.1.map keyS).map fun s : List UInt8 => Value.string ⟨s.toArray⟩)) :: .box b9 59 [.lit z.2.2.2.1] :: .arr z.2.2.2.1 22 1 (z.2.1.map fun s : Ss => .sl 1 (s.1.map AV.int)) :: .box b8 99 [.lit vN, .lit z.2.2.2.2] :: .arr z.2.2.2.2 4 1 (z.2.1.map fun s : Ss => .bool s.2) :: .arr vN 147 8 ((List.range i).map fun k => r8av (z.2.2.1 k)) :: .arr v30 4 1 (rowB tys.length (fun p => decide (p ∈ la))) :: .box b4 136 [.lit v1, .lit v2, .bool no] :: .box b2 99 [.lit (.slice none 0 0), .lit (.slice none 0 0)] :: .box b1 56 x.avx.cells :: .box b21 134 [.lit vT, .lit vF, .lit (.slice none 0 0), .lit (.slice none 0 0), .bool false] :: .arr vT 3 1 (tys.map AV.int) :: .arr vF 22 1 (rowsV R) :: rowsM 3 R) (fun z => Sts g z.2.1 z.2.2.1 i z.1 ∧ i < z.2.1.length ∧ z.1 ≤ 8) (fun z => 8 - z.1) (0, SL, T, vS, vFi) ⟨rfl, rfl, rfl, rfl, rfl, rfl, rfl, rfl, rfl, rfl, trivial⟩ (by rw [List.append_nil]; exact .refl _) ⟨hT, hi, Nat.zero_le _⟩ ?_
   clear hT hms h64 hi
   clear hi
   clear SL T vS vFi
   rintro ⟨d, SL, T, vS, vFi⟩ ⟨hT, hi, hd⟩
   dsimp only at hT hi hd ⊢
   have h64 : SL.length ≤ 64 := Nat.le_trans hT.len (by rw [hgt]; exact Nat.le_trans (Nat.pow_le_pow_right (by decide) htl) (by decide))
   have hms : (SL.map fun s : Ss => AV.sl 1 (s.1.map AV.int)).length = SL.length := List.length_map ..
   rcases (show d < 8 ∨ d = 8 from by omega) with hd8 | hend
   ·have hgs := getD_mapG (fun s : Ss => AV.sl 1 (s.1.map AV.int)) ([], false) SL i hi
    have hssm := getD_memG ([], false) SL i hi
    obtain ⟨ss, hss⟩ : ∃ s, SL.getD i ([], false) = s := ⟨_, rfl⟩
    rw [hss] at hgs hssm
    have hsin := hT.inn ss hssm
    have hsl : ss.1.length ≤ 6 := by have := hT.sle hssm; rw [hgt] at this; omega
    have htlen : ∀ j, (g.tos (g.sel (ss.1.take j) d)).length ≤ 36 := fun j => by have h1 := g.tos_len (m := 6) (fun p => by rw [hgF]; exact Nat.le_trans (hrow p) htl) (g.sel (ss.1.take j) d); have h2 := g.sel_len (ss.1.take j) d; rw [List.length_take] at h2; omega
    have htob : ∀ x ∈ g.tos (g.sel ss.1 d), 0 ≤ x ∧ x < 100 := fun x hx => by have := g.stp_in hgok ss d x ((norm_mem _ x).2 hx); rw [hgt] at this; omega
    refine W.s (.r (.q (.lti (.t rfl) .k) rfl (.n (.h (.s ?_))))); refine W.isb 57 true rfl (by exact decide_eq_true (by omega)) ?_; refine W.condT (.t rfl) (.k (.h (.s (.b (.s (.r (.mv rfl rfl (.asg rfl rfl (.n (.h (.s (.r (.q (.assign .k) rfl (.n (.h (.s (.r (.q (.assign .k) rfl (.q (.assign .k) rfl (.n (.h (.s (.s ?_))))))))))))))))))))))); refine W.r (.q (.ldb1 3 (.t rfl) rfl ag59 rfl) rfl (.mv rfl rfl ?_)); refine W.q (.ata 4 (.t rfl) rfl (.t rfl) Tryz.underlying59 ty22 (fun _ => by rw [List.length_map]; omega)) rfl ?_; refine W.q (.lda1 4 i 0 (.t rfl) rfl hgs (by omega) rfl rfl rfl ag22) rfl (.q (.lensl (.t rfl) Tryz.underlying22) rfl (.q (.move .k) rfl (.n (.h (.b ?_))))); refine W.own_nil 3 1 ?_; refine W.is (t := 16) (av' := .bool (decide (g.sel (ss.1.take 0) d ≠ []))) rfl (rfl) ?_; refine W.is (t := 17) (av' := .bool (g.fins (g.sel (ss.1.take 0) d))) rfl (rfl) ?_; refine W.loop (D := []) (ι := Nat × Value) (fun z => [(64, true, .int (z.1 : Int)), (63, true, .int ((ss.1.map AV.int).length : Int)), (62, true, .sl 1 (ss.1.map AV.int)), (15, true, .lit z.2), (16, true, .bool (decide (g.sel (ss.1.take z.1) d ≠ []))), (17, true, .bool (g.fins (g.sel (ss.1.take z.1) d))), (14, true, .int (d : Int)), (56, true, .int (d : Int)), (13, true, .lit (.pointer (some ⟨b13, 0, none⟩))), (12, true, .int (i : Int)), (3, true, .lit (.pointer (some ⟨b21, 0, none⟩))), (2, true, .lit (.pointer (some ⟨b2, 0, none⟩))), (5, true, .lit v30), (8, true, .lit (.pointer (some ⟨b8, 0, none⟩))), (9, true, .lit (.pointer (some ⟨b9, 0, none⟩))), (10, true, .lit (.pointer (some ⟨b10, 0, none⟩))), (11, true, .lit (.func (.func 70) #[] #[.pointer (some ⟨b10, 0, none⟩), .pointer (some ⟨b9, 0, none⟩), .pointer (some ⟨b8, 0, none⟩)]))]) (fun z => .arr z.2 3 1 ((g.tos (g.sel (ss.1.take z.1) d)).map AV.int) :: .box b13 147 (Au.rowV T i d) :: .box b10 138 [.lit (.map (some b42))] :: .obj b42 (mObj ((SL.map keyS).map fun s : List UInt8 => Value.string ⟨s.toArray⟩)) :: .box b9 59 [.lit vS] :: .arr vS 22 1 (SL.map fun s : Ss => .sl 1 (s.1.map AV.int)) :: .box b8 99 [.lit vN, .lit vFi] :: .arr vFi 4 1 (SL.map fun s : Ss => .bool s.2) :: .arr vN 147 8 ((List.range i).map fun k => r8av (T k)) :: .arr v30 4 1 (rowB tys.length (fun p => decide (p ∈ la))) :: .box b4 136 [.lit v1, .lit v2, .bool no] :: .box b2 99 [.lit (.slice none 0 0), .lit (.slice none 0 0)] :: .box b1 56 x.avx.cells :: .box b21 134 [.lit vT, .lit vF, .lit (.slice none 0 0), .lit (.slice none 0 0), .bool false] :: .arr vT 3 1 (tys.map AV.int) :: .arr vF 22 1 (rowsV R) :: rowsM 3 R) (fun z => z.1 ≤ ss.1.length) (fun z => ss.1.length - z.1) (0, .slice none 0 0) ⟨rfl, rfl, rfl, rfl, rfl, rfl, rfl, rfl, rfl, rfl, rfl, rfl, rfl, rfl, rfl, rfl, rfl, trivial⟩ (by rw [List.append_nil]; exact .refl _) (Nat.zero_le _) ?_
    rintro ⟨j, vto⟩ hj
    dsimp only at hj ⊢
    have hml3 : (ss.1.map AV.int).length = ss.1.length := List.length_map ..
    rcases (show j < ss.1.length ∨ j = ss.1.length from by omega) with hj | hend
    ·have hgk := getD_map ss.1 j hj
     have hsel := g.sel_snoc ss.1 d j hj
     have hkr := hsin _ (getD_memG 0 ss.1 j hj)
     obtain ⟨kk, hkk⟩ : ∃ k, ss.1.getD j 0 = k := ⟨_, rfl⟩
     rw [hkk] at hgk hsel hkr
     rw [hgt] at hkr
     have hgty := getD_map tys kk.toNat (by omega)
     refine W.s (.r (.q (.lti (.t rfl) (.t rfl)) rfl (.n (.h (.s ?_))))); refine W.isb 65 true rfl (by exact decide_eq_true (by omega)) ?_; refine W.condT (.t rfl) (.k (.h (.s (.b (.s (.r ?_)))))); refine W.q (.at (E := 3) (.t rfl) (.t rfl) Tryz.underlying22 ty3 (fun _ => ⟨by omega, hgk⟩) rfl rfl) rfl ?_; refine W.q (.lde1 (.t rfl) ag3) rfl (.asg rfl rfl (.n (.h (.s (.r (.mv rfl rfl (.q (.nilc (.t rfl)) rfl (.q (.fab (.t rfl) fa134_0) rfl (.q (.ldb1 13 (.t rfl) rfl ag22 rfl) rfl ?_)))))))))
     refine W.q (.move (.t rfl)) rfl ?_; refine W.q (.ata 14 (.t rfl) rfl (.t rfl) Tryz.underlying22 ty3 (fun _ => by rw [List.length_map]; omega)) rfl ?_; refine W.q (.lda1 14 kk.toNat 0 (.t rfl) rfl hgty (by omega) rfl rfl rfl ag3) rfl ?_; refine W.q (.move (.t rfl)) rfl ?_; refine W.q (.eqi (.t rfl) (.t rfl)) rfl ?_; refine W.n ?_; refine W.h ?_; refine W.cond (.t rfl) (fun hc_t76 => ?_) (fun hc_t76 => ?_)
     ·have hsel2 : g.sel (ss.1.take (j + 1)) d = g.sel (ss.1.take j) d ++ [kk] := by rw [hsel, if_pos (by rw [hgt]; exact hc_t76)]
      have hkR : kk.toNat < R.length := by omega
      refine W.perm (rowsM_out 3 R kk.toNat hkR [.arr vto 3 1 ((g.tos (g.sel (ss.1.take j) d)).map AV.int), .box b13 147 (Au.rowV T i d), .box b10 138 [.lit (.map (some b42))], .obj b42 (mObj ((SL.map keyS).map fun s : List UInt8 => Value.string ⟨s.toArray⟩)), .box b9 59 [.lit vS], .arr vS 22 1 (SL.map fun s : Ss => .sl 1 (s.1.map AV.int)), .box b8 99 [.lit vN, .lit vFi], .arr vFi 4 1 (SL.map fun s : Ss => .bool s.2), .arr vN 147 8 ((List.range i).map fun k => r8av (T k)), .arr v30 4 1 (rowB tys.length (fun p => decide (p ∈ la))), .box b4 136 [.lit v1, .lit v2, .bool no], .box b2 99 [.lit (.slice none 0 0), .lit (.slice none 0 0)], .box b1 56 x.avx.cells, .box b21 134 [.lit vT, .lit vF, .lit (.slice none 0 0), .lit (.slice none 0 0), .bool false], .arr vT 3 1 (tys.map AV.int), .arr vF 22 1 (rowsV R)]) ?_
      obtain ⟨⟨vr, l⟩, hz⟩ : ∃ z, R.getD kk.toNat (.slice none 0 0, []) = z := ⟨_, rfl⟩
      rw [hz]
      dsimp only
      refine W.arr_inv 0 rfl (fun a9 n9 c9 hv9 => ?_)
      subst hv9
      have hgv := rowsV_get R kk.toNat hkR
      rw [hz] at hgv
      have hFl : (folOf R).getD kk.toNat [] = l := by rw [folOf_get, hz]
      have hll : l.length ≤ 6 := by rw [← hFl]; exact Nat.le_trans (hrow _) htl
      refine W.s (.r (.mv rfl rfl (.mv rfl rfl (.q (.nilc (.t rfl)) rfl (.q (.fab (.t rfl) fa134_1) rfl (.q (.ldb1 14 (.t rfl) rfl ag59 rfl) rfl ?_))))))
      refine W.q (.move (.t rfl)) rfl ?_; refine W.q (.ata 16 (.t rfl) rfl (.t rfl) Tryz.underlying59 ty22 (fun _ => by rw [rowsV_len]; omega)) rfl ?_; refine W.q (.lda1 16 kk.toNat 0 (.t rfl) rfl hgv (by omega) rfl rfl rfl ag22) rfl ?_; refine W.app 1 (.t rfl) rfl (.arr 0 (.t rfl) rfl (okc_natv l)) Tryz.underlying22 ni22 ty3 rfl rfl (by have := htlen j; rw [List.length_map, List.length_map]; omega) rfl ?_; intro v85; refine W.q (.assign (.t rfl)) rfl ?_; refine W.n ?_; refine W.h ?_; refine W.drawnE (ι := Unit) (fun _ _ => _) 9 () (by kernel_rfl) (by kernel_rfl) rfl ?_; refine DE.q (fun e c hk => (.move (.t rfl))) rfl (fun _ _ => rfl) (.inr fun _ _ => rfl) ?_; refine DE.q (fun e c hk => (.move (.t rfl))) rfl (fun _ _ => rfl) (.inr fun _ _ => rfl) ?_; refine DE.qg rfl (fun _ => rfl) (fun e c hk => (.move (.t rfl))) rfl (fun _ _ => rfl) (.inr fun _ _ => rfl) ?_; refine DE.qg rfl (fun _ => rfl) (fun e c hk => (.move (.t rfl))) rfl (fun _ _ => rfl) (.inr fun _ _ => rfl) ?_; refine DE.qg rfl (fun _ => rfl) (fun e c hk => Ev.ata 10 (.c rfl) rfl (.c rfl) Tryz.underlying60 ty4 (fun _ => by rw [rowB_len]; omega)) rfl (fun _ _ => rfl) (.inr fun _ _ => rfl) ?_; refine DE.qg rfl (fun _ => rfl) (fun e c hk => Ev.lda1 10 kk.toNat 0 (.c rfl) rfl (rowB_at _ _ kk.toNat (by omega)) (by omega) rfl rfl rfl ag4) rfl (fun _ _ => rfl) (.inr fun _ _ => rfl) ?_; refine DE.q (fun e c hk => (.or (.t rfl) ⟨_, _, rfl, rfl, by ((simp; done))⟩)) rfl (fun _ _ => rfl) (.inr fun _ _ => rfl) ?_; refine DE.q (fun e c hk => (.assign .k)) rfl (fun _ _ => rfl) (.inr fun _ _ => rfl) ?_; refine DE.q (fun e c hk => (.assign (.t rfl))) rfl (fun _ _ => rfl) (.inr fun _ _ => rfl) ?_; refine DE.nil (fun c_ e_ he_ => ?_)
      dsimp only
      refine W.bn (.h (.r (.q (.add (.t rfl) .k (fun _ => by omega)) rfl ?_)))
      refine W.q (.move (.t rfl)) rfl ?_; refine W.n ?_; refine W.h ?_; refine W.is (t := 16) (av' := .bool (decide (g.sel (ss.1.take (j + 1)) d ≠ []))) rfl (by rw [hsel2]; simp) ?_; refine W.is (t := 17) (av' := .bool (g.fins (g.sel (ss.1.take (j + 1)) d))) rfl (by rw [hsel2, g.fins_snoc, hgl]) ?_; refine W.reach (D := []) (j + 1, v85) ⟨rfl, rfl, rfl, rfl, rfl, rfl, rfl, rfl, rfl, rfl, rfl, rfl, rfl, rfl, rfl, rfl, rfl, trivial⟩ ?_ ⟨hj, by show ss.1.length - (j + 1) < ss.1.length - j; omega⟩
      rw [List.append_nil]
      dsimp only
      rw [hsel2, g.tos_snoc, hgF, hFl, List.map_append, Gp.ints_av]
      have h8 := (rowsM_out 3 R kk.toNat hkR [.arr v85 3 1 ((g.tos (g.sel (ss.1.take j) d)).map AV.int ++ l.map natv), .box b13 147 (Au.rowV T i d), .box b10 138 [.lit (.map (some b42))], .obj b42 (mObj ((SL.map keyS).map fun s : List UInt8 => Value.string ⟨s.toArray⟩)), .box b9 59 [.lit vS], .arr vS 22 1 (SL.map fun s : Ss => .sl 1 (s.1.map AV.int)), .box b8 99 [.lit vN, .lit vFi], .arr vFi 4 1 (SL.map fun s : Ss => .bool s.2), .arr vN 147 8 ((List.range i).map fun k => r8av (T k)), .arr v30 4 1 (rowB tys.length (fun p => decide (p ∈ la))), .box b4 136 [.lit v1, .lit v2, .bool no], .box b2 99 [.lit (.slice none 0 0), .lit (.slice none 0 0)], .box b1 56 x.avx.cells, .box b21 134 [.lit vT, .lit vF, .lit (.slice none 0 0), .lit (.slice none 0 0), .bool false], .arr vT 3 1 (tys.map AV.int), .arr vF 22 1 (rowsV R)]).symm
      rw [hz] at h8
      exact h8
     ·have hsel2 : g.sel (ss.1.take (j + 1)) d = g.sel (ss.1.take j) d := by rw [hsel, if_neg (by rw [hgt]; intro h; exact Bool.eq_false_iff.1 hc_t76 h), List.append_nil]
      refine W.k (.bn (.h (.r (.q (.add (.t rfl) .k (fun _ => by omega)) rfl ?_))))
      refine W.q (.move (.t rfl)) rfl ?_; refine W.n ?_; refine W.h ?_; refine W.is (t := 16) (av' := .bool (decide (g.sel (ss.1.take (j + 1)) d ≠ []))) rfl (by rw [hsel2]) ?_; refine W.is (t := 17) (av' := .bool (g.fins (g.sel (ss.1.take (j + 1)) d))) rfl (by rw [hsel2]) ?_; refine W.reach (D := []) (j + 1, vto) ⟨rfl, rfl, rfl, rfl, rfl, rfl, rfl, rfl, rfl, rfl, rfl, rfl, rfl, rfl, rfl, rfl, rfl, trivial⟩ ?_ ⟨hj, by show ss.1.length - (j + 1) < ss.1.length - j; omega⟩
      rw [List.append_nil]
      dsimp only
      rw [hsel2]
    ·subst hend
     rw [List.take_length]
     refine W.s ?_; refine W.r ?_; refine W.q (.lti (.t rfl) (.t rfl)) rfl ?_; refine W.n ?_; refine W.h ?_; refine W.s ?_; refine W.isb 65 false rfl (by exact decide_eq_false (by omega)) ?_; refine W.condF (.t rfl) ?_; refine W.ex ?_; refine W.he ?_; refine W.he ?_; refine W.bh ?_; refine W.h ?_; refine W.s ?_; refine W.r ?_; refine W.q (.move (.t rfl)) rfl ?_; refine W.q (.boxat (.t rfl) (.t rfl) Tryz.underlying147 ty3 (fun _ => ⟨by omega, by omega⟩)) rfl ?_; refine W.stb 1 (o := d) (.t rfl) .k rfl ty3 rfl rfl (Nat.ble_eq_true_of_le (by show d + 1 ≤ 8; omega)) ?_; refine W.n ?_; refine W.h ?_; refine W.s ?_; refine W.r ?_; refine W.q (.move (.t rfl)) rfl ?_; refine W.n ?_; refine W.h ?_; refine W.cond (.t rfl) (fun hc_t96 => ?_) (fun hc_t96 => ?_)
     ·have hne : g.sel ss.1 d ≠ [] := of_decide_eq_true hc_t96
      refine W.r (.mv rfl rfl (.mv rfl rfl (.mv rfl rfl (.mv rfl rfl ?_)))); refine W.callv (caps := [.pointer (some ⟨b10, 0, none⟩), .pointer (some ⟨b9, 0, none⟩), .pointer (some ⟨b8, 0, none⟩)]) (avs := [_, _]) (WState.c_state vto (g.tos (g.sel ss.1 d)) (g.fins (g.sel ss.1 d)) b10 b42 b9 b8 vS vN vFi SL (by have := htlen ss.1.length; rw [List.take_length] at this; omega) htob (fun s hs => (hT.inn s hs).sml (by rw [hgt]; omega)) (by omega)) (.t rfl) ⟨(.t rfl), (.t rfl), trivial⟩ rfl ((List.Perm.cons _ (List.perm_middle (l₁ := [_, _, _, _, _, _])).symm)) rfl ?_
      rintro _ _ ⟨kq, vS', vFi', SL', rfl, rfl, hor⟩
      refine W.perm (List.perm_middle (l₁ := [_, _, _, _, _, _])) ?_; refine W.q (.boxat (.t rfl) (.t rfl) Tryz.underlying147 ty3 (fun _ => ⟨by omega, by omega⟩)) rfl ?_; refine W.stb 0 (o := d) (.t rfl) (.t rfl) rfl ty3 rfl rfl (Nat.ble_eq_true_of_le (by show d + 1 ≤ (splice (Au.rowV T i d) d [AV.int (-1)]).length; rw [Au.rowV_splice T i d (-1) hd8]; show d + 1 ≤ 8; omega)) ?_; refine W.n (.bn (.h (.r (.q (.add (.t rfl) .k (fun _ => by omega)) rfl (.mv rfl rfl (.n (.h ?_)))))))
      rcases hor with ⟨hpl, rfl⟩ | ⟨hnm, rfl, rfl⟩
      ·have hjl := place_lt hpl
       have hjg := place_some hpl
       have h9 := (hT.setI (kq : Int)).old (Au.setI_at _ _ _ _) hjl (by rw [List.getD_eq_getElem?_getD, hjg, hss]; rfl)
       refine W.reach (D := []) (d + 1, SL', Au.setI T i d (kq : Int), vS', vFi') ⟨rfl, rfl, rfl, rfl, rfl, rfl, rfl, rfl, rfl, rfl, trivial⟩ ?_ ⟨⟨h9, hi, hd8⟩, by show 8 - (d + 1) < 8 - d; omega⟩
       rw [List.append_nil]
       dsimp only
       rw [rows_setI, ← Au.rowV_splice2 T i d (-1) (kq : Int) hd8]
       exact .refl _
      ·have h9 := (hT.setI (SL.length : Int)).new hgok hi hd8 (Au.setI_at _ _ _ _) (by rw [hss]; exact hne) (by rw [hss]; exact hnm)
       rw [hss] at h9
       refine W.reach (D := []) (d + 1, SL ++ [g.stp ss d], Au.setI T i d (SL.length : Int), vS', vFi') ⟨rfl, rfl, rfl, rfl, rfl, rfl, rfl, rfl, rfl, rfl, trivial⟩ ?_ ⟨⟨h9, by show i < (SL ++ [g.stp ss d]).length; rw [List.length_append]; omega, hd8⟩, by show 8 - (d + 1) < 8 - d; omega⟩
       rw [List.append_nil]
       dsimp only
       rw [rows_setI, ← Au.rowV_splice2 T i d (-1) (SL.length : Int) hd8]
       exact .refl _
     ·have hse : g.sel ss.1 d = [] := Classical.byContradiction fun h => by rw [decide_eq_true h] at hc_t96; cases hc_t96
      refine W.k (.bn (.h (.r (.q (.add (.t rfl) .k (fun _ => by omega)) rfl (.mv rfl rfl (.n (.h ?_)))))))
      have h9 := (hT.setI (-1)).none (Au.setI_at _ _ _ _) (by rw [hss]; exact hse)
      refine W.reach (D := [.arr vto 3 1 ((g.tos (g.sel ss.1 d)).map AV.int)]) (d + 1, SL, Au.setI T i d (-1), vS, vFi) ⟨rfl, rfl, rfl, rfl, rfl, rfl, rfl, rfl, rfl, rfl, trivial⟩ ?_ ⟨⟨h9, hi, hd8⟩, by show 8 - (d + 1) < 8 - d; omega⟩
      dsimp only
      rw [rows_setI, ← Au.rowV_splice T i d (-1) hd8]
      exact List.perm_append_comm (l₁ := [_])
   ·subst hend
    rw [Au.rowV_done]
    refine W.s (.r (.q (.lti (.t rfl) .k) rfl (.n (.h (.s (.isb 57 false rfl (by rfl) (.condF (.t rfl) (.ex (.he (.he (.bh (.h (.r (.q (.fab (.t rfl) fa99_0) rfl (.q (.ldb1 5 (.t rfl) rfl ag97 rfl) rfl (.q (.ldbn 0 (.t rfl) rfl ag147 ty147 rfl) rfl ?_))))))))))))))))
    refine W.is (t := 106) (av' := r8av (T i)) rfl rfl ?_; refine W.bs (es := [_]) Tryz.underlying97 ty147 ⟨rfl, (.t rfl), rfl, rfl, trivial⟩ rfl (by decide) rfl rfl ?_; refine W.app 7 (.t rfl) rfl (.sl (.t rfl) (by intro e he; rw [List.mem_singleton.1 he]; rfl)) Tryz.underlying97 ni97 ty147 rfl rfl (by rw [List.length_map, List.length_range]; simp only [List.length_cons, List.length_nil]; omega) rfl ?_; intro v108
    refine W.q (.fab (.t rfl) fa99_0) rfl ?_
    refine W.arr_inv 7 rfl (fun a7 n7 c7 h7 => ?_)
    subst h7
    refine W.stb 5 (.t rfl) (.t rfl) rfl ty97 rfl rfl rfl (.n (.bn (.h (.r (.mv rfl rfl (.q (.add (.t rfl) .k (fun _ => by omega)) rfl ?_))))))
    refine W.q (.assign (.t rfl)) rfl ?_; refine W.n ?_; refine W.h ?_; refine W.reach (D := [.box b13 147 (row8 (T i))]) (i + 1, SL, T, vS, .slice a7 n7 c7, vFi) ⟨rfl, rfl, rfl, rfl, rfl, rfl, rfl, rfl, trivial⟩ ?_ ⟨⟨hT.row, hi⟩, by show 65 - (i + 1) < 65 - i; omega⟩
    dsimp only
    rw [← rows_snoc i T]
    exact List.perm_append_comm (l₁ := [_])
  ·subst hend
   have hd := hT.done hgok
   refine W.s (.s (.r (.mv rfl rfl (.q (.ldb1 2 (.t rfl) rfl ag59 rfl) rfl ?_)))); refine W.q (.lenar (i := 3) (.t rfl) rfl Tryz.underlying59) rfl ?_; refine W.q (.lti (.t rfl) (.t rfl)) rfl (.n (.h ?_)); refine W.isb 53 false rfl (by exact decide_eq_false (by omega)) ?_; refine W.condF (.t rfl) (.ex (.he (.he (.bh (.h (.s (.r ?_))))))); refine W.freezeA (M1 := .box b10 138 [.lit (.map (some b42))] :: .obj b42 (mObj ((SL.map keyS).map fun s : List UInt8 => Value.string ⟨s.toArray⟩)) :: .box b9 59 [.lit vS] :: .arr vS 22 1 (SL.map fun s : Ss => .sl 1 (s.1.map AV.int)) :: .box b8 99 [.lit vN, .lit vFi] :: .arr vFi 4 1 (SL.map fun s : Ss => .bool s.2) :: .arr v30 4 1 (rowB tys.length (fun p => decide (p ∈ la))) :: .box b4 136 [.lit v1, .lit v2, .bool no] :: .box b2 99 [.lit (.slice none 0 0), .lit (.slice none 0 0)] :: .box b1 56 x.avx.cells :: .box b21 134 [.lit vT, .lit vF, .lit (.slice none 0 0), .lit (.slice none 0 0), .bool false] :: .arr vT 3 1 (tys.map AV.int) :: .arr vF 22 1 (rowsV R) :: rowsM 3 R) (M2 := .box b10 138 [.lit (.map (some b42))] :: .obj b42 (mObj ((SL.map keyS).map fun s : List UInt8 => Value.string ⟨s.toArray⟩)) :: .box b9 59 [.lit vS] :: .arr vS 22 1 (SL.map fun s : Ss => .sl 1 (s.1.map AV.int)) :: .box b8 99 [.sl 8 ((List.range SL.length).map fun k => r8av (T k)), .lit vFi] :: .arr vFi 4 1 (SL.map fun s : Ss => .bool s.2) :: .arr v30 4 1 (rowB tys.length (fun p => decide (p ∈ la))) :: .box b4 136 [.lit v1, .lit v2, .bool no] :: .box b2 99 [.lit (.slice none 0 0), .lit (.slice none 0 0)] :: .box b1 56 x.avx.cells :: .box b21 134 [.lit vT, .lit vF, .lit (.slice none 0 0), .lit (.slice none 0 0), .bool false] :: .arr vT 3 1 (tys.map AV.int) :: .arr vF 22 1 (rowsV R) :: rowsM 3 R) (D := []) (v := vN) (L' := []) (by rw [List.append_nil]; exact List.perm_middle (l₁ := [_, _, _, _, _, _])) trivial ⟨.refl _, .refl _, .refl _, .refl _, .box ⟨.hit, .refl _, trivial⟩, FrzMs.refl _⟩ ?_; refine W.freezeA (M1 := .box b10 138 [.lit (.map (some b42))] :: .obj b42 (mObj ((SL.map keyS).map fun s : List UInt8 => Value.string ⟨s.toArray⟩)) :: .box b9 59 [.lit vS] :: .arr vS 22 1 (SL.map fun s : Ss => .sl 1 (s.1.map AV.int)) :: .box b8 99 [.sl 8 ((List.range SL.length).map fun k => r8av (T k)), .lit vFi] :: .arr v30 4 1 (rowB tys.length (fun p => decide (p ∈ la))) :: .box b4 136 [.lit v1, .lit v2, .bool no] :: .box b2 99 [.lit (.slice none 0 0), .lit (.slice none 0 0)] :: .box b1 56 x.avx.cells :: .box b21 134 [.lit vT, .lit vF, .lit (.slice none 0 0), .lit (.slice none 0 0), .bool false] :: .arr vT 3 1 (tys.map AV.int) :: .arr vF 22 1 (rowsV R) :: rowsM 3 R) (M2 := .box b10 138 [.lit (.map (some b42))] :: .obj b42 (mObj ((SL.map keyS).map fun s : List UInt8 => Value.string ⟨s.toArray⟩)) :: .box b9 59 [.lit vS] :: .arr vS 22 1 (SL.map fun s : Ss => .sl 1 (s.1.map AV.int)) :: .box b8 99 [.sl 8 ((List.range SL.length).map fun k => r8av (T k)), .sl 1 (SL.map fun s : Ss => .bool s.2)] :: .arr v30 4 1 (rowB tys.length (fun p => decide (p ∈ la))) :: .box b4 136 [.lit v1, .lit v2, .bool no] :: .box b2 99 [.lit (.slice none 0 0), .lit (.slice none 0 0)] :: .box b1 56 x.avx.cells :: .box b21 134 [.lit vT, .lit vF, .lit (.slice none 0 0), .lit (.slice none 0 0), .bool false] :: .arr vT 3 1 (tys.map AV.int) :: .arr vF 22 1 (rowsV R) :: rowsM 3 R) (D := []) (v := vFi) (L' := []) (by rw [List.append_nil]; exact List.perm_middle (l₁ := [_, _, _, _, _])) trivial ⟨.refl _, .refl _, .refl _, .refl _, .box ⟨.refl _, .hit, trivial⟩, FrzMs.refl _⟩ ?_; refine W.q (.ldbn 4 (.t rfl) rfl ag99 ty99 rfl) rfl (.stb 7 (.t rfl) (.t rfl) rfl ty99 rfl rfl rfl (.n (.h ?_))); refine W.ret ?_; refine W.retn (M' := []) (D := _) (rs := [.cell 2 99]) (avs := [_]) Tryz.results38 ⟨⟨_, _, _, rfl, by repeat (first | exact List.mem_cons_self | apply List.mem_cons_of_mem), rfl, by funext w; exact ag99.run w, by funext w; exact ty99.size w⟩, trivial⟩ rfl (.refl _) ?_
   refine ⟨rfl, Au.auOf SL.length T (SL.map (·.2)), hd.1, by rw [Au.auOf_len]; exact h64, fun u => (hd.2 u).trans (by rw [hgd, ← hglg]), ?_⟩
   rw [Au.auOf_wide]
   show _ = AV.agg [_, .sl 1 ((SL.map (·.2)).map AV.bool)]
   rw [List.map_map]
   rfl
end WSets
end Go.Proofs.YtphlkdbglpcikaaGreatDoor
end
section
namespace Go.Proofs.YtphlkdbglpcikaaGreatDoor
open Go.Vl
open Y
namespace WClone
theorem c_CloneBool (es : List AV) (ho : ∀ e ∈ es, e.okc = true) (hl : es.length ≤ 1099511627776) : FnC Tryz.prog 127 [.sl 1 es] [] (fun r M => ∃ v, r = .lit v ∧ M = [.arr v 4 1 es]) :=  by
 refine FnC.mk Tryz.func127 (by kernel_rfl) rfl Tryz.ntmps127 rfl (fun w0 F => ?_)
 refine W.s ?_; refine W.r ?_; refine W.q (.assign .k) rfl ?_; refine W.n ?_; refine W.h ?_; refine W.s ?_; refine W.s ?_; refine W.r ?_; refine W.q (.move (.t rfl)) rfl ?_; refine W.slnil (.t rfl) Tryz.underlying60 rfl (fun q hq => ?_); refine W.n ?_; refine W.h ?_; refine W.cond (.t rfl) (fun hc_t4 => ?_) (fun hc_t4 => ?_)
 ·refine W.s ?_
  refine W.r (.q (.assign .k) rfl (.n ?_)); refine W.own_nil 4 1 ?_; refine W.h ?_; refine W.ret ?_; refine W.hr ?_; refine W.retn (M' := [.arr _ 4 1 _]) (rs := [.tmp 2]) (avs := [_]) Tryz.results127 ⟨rfl, trivial⟩ rfl (.refl _) ?_
  first | exact ⟨_, rfl, by rw [hq hc_t4]⟩ | exact ⟨_, rfl, rfl⟩
 ·refine W.k ?_
  refine W.h ?_; refine W.s ?_; refine W.r ?_; refine W.bso (es := []) Tryz.underlying60 ty4 trivial rfl (by decide) rfl rfl ?_; intro v5; refine W.q (.move (.t rfl)) rfl ?_
  first | refine W.app 0 (.t rfl) rfl (.sl (.t rfl) (ho)) Tryz.underlying60 ni60 ty4 rfl rfl (by simp; omega) rfl ?_ | refine W.app 1 (.t rfl) rfl (.sl (.t rfl) (ho)) Tryz.underlying60 ni60 ty4 rfl rfl (by simp; omega) rfl ?_ | refine W.app 2 (.t rfl) rfl (.sl (.t rfl) (ho)) Tryz.underlying60 ni60 ty4 rfl rfl (by simp; omega) rfl ?_ | refine W.app 3 (.t rfl) rfl (.sl (.t rfl) (ho)) Tryz.underlying60 ni60 ty4 rfl rfl (by simp; omega) rfl ?_ | refine W.app 0 (.t rfl) rfl (.arr 0 (.t rfl) rfl (ho)) Tryz.underlying60 ni60 ty4 rfl rfl (by simp; omega) rfl ?_ | refine W.app 0 (.t rfl) rfl (.arr 1 (.t rfl) rfl (ho)) Tryz.underlying60 ni60 ty4 rfl rfl (by simp; omega) rfl ?_ | refine W.app 0 (.t rfl) rfl (.arr 2 (.t rfl) rfl (ho)) Tryz.underlying60 ni60 ty4 rfl rfl (by simp; omega) rfl ?_ | refine W.app 0 (.t rfl) rfl (.arr 3 (.t rfl) rfl (ho)) Tryz.underlying60 ni60 ty4 rfl rfl (by simp; omega) rfl ?_ | refine W.app 1 (.t rfl) rfl (.arr 0 (.t rfl) rfl (ho)) Tryz.underlying60 ni60 ty4 rfl rfl (by simp; omega) rfl ?_ | refine W.app 1 (.t rfl) rfl (.arr 1 (.t rfl) rfl (ho)) Tryz.underlying60 ni60 ty4 rfl rfl (by simp; omega) rfl ?_ | refine W.app 1 (.t rfl) rfl (.arr 2 (.t rfl) rfl (ho)) Tryz.underlying60 ni60 ty4 rfl rfl (by simp; omega) rfl ?_ | refine W.app 1 (.t rfl) rfl (.arr 3 (.t rfl) rfl (ho)) Tryz.underlying60 ni60 ty4 rfl rfl (by simp; omega) rfl ?_ | refine W.app 2 (.t rfl) rfl (.arr 0 (.t rfl) rfl (ho)) Tryz.underlying60 ni60 ty4 rfl rfl (by simp; omega) rfl ?_ | refine W.app 2 (.t rfl) rfl (.arr 1 (.t rfl) rfl (ho)) Tryz.underlying60 ni60 ty4 rfl rfl (by simp; omega) rfl ?_ | refine W.app 2 (.t rfl) rfl (.arr 2 (.t rfl) rfl (ho)) Tryz.underlying60 ni60 ty4 rfl rfl (by simp; omega) rfl ?_ | refine W.app 2 (.t rfl) rfl (.arr 3 (.t rfl) rfl (ho)) Tryz.underlying60 ni60 ty4 rfl rfl (by simp; omega) rfl ?_ | refine W.app 3 (.t rfl) rfl (.arr 0 (.t rfl) rfl (ho)) Tryz.underlying60 ni60 ty4 rfl rfl (by simp; omega) rfl ?_ | refine W.app 3 (.t rfl) rfl (.arr 1 (.t rfl) rfl (ho)) Tryz.underlying60 ni60 ty4 rfl rfl (by simp; omega) rfl ?_ | refine W.app 3 (.t rfl) rfl (.arr 2 (.t rfl) rfl (ho)) Tryz.underlying60 ni60 ty4 rfl rfl (by simp; omega) rfl ?_ | refine W.app 3 (.t rfl) rfl (.arr 3 (.t rfl) rfl (ho)) Tryz.underlying60 ni60 ty4 rfl rfl (by simp; omega) rfl ?_
  intro v7; refine W.q (.assign (.t rfl)) rfl ?_; refine W.n ?_; refine W.h ?_; refine W.ret ?_; refine W.retn (M' := [.arr _ 4 1 _]) (rs := [.tmp 2]) (avs := [_]) Tryz.results127 ⟨rfl, trivial⟩ rfl (.refl _) ?_
  first | exact ⟨_, rfl, by rw [hq hc_t4]⟩ | exact ⟨_, rfl, rfl⟩
end WClone
end Go.Proofs.YtphlkdbglpcikaaGreatDoor
end
section
namespace Go.Proofs.YtphlkdbglpcikaaGreatDoor
open Go.Vl
open Y
namespace WLive
theorem c_live (w : Au) (hs : w.Shape) (hn : w.next.length ≤ 4096) : FnC Tryz.prog 110 [.agg [.sl 8 (w.next.map wrow), .sl 1 (w.final.map AV.bool)]] [] (fun r M => ∃ v f, r = .lit v ∧ M = [.arr v 4 1 (rowB w.next.length f)] ∧ ∀ k, k < w.next.length → (f k = true ↔ w.lives k)) :=  by
 refine FnC.mk Tryz.func110 (by kernel_rfl) rfl Tryz.ntmps110 rfl (fun w0 F => ?_)
 have hfin := hs.fin
 have hpos := hs.pos
 have hnl : (w.next.map wrow).length = w.next.length := List.length_map ..
 have hfl : (w.final.map AV.bool).length = w.final.length := List.length_map ..
 have hf0 : w.final.map AV.bool = rowB w.next.length (fun k => w.final.getD k false) := by rw [rowB_list, hfin]
 refine W.s ?_; refine W.r ?_; refine W.box (.t rfl) rfl rfl ?_; intro b1; refine W.q (.assign .k) rfl ?_; refine W.n ?_; refine W.h ?_; refine W.s ?_; refine W.r ?_
 refine W.q (.fab (.t rfl) fa99_1) rfl (.q (.ldb1 0 (.t rfl) rfl ag60 rfl) rfl ?_); refine W.call (WClone.c_CloneBool (w.final.map AV.bool) (by rw [hf0]; exact okc_rowB _ _) (by omega)) ⟨(.t rfl), trivial⟩ (.refl _) rfl ?_
 rintro _ _ ⟨v11, rfl, rfl⟩
 refine W.asg rfl rfl (.n (.h (.s (.s (.r (.q (.assign .k) rfl (.n (.h (.b ?_))))))))); refine W.loop (D := []) (ι := (Nat → Bool) × Bool) (fun z => [(4, true, .lit (.bool z.2)), (3, true, .lit v11), (1, true, .lit (.pointer (some ⟨b1, 0, none⟩)))]) (fun z => [.arr v11 4 1 (rowB w.next.length z.1), .box b1 99 [.sl 8 (w.next.map wrow), .sl 1 (w.final.map AV.bool)]]) (fun z => (z.2 = true → Au.Lv w z.1 z.1 false 0 0) ∧ (z.2 = false → ∃ f0, Au.Lv w f0 z.1 false w.next.length 0)) (fun z => 2 * outs w.next.length z.1 + (if z.2 = true then 1 else 0)) (fun k => w.final.getD k false, true) ⟨rfl, rfl, rfl, trivial⟩ (by dsimp only; rw [← hf0]; exact .refl _) ⟨fun _ => Au.Lv.start, fun h => by cases h⟩ ?_
 rintro ⟨f1, m0⟩ ⟨h1, h2⟩
 dsimp only at h1 h2 ⊢
 refine W.s ?_; refine W.s ?_; refine W.r ?_; refine W.q (.move (.t rfl)) rfl ?_; refine W.n ?_; refine W.h ?_; refine W.cond (.t rfl) (fun hc_t12 => ?_) (fun hc_t12 => ?_)
 ·have hm1 : m0 = true := hc_t12
  subst hm1
  have hL0 := h1 rfl
  clear h1 h2
  refine W.k (.h (.b (.s (.r (.q (.assign .k) rfl (.n (.h (.s (.r (.q (.fab (.t rfl) fa99_0) rfl (.q (.ldb1 1 (.t rfl) rfl ag97 rfl) rfl (.q (.lensl (.t rfl) Tryz.underlying97) rfl (.q (.move .k) rfl (.n (.h (.b ?_)))))))))))))))); refine W.loop (D := []) (ι := Nat × (Nat → Bool) × Bool) (fun z => [(16, true, .int (z.1 : Int)), (15, true, .int ((w.next.map wrow).length : Int)), (14, true, .sl 8 (w.next.map wrow)), (4, true, .lit (.bool z.2.2)), (3, true, .lit v11), (1, true, .lit (.pointer (some ⟨b1, 0, none⟩)))]) (fun z => [.arr v11 4 1 (rowB w.next.length z.2.1), .box b1 99 [.sl 8 (w.next.map wrow), .sl 1 (w.final.map AV.bool)]]) (fun z => Au.Lv w f1 z.2.1 z.2.2 z.1 0 ∧ z.1 ≤ w.next.length) (fun z => w.next.length - z.1) (0, f1, false) ⟨rfl, rfl, rfl, rfl, rfl, rfl, trivial⟩ (.refl _) ⟨hL0, Nat.zero_le _⟩ ?_
  rintro ⟨i, f, m⟩ ⟨hL, hi⟩
  dsimp only at hL hi ⊢
  rcases (show i < w.next.length ∨ i = w.next.length from by omega) with hi | hend
  ·have hga := wrow_get hs hi
   refine W.s (.r (.q (.lti (.t rfl) (.t rfl)) rfl (.n (.h (.s ?_))))); refine W.isb 17 true rfl (by exact decide_eq_true (by omega)) ?_; refine W.condT (.t rfl) (.k (.h (.s (.b (.s (.r (.mv rfl rfl ?_))))))); refine W.q (.at (E := 147) (.t rfl) (.t rfl) Tryz.underlying97 ty147 (fun _ => ⟨by omega, hga⟩) rfl rfl) rfl ?_; refine W.q (.lden (.t rfl) ag147 ty147 rfl rfl) rfl ?_
   refine W.alloc ty147 rfl rfl ?_; intro b6; refine W.q (.assign (.t rfl)) rfl ?_
   refine W.stb 0 (.t rfl) (.t rfl) rfl ty147 rfl rfl rfl (.n (.h (.s (.r (.q (.ldbn 0 (.t rfl) rfl ag147 ty147 rfl) rfl ?_))))); refine W.is (t := 21) (av' := r8av (fun c => w.to (i : Int) (c : Int))) rfl rfl ?_; refine W.q (.move .k) rfl (.n (.h (.b ?_))); refine W.loop (D := [.box b6 147 _]) (ι := Nat × (Nat → Bool) × Bool) (fun z => [(22, true, .int (z.1 : Int)), (21, true, r8av (fun c => w.to (i : Int) (c : Int))), (5, true, .int (i : Int)), (16, true, .int (i : Int)), (15, true, .int ((w.next.map wrow).length : Int)), (14, true, .sl 8 (w.next.map wrow)), (4, true, .lit (.bool z.2.2)), (3, true, .lit v11), (1, true, .lit (.pointer (some ⟨b1, 0, none⟩)))]) (fun z => [.arr v11 4 1 (rowB w.next.length z.2.1), .box b1 99 [.sl 8 (w.next.map wrow), .sl 1 (w.final.map AV.bool)]]) (fun z => Au.Lv w f1 z.2.1 z.2.2 i z.1 ∧ z.1 ≤ 8) (fun z => 8 - z.1) (0, f, m) ⟨rfl, rfl, rfl, rfl, rfl, rfl, rfl, rfl, rfl, trivial⟩ (List.perm_append_comm (l₁ := [_])) ⟨hL, Nat.zero_le _⟩ ?_
   clear hL f m
   rintro ⟨d, f, m⟩ ⟨hL, hd⟩
   dsimp only at hL hd ⊢
   rcases (show d < 8 ∨ d = 8 from by omega) with hd8 | hend
   ·have hto := Au.to_range hs (i := (i : Int)) (c := (d : Int)) (by omega) (by omega) (by omega) (by omega)
    refine W.s ?_; refine W.r ?_; refine W.q (.lti (.t rfl) .k) rfl ?_; refine W.n ?_; refine W.h ?_; refine W.s ?_; refine W.isb 23 true rfl (by exact decide_eq_true (by omega)) ?_; refine W.condT (.t rfl) ?_; refine W.k ?_; refine W.h ?_; refine W.s ?_; refine W.b ?_; refine W.s ?_; refine W.r ?_; refine W.q (.arrat (.t rfl) (.t rfl) Tryz.underlying147 Tryz.underlying3 (fun _ => ⟨by omega, by omega, row8_get _ d hd8⟩) ty3) rfl ?_; refine W.q (.assign (.t rfl)) rfl ?_; refine W.n ?_; refine W.h ?_; refine W.s ?_; refine W.r ?_; refine W.q (.move (.t rfl)) rfl ?_; refine W.q (.gei (.t rfl) .k) rfl ?_; refine W.q (.move (.t rfl)) rfl ?_; refine W.qgT rfl rfl (.move (.t rfl)) rfl ?_; refine W.qgT rfl rfl (.move (.t rfl)) rfl ?_; refine W.qgT rfl rfl (.ata 0 (.c rfl) rfl (.c rfl) Tryz.underlying60 ty4 (fun hg => ⟨of_decide_eq_true hg, by rw [rowB_len]; omega⟩)) rfl ?_; refine W.qgT rfl rfl (.lda1 0 (w.to (i : Int) (d : Int)).toNat 0 (.c rfl) rfl (rowB_at _ f (w.to (i : Int) (d : Int)).toNat (by omega)) (by omega) rfl rfl rfl ag4) rfl ?_; refine W.q (.and (.t rfl) ⟨_, _, rfl, rfl, by ((simp; done))⟩) rfl ?_; refine W.q (.move (.t rfl)) rfl ?_; refine W.qgT rfl rfl (.move (.t rfl)) rfl ?_; refine W.qgT rfl rfl (.move (.t rfl)) rfl ?_; refine W.qgT rfl rfl (.ata 0 (.c rfl) rfl (.c rfl) Tryz.underlying60 ty4 (fun hg => by rw [rowB_len]; omega)) rfl ?_; refine W.qgT rfl rfl (.lda1 0 i 0 (.c rfl) rfl (rowB_at _ f i hi) (by omega) rfl rfl rfl ag4) rfl ?_; refine W.qgT rfl rfl (.not (.c rfl)) rfl ?_; refine W.q (.and (.t rfl) ⟨_, _, rfl, rfl, by ((simp; done))⟩) rfl ?_; refine W.n ?_; refine W.h ?_; refine W.cond (.t rfl) (fun hc_t39 => ?_) (fun hc_t39 => ?_)
    ·obtain ⟨⟨ht1, ht2⟩, ht3⟩ : (0 ≤ w.to (i : Int) (d : Int) ∧ f (w.to (i : Int) (d : Int)).toNat = true) ∧ (!f i) = true := by simpa only [Bool.and_eq_true, decide_eq_true_eq] using hc_t39
     refine W.r (.mv rfl rfl (.mv rfl rfl ?_)); refine W.q (.ata 0 (.t rfl) rfl (.t rfl) Tryz.underlying60 ty4 (fun hg => by rw [rowB_len]; omega)) rfl ?_; refine W.sta 0 i 0 (e := AV.bool (f i)) (e' := AV.bool true) (.t rfl) .k rfl (rowB_at _ f i hi) (by omega) ty4 rfl rfl rfl rfl rfl rfl rfl ?_; refine W.q (.assign .k) rfl (.n (.bn (.h (.r (.q (.add (.t rfl) .k (fun _ => by omega)) rfl ?_)))))
     refine W.q (.move (.t rfl)) rfl ?_; refine W.n ?_; refine W.h ?_; refine W.reach (D := []) (d + 1, (fun k => if k = i then true else f k), true) ⟨rfl, rfl, rfl, rfl, rfl, rfl, rfl, rfl, rfl, trivial⟩ ?_ ⟨⟨hL.set hi hd8 (t := (w.to (i : Int) (d : Int)).toNat) (by omega) (by omega) ht2 (by simpa using ht3), hd8⟩, by show 8 - (d + 1) < 8 - d; omega⟩
     dsimp only
     rw [← rowB_set]
     exact .refl _
    ·have hns : ∀ t : Nat, w.to (i : Int) (d : Int) = (t : Int) → f t = true → f i = true := by
      intro t ht hft
      cases hfi : f i with
      | true => rfl
      | false => exact absurd hc_t39 (by rw [ht, Int.toNat_natCast, hft, hfi]; simp)
     refine W.k (.bn (.h (.r (.q (.add (.t rfl) .k (fun _ => by omega)) rfl ?_))))
     refine W.q (.move (.t rfl)) rfl ?_; refine W.n ?_; refine W.h ?_; refine W.reach (D := []) (d + 1, f, m) ⟨rfl, rfl, rfl, rfl, rfl, rfl, rfl, rfl, rfl, trivial⟩ (.refl _) ⟨⟨hL.skip hns, hd8⟩, by show 8 - (d + 1) < 8 - d; omega⟩
   ·subst hend
    refine W.s (.r (.q (.lti (.t rfl) .k) rfl (.n (.h (.s (.isb 23 false rfl (by rfl) (.condF (.t rfl) (.ex (.he (.he (.bh (.bn (.h (.r (.q (.add (.t rfl) .k (fun _ => by omega)) rfl ?_)))))))))))))))
    refine W.q (.move (.t rfl)) rfl ?_; refine W.n ?_; refine W.h ?_; refine W.reach (D := []) (i + 1, f, m) ⟨rfl, rfl, rfl, rfl, rfl, rfl, trivial⟩ (.refl _) ⟨⟨hL.row, hi⟩, by show w.next.length - (i + 1) < w.next.length - i; omega⟩
  ·subst hend
   refine W.s ?_; refine W.r ?_; refine W.q (.lti (.t rfl) (.t rfl)) rfl ?_; refine W.n ?_; refine W.h ?_; refine W.s ?_; refine W.isb 17 false rfl (by exact decide_eq_false (by omega)) ?_; refine W.condF (.t rfl) ?_; refine W.ex ?_; refine W.he ?_; refine W.he ?_; refine W.bh ?_; refine W.bn ?_; refine W.h ?_; refine W.reach (D := []) (f, m) ⟨rfl, rfl, rfl, trivial⟩ (.refl _) ⟨⟨fun _ => hL.again, fun hm => ⟨f1, hm ▸ hL⟩⟩, ?_⟩
   dsimp only
   cases m with
   | true => have := hL.less rfl; simp; omega
   | false =>
    have : outs w.next.length f = outs w.next.length f1 := outs_congr (hL.still rfl).1
    simp; omega
 ·have hm1 : m0 = false := hc_t12
  subst hm1
  obtain ⟨fz, hL⟩ := h2 rfl
  refine W.ex (.he (.he (.bh (.h (.s (.r (.mv rfl rfl (.asg rfl rfl (.n (.h ?_)))))))))); refine W.ret ?_; refine W.retn (M' := [_]) (D := _) (rs := [.tmp 2]) (avs := [_]) Tryz.results110 ⟨rfl, trivial⟩ rfl (.refl _) ?_
  exact ⟨_, _, rfl, rfl, hL.done hs⟩
end WLive
end Go.Proofs.YtphlkdbglpcikaaGreatDoor
end
