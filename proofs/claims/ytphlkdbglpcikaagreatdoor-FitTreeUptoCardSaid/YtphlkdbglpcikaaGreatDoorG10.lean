/-
  Merged: WParse2 WFault WText WParse3 WConts WMay Law8 WMakeA WMach.
-/
import Derived.Test.YtphlkdbglpcikaaGreatDoorG9
set_option linter.unusedVariables false
set_option linter.unusedSimpArgs false
set_option maxRecDepth 100000

section
namespace Go.Proofs.YtphlkdbglpcikaaGreatDoor
open Go.Vl
open Y
namespace WParse2
theorem c_item_ch (b n : Nat) (sf : List Nat) (r : List UInt8) (hn : n < 8) (hsf : ∀ k ∈ sf, k < 3) (hr : It.endI r) : FnC Tryz.prog 98 [.lit (.pointer (some ⟨b, 0, none⟩))] [.box b 94 [.str (It.tx (.ch n sf) ++ r), .bool false]] (fun x M => x = (It.ev (.ch n sf)).avx ∧ M = [.box b 94 [.str (r), .bool false]]) :=  by
 refine FnC.mk Tryz.func98 (by kernel_rfl) rfl Tryz.ntmps98 rfl (fun w0 F => ?_)
 rw [It.tx, List.cons_append]
 have hcn := It.ch_nat n hn
 generalize 97 + UInt8.ofNat n = c0 at hcn ⊢
 refine W.s ?_; refine W.r ?_; refine W.alloc ty56 rfl rfl ?_; intro b2; refine W.n ?_; refine W.h ?_; refine W.s ?_; refine W.r ?_; refine W.q (.move (.t rfl)) rfl ?_; refine W.q (.nilc (.t rfl)) rfl ?_
 refine W.q (.fab (.t rfl) fa94_0) rfl (.q (.ldb1 1 (.t rfl) rfl ag9 rfl) rfl ?_); refine W.q (.ats (b := c0) (.t rfl) .k Tryz.underlying9 (fun _ => ⟨by decide, rfl⟩)) rfl ?_; refine W.asg rfl rfl (.n (.h (.s (.r (.mv rfl rfl (.mv rfl rfl (.q (.nilc (.t rfl)) rfl (.q (.fab (.t rfl) fa94_0) rfl (.q (.ldb1 1 (.t rfl) rfl ag9 rfl) rfl ?_))))))))); refine W.q (.subs (lo := some (.const (.int .i64 1))) (hi := none) (.t rfl) Tryz.underlying9 (Ov.k (g := true) (L := [])) rfl (fun _ => by simp only [List.length_cons]; omega)) rfl ?_; refine W.is (t := 16) (av' := .str (sf.map sg ++ r)) rfl (congrArg AV.str (It.tail1 _ _)) ?_; refine W.q (.nilc (.t rfl)) rfl (.q (.fab (.t rfl) fa94_0) rfl (.stb 1 (.t rfl) (.t rfl) rfl ty9 rfl rfl rfl ?_))
 refine W.n ?_; refine W.h ?_; refine W.s ?_; refine W.r ?_; refine W.alloc ty56 rfl rfl ?_; intro b4; refine W.n ?_; refine W.h ?_; refine W.s ?_; refine W.b ?_; refine W.s ?_; refine W.r ?_; refine W.q (.move (.t rfl)) rfl ?_; refine W.q (.gei (.t rfl) .k) rfl ?_; refine W.q (.move (.t rfl)) rfl ?_; refine W.qgT rfl rfl (.move (.t rfl)) rfl ?_; refine W.qgT rfl rfl (.lei (.c rfl) .k) rfl ?_; refine W.q (.and (.t rfl) ⟨_, _, rfl, rfl, by ((simp; done))⟩) rfl ?_; refine W.q (.assign (.t rfl)) rfl ?_; refine W.n ?_; refine W.h ?_; refine W.isb 22 true rfl (by simp; omega) ?_; refine W.condT (.t rfl) ?_; refine W.r ?_; refine W.q (.move (.t rfl)) rfl ?_; refine W.q (.subw (.t rfl) .k) rfl ?_; refine W.is (t := 30) (av' := .lit (.int .u8 (n : Int))) rfl (congrArg (fun z => AV.lit (.int .u8 z)) (by rw [hcn]; simp [IntKind.wrap, IntKind.signed, IntKind.bits]; omega)) ?_
 refine W.q (.conv64 (.t rfl) ⟨_, Tryz.underlying5⟩ Tryz.underlying3 (fun _ => by omega)) rfl (.q (.build ty56 st56 rfl (fun hg => ⟨_, _, _, rfl, .k, rfl, rfl, rfl, _, _, _, rfl, (.t rfl), rfl, rfl, rfl, rfl⟩)) rfl ?_); refine W.nils (t := 32) (g := true) (cs' := [.int 1, .int (n : Int), .sl 3 []]) rfl ⟨.inl rfl, .inl rfl, .inr ⟨rfl, 3, rfl⟩, trivial⟩ ?_; refine W.stb 0 (.t rfl) (.t rfl) rfl ty56 rfl rfl rfl ?_
 refine W.n ?_; refine W.bn ?_; refine W.h ?_; refine W.s ?_; refine W.b ?_; refine W.loop (D := []) (ι := Nat) (fun k => [(0, true, .lit (.pointer (some ⟨b, 0, none⟩))), (4, true, .lit (.pointer (some ⟨b4, 0, none⟩))), (2, true, .lit (.pointer (some ⟨b2, 0, none⟩)))]) (fun k => [.box b4 56 (Ex.sfe (.mk 1 (n : Int) []) (sf.take k)).avx.cells, .box b2 56 [.int 0, .int 0, .lit (.slice none 0 0)], .box b 94 [.str ((sf.drop k).map sg ++ r), .bool false]]) (fun k => k ≤ sf.length) (fun k => sf.length - k) 0 ⟨rfl, rfl, rfl, trivial⟩ (.refl _) (Nat.zero_le _) ?_; intro k hk
 dsimp only at hk ⊢
 rcases (show k < sf.length ∨ (k = sf.length ∧ r = []) ∨ (k = sf.length ∧ ∃ c t, r = c :: t) from by
  rcases Nat.lt_or_ge k sf.length with h | h
  ·exact .inl h
  ·cases r with
   | nil => exact .inr (.inl ⟨by omega, rfl⟩)
   | cons c t => exact .inr (.inr ⟨by omega, c, t, rfl⟩)) with hlt | ⟨hend, hr0⟩ | ⟨hend, c, t, hr0⟩
 ·rw [It.sfdrop sf k hlt r]
  have hk3 := hsf _ (getD_memG 0 sf k hlt)
  have hsn := Ex.sfe_snoc (.mk 1 (n : Int) []) sf k hlt
  generalize hkk : sf.getD k 0 = kk at hk3 hsn ⊢
  refine W.s (.s (.r (.mv rfl rfl (.q (.nilc (.t rfl)) rfl (.q (.fab (.t rfl) fa94_0) rfl (.q (.ldb1 2 (.t rfl) rfl ag9 rfl) rfl (.q (.nes (.t rfl) .k) rfl (.n (.h (.isb 54 true rfl (by rfl) (.condT (.t rfl) (.k (.h (.b (.s (.r (.mv rfl rfl (.q (.nilc (.t rfl)) rfl (.q (.fab (.t rfl) fa94_0) rfl (.q (.ldb1 2 (.t rfl) rfl ag9 rfl) rfl ?_)))))))))))))))))))); refine W.q (.ats (b := sg kk) (.t rfl) .k Tryz.underlying9 (fun _ => ⟨by decide, rfl⟩)) rfl ?_; refine W.callp (WIndex.c_IndexByte [42, 43, 63] (sg kk)) ⟨.k, (.t rfl), trivial⟩ rfl ?_; refine W.asg rfl rfl (.n (.h (.s (.s (.r (.mv rfl rfl (.q (.lti (.t rfl) .k) rfl (.n (.h ?_))))))))); refine W.isb 62 false rfl (by rw [It.sg_idx kk hk3]; exact decide_eq_false (by omega)) ?_; refine W.condF (.t rfl) (.k (.h (.s (.r (.mv rfl rfl (.mv rfl rfl (.q (.nilc (.t rfl)) rfl (.q (.fab (.t rfl) fa94_0) rfl (.q (.ldb1 2 (.t rfl) rfl ag9 rfl) rfl ?_))))))))); refine W.q (.subs (lo := some (.const (.int .i64 1))) (hi := none) (.t rfl) Tryz.underlying9 (Ov.k (g := true) (L := [])) rfl (fun _ => by simp only [List.length_cons]; omega)) rfl ?_; refine W.is (t := 68) (av' := .str ((sf.drop (k + 1)).map sg ++ r)) rfl (congrArg AV.str (It.tail1 _ _)) ?_; refine W.q (.nilc (.t rfl)) rfl (.q (.fab (.t rfl) fa94_0) rfl (.stb 2 (.t rfl) (.t rfl) rfl ty9 rfl rfl rfl (.n (.h (.r (.mv rfl rfl ?_)))))); refine W.is (t := 71) (av' := .int (kk : Int)) rfl (congrArg AV.int (It.sg_idx kk hk3)) ?_; refine W.q (.add .k (.t rfl) (fun _ => by omega)) rfl (.q (.ldbn 0 (.t rfl) rfl ag56 ty56 rfl) rfl ?_); refine W.bs (es := [_]) Tryz.underlying54 ty56 ⟨rfl, (.t rfl), rfl, rfl, trivial⟩ rfl (by decide) rfl rfl ?_; refine W.q (.build ty56 st56 rfl (fun hg => ⟨_, _, _, rfl, (.t rfl), rfl, rfl, rfl, _, _, _, rfl, (.t rfl), rfl, rfl, rfl, rfl⟩)) rfl (.stb 0 (.t rfl) (.t rfl) rfl ty56 rfl rfl rfl ?_)
  refine W.n ?_; refine W.bn ?_; refine W.h ?_; refine W.reach (D := []) (k + 1) ⟨rfl, rfl, rfl, trivial⟩ (by rw [hsn, Ex.avx_one]; exact .refl _) ⟨by show k + 1 ≤ _; omega, by show _ - (k + 1) < _; omega⟩
 ·subst hr0
  rw [hend, List.drop_length, List.take_length]
  refine W.s (.s (.r (.mv rfl rfl (.q (.nilc (.t rfl)) rfl (.q (.fab (.t rfl) fa94_0) rfl (.q (.ldb1 2 (.t rfl) rfl ag9 rfl) rfl (.q (.nes (.t rfl) .k) rfl (.n (.h (.isb 54 false rfl (by rfl) (.condF (.t rfl) (.ex (.he (.he (.bh (.h (.s (.r (.q (.ldbn 0 (.t rfl) rfl ag56 ty56 rfl) rfl (.stb 1 (.t rfl) (.t rfl) rfl ty56 rfl rfl rfl (.n (.h ?_)))))))))))))))))))))); refine W.ret ?_; refine W.retn (M' := [_]) (D := _) (rs := [.cell 2 56]) (avs := [_]) Tryz.results98 ⟨⟨_, _, _, rfl, by (exact List.mem_cons_of_mem _ List.mem_cons_self), rfl, by funext w; exact ag56.run w, by funext w; exact ty56.size w⟩, trivial⟩ rfl (List.perm_middle (l₁ := [_, _])) ?_
  exact ⟨by rw [It.ev]; rfl, rfl⟩
 ·subst hr0
  rw [hend, List.drop_length, List.take_length]
  have hc3 := hr c t rfl
  refine W.s (.s (.r (.mv rfl rfl (.q (.nilc (.t rfl)) rfl (.q (.fab (.t rfl) fa94_0) rfl (.q (.ldb1 2 (.t rfl) rfl ag9 rfl) rfl (.q (.nes (.t rfl) .k) rfl (.n (.h (.isb 54 true rfl (by rfl) (.condT (.t rfl) (.k (.h (.b (.s (.r (.mv rfl rfl (.q (.nilc (.t rfl)) rfl (.q (.fab (.t rfl) fa94_0) rfl (.q (.ldb1 2 (.t rfl) rfl ag9 rfl) rfl ?_)))))))))))))))))))); refine W.q (.ats (b := c) (.t rfl) .k Tryz.underlying9 (fun _ => ⟨by decide, rfl⟩)) rfl ?_; refine W.callp (WIndex.c_IndexByte [42, 43, 63] c) ⟨.k, (.t rfl), trivial⟩ rfl ?_; refine W.asg rfl rfl (.n (.h (.s (.s (.r (.mv rfl rfl (.q (.lti (.t rfl) .k) rfl (.n (.h ?_))))))))); refine W.isb 62 true rfl (by rw [It.idx_no c hc3]; rfl) ?_; refine W.condT (.t rfl) (.ex (.he (.bm rfl (.he (.bh (.h (.s (.r (.q (.ldbn 0 (.t rfl) rfl ag56 ty56 rfl) rfl (.stb 1 (.t rfl) (.t rfl) rfl ty56 rfl rfl rfl (.n (.h ?_)))))))))))); refine W.ret ?_; refine W.retn (M' := [_]) (D := _) (rs := [.cell 2 56]) (avs := [_]) Tryz.results98 ⟨⟨_, _, _, rfl, by (exact List.mem_cons_of_mem _ List.mem_cons_self), rfl, by funext w; exact ag56.run w, by funext w; exact ty56.size w⟩, trivial⟩ rfl (List.perm_middle (l₁ := [_, _])) ?_
  exact ⟨by rw [It.ev]; rfl, rfl⟩
theorem c_item_gr (b : Nat) (s : List It) (a : List (List It)) (sf : List Nat) (r : List UInt8) (hA : ∀ r, It.endA r → FnC Tryz.prog 36 [.lit (.pointer (some ⟨b, 0, none⟩))] [.box b 94 [.str (It.stx (s) ++ (It.atl (a) ++ r)), .bool false]] (fun x M => x = (It.al (s) (a)).avx ∧ M = [.box b 94 [.str (r), .bool false]])) (hsf : ∀ k ∈ sf, k < 3) (hr : It.endI r) : FnC Tryz.prog 98 [.lit (.pointer (some ⟨b, 0, none⟩))] [.box b 94 [.str (It.tx (.gr s a sf) ++ r), .bool false]] (fun x M => x = (It.ev (.gr s a sf)).avx ∧ M = [.box b 94 [.str (r), .bool false]]) :=  by
 refine FnC.mk Tryz.func98 (by kernel_rfl) rfl Tryz.ntmps98 rfl (fun w0 F => ?_)
 rw [It.tx, show (40 :: (It.stx s ++ (It.atl a ++ 41 :: sf.map sg)) ++ r : List UInt8) = 40 :: (It.stx s ++ (It.atl a ++ (41 :: (sf.map sg ++ r)))) from by simp]
 refine W.s ?_; refine W.r ?_; refine W.alloc ty56 rfl rfl ?_; intro b2; refine W.n ?_; refine W.h ?_; refine W.s ?_; refine W.r ?_; refine W.q (.move (.t rfl)) rfl ?_; refine W.q (.nilc (.t rfl)) rfl ?_
 refine W.q (.fab (.t rfl) fa94_0) rfl (.q (.ldb1 1 (.t rfl) rfl ag9 rfl) rfl ?_); refine W.q (.ats (b := 40) (.t rfl) .k Tryz.underlying9 (fun _ => ⟨by decide, rfl⟩)) rfl ?_; refine W.asg rfl rfl (.n (.h (.s (.r (.mv rfl rfl (.mv rfl rfl (.q (.nilc (.t rfl)) rfl (.q (.fab (.t rfl) fa94_0) rfl (.q (.ldb1 1 (.t rfl) rfl ag9 rfl) rfl ?_))))))))); refine W.q (.subs (lo := some (.const (.int .i64 1))) (hi := none) (.t rfl) Tryz.underlying9 (Ov.k (g := true) (L := [])) rfl (fun _ => by simp only [List.length_cons]; omega)) rfl ?_; refine W.is (t := 16) (av' := .str (It.stx s ++ (It.atl a ++ (41 :: (sf.map sg ++ r))))) rfl (congrArg AV.str (It.tail1 _ _)) ?_; refine W.q (.nilc (.t rfl)) rfl (.q (.fab (.t rfl) fa94_0) rfl (.stb 1 (.t rfl) (.t rfl) rfl ty9 rfl rfl rfl ?_))
 refine W.n ?_; refine W.h ?_; refine W.s ?_; refine W.r ?_; refine W.alloc ty56 rfl rfl ?_; intro b4; refine W.n ?_; refine W.h ?_; refine W.s ?_; refine W.b ?_; refine W.s ?_; refine W.r ?_; refine W.q (.move (.t rfl)) rfl ?_; refine W.q (.gei (.t rfl) .k) rfl ?_; refine W.q (.move (.t rfl)) rfl ?_; refine W.qgT rfl rfl (.move (.t rfl)) rfl ?_; refine W.qgT rfl rfl (.lei (.c rfl) .k) rfl ?_; refine W.q (.and (.t rfl) ⟨_, _, rfl, rfl, by ((simp; done))⟩) rfl ?_; refine W.q (.assign (.t rfl)) rfl ?_; refine W.n ?_; refine W.h ?_; refine W.isb 22 false rfl (by rfl) ?_; refine W.condF (.t rfl) ?_; refine W.s ?_; refine W.r ?_; refine W.q (.move (.t rfl)) rfl ?_; refine W.q (.eqi (.t rfl) .k) rfl ?_; refine W.q (.assign (.t rfl)) rfl ?_; refine W.n ?_; refine W.h ?_; refine W.isb 33 true rfl (by rfl) ?_; refine W.condT (.t rfl) ?_; refine W.s ?_; refine W.r ?_; refine W.q (.move (.t rfl)) rfl ?_; refine W.call (hA _ (It.endA_close (sf.map sg ++ r))) ⟨(.t rfl), trivial⟩ ((List.perm_middle (l₁ := [_, _]))) rfl ?_
 rintro _ _ ⟨rfl, rfl⟩
 refine W.stb 1 (.t rfl) (.t rfl) rfl ty56 rfl rfl rfl (.n (.h (.r (.mv rfl rfl (.mv rfl rfl (.q (.nilc (.t rfl)) rfl (.q (.fab (.t rfl) fa94_1) rfl (.q (.ldb1 0 (.t rfl) rfl ag4 rfl) rfl (.mv rfl rfl (.gyes rfl rfl (.mv rfl rfl (.gyes rfl rfl ?_)))))))))))); refine W.call (WParse1.c_takesT b 41 (sf.map sg ++ r)) ⟨(.t rfl), .k, trivial⟩ (.refl _) rfl ?_
 rintro _ _ ⟨rfl, rfl⟩
 refine W.gyes rfl rfl (.q (.not (.t rfl)) rfl ?_); refine W.q (.or (.t rfl) ⟨_, _, rfl, rfl, by ((simp; done))⟩) rfl ?_; refine W.q (.nilc (.t rfl)) rfl (.q (.fab (.t rfl) fa94_1) rfl (.stb 0 (.t rfl) (.t rfl) rfl ty4 rfl rfl rfl ?_))
 refine W.n ?_; refine W.bn ?_; refine W.h ?_; refine W.s ?_; refine W.b ?_; refine W.loop (D := []) (ι := Nat) (fun k => [(0, true, .lit (.pointer (some ⟨b, 0, none⟩))), (4, true, .lit (.pointer (some ⟨b4, 0, none⟩))), (2, true, .lit (.pointer (some ⟨b2, 0, none⟩)))]) (fun k => [.box b4 56 (Ex.sfe (It.al s a) (sf.take k)).avx.cells, .box b2 56 [.int 0, .int 0, .lit (.slice none 0 0)], .box b 94 [.str ((sf.drop k).map sg ++ r), .bool false]]) (fun k => k ≤ sf.length) (fun k => sf.length - k) 0 ⟨rfl, rfl, rfl, trivial⟩ ((List.perm_append_comm (l₁ := [_]))) (Nat.zero_le _) ?_; intro k hk
 dsimp only at hk ⊢
 rcases (show k < sf.length ∨ (k = sf.length ∧ r = []) ∨ (k = sf.length ∧ ∃ c t, r = c :: t) from by
  rcases Nat.lt_or_ge k sf.length with h | h
  ·exact .inl h
  ·cases r with
   | nil => exact .inr (.inl ⟨by omega, rfl⟩)
   | cons c t => exact .inr (.inr ⟨by omega, c, t, rfl⟩)) with hlt | ⟨hend, hr0⟩ | ⟨hend, c, t, hr0⟩
 ·rw [It.sfdrop sf k hlt r]
  have hk3 := hsf _ (getD_memG 0 sf k hlt)
  have hsn := Ex.sfe_snoc (It.al s a) sf k hlt
  generalize hkk : sf.getD k 0 = kk at hk3 hsn ⊢
  refine W.s (.s (.r (.mv rfl rfl (.q (.nilc (.t rfl)) rfl (.q (.fab (.t rfl) fa94_0) rfl (.q (.ldb1 2 (.t rfl) rfl ag9 rfl) rfl (.q (.nes (.t rfl) .k) rfl (.n (.h (.isb 54 true rfl (by rfl) (.condT (.t rfl) (.k (.h (.b (.s (.r (.mv rfl rfl (.q (.nilc (.t rfl)) rfl (.q (.fab (.t rfl) fa94_0) rfl (.q (.ldb1 2 (.t rfl) rfl ag9 rfl) rfl ?_)))))))))))))))))))); refine W.q (.ats (b := sg kk) (.t rfl) .k Tryz.underlying9 (fun _ => ⟨by decide, rfl⟩)) rfl ?_; refine W.callp (WIndex.c_IndexByte [42, 43, 63] (sg kk)) ⟨.k, (.t rfl), trivial⟩ rfl ?_; refine W.asg rfl rfl (.n (.h (.s (.s (.r (.mv rfl rfl (.q (.lti (.t rfl) .k) rfl (.n (.h ?_))))))))); refine W.isb 62 false rfl (by rw [It.sg_idx kk hk3]; exact decide_eq_false (by omega)) ?_; refine W.condF (.t rfl) (.k (.h (.s (.r (.mv rfl rfl (.mv rfl rfl (.q (.nilc (.t rfl)) rfl (.q (.fab (.t rfl) fa94_0) rfl (.q (.ldb1 2 (.t rfl) rfl ag9 rfl) rfl ?_))))))))); refine W.q (.subs (lo := some (.const (.int .i64 1))) (hi := none) (.t rfl) Tryz.underlying9 (Ov.k (g := true) (L := [])) rfl (fun _ => by simp only [List.length_cons]; omega)) rfl ?_; refine W.is (t := 68) (av' := .str ((sf.drop (k + 1)).map sg ++ r)) rfl (congrArg AV.str (It.tail1 _ _)) ?_; refine W.q (.nilc (.t rfl)) rfl (.q (.fab (.t rfl) fa94_0) rfl (.stb 2 (.t rfl) (.t rfl) rfl ty9 rfl rfl rfl (.n (.h (.r (.mv rfl rfl ?_)))))); refine W.is (t := 71) (av' := .int (kk : Int)) rfl (congrArg AV.int (It.sg_idx kk hk3)) ?_; refine W.q (.add .k (.t rfl) (fun _ => by omega)) rfl (.q (.ldbn 0 (.t rfl) rfl ag56 ty56 rfl) rfl ?_); refine W.bs (es := [_]) Tryz.underlying54 ty56 ⟨rfl, (.t rfl), rfl, rfl, trivial⟩ rfl (by decide) rfl rfl ?_; refine W.q (.build ty56 st56 rfl (fun hg => ⟨_, _, _, rfl, (.t rfl), rfl, rfl, rfl, _, _, _, rfl, (.t rfl), rfl, rfl, rfl, rfl⟩)) rfl (.stb 0 (.t rfl) (.t rfl) rfl ty56 rfl rfl rfl ?_)
  refine W.n ?_; refine W.bn ?_; refine W.h ?_; refine W.reach (D := []) (k + 1) ⟨rfl, rfl, rfl, trivial⟩ (by rw [hsn, Ex.avx_one]; exact .refl _) ⟨by show k + 1 ≤ _; omega, by show _ - (k + 1) < _; omega⟩
 ·subst hr0
  rw [hend, List.drop_length, List.take_length]
  refine W.s (.s (.r (.mv rfl rfl (.q (.nilc (.t rfl)) rfl (.q (.fab (.t rfl) fa94_0) rfl (.q (.ldb1 2 (.t rfl) rfl ag9 rfl) rfl (.q (.nes (.t rfl) .k) rfl (.n (.h (.isb 54 false rfl (by rfl) (.condF (.t rfl) (.ex (.he (.he (.bh (.h (.s (.r (.q (.ldbn 0 (.t rfl) rfl ag56 ty56 rfl) rfl (.stb 1 (.t rfl) (.t rfl) rfl ty56 rfl rfl rfl (.n (.h ?_)))))))))))))))))))))); refine W.ret ?_; refine W.retn (M' := [_]) (D := _) (rs := [.cell 2 56]) (avs := [_]) Tryz.results98 ⟨⟨_, _, _, rfl, by (exact List.mem_cons_of_mem _ List.mem_cons_self), rfl, by funext w; exact ag56.run w, by funext w; exact ty56.size w⟩, trivial⟩ rfl (List.perm_middle (l₁ := [_, _])) ?_
  exact ⟨by rw [It.ev]; rfl, rfl⟩
 ·subst hr0
  rw [hend, List.drop_length, List.take_length]
  have hc3 := hr c t rfl
  refine W.s (.s (.r (.mv rfl rfl (.q (.nilc (.t rfl)) rfl (.q (.fab (.t rfl) fa94_0) rfl (.q (.ldb1 2 (.t rfl) rfl ag9 rfl) rfl (.q (.nes (.t rfl) .k) rfl (.n (.h (.isb 54 true rfl (by rfl) (.condT (.t rfl) (.k (.h (.b (.s (.r (.mv rfl rfl (.q (.nilc (.t rfl)) rfl (.q (.fab (.t rfl) fa94_0) rfl (.q (.ldb1 2 (.t rfl) rfl ag9 rfl) rfl ?_)))))))))))))))))))); refine W.q (.ats (b := c) (.t rfl) .k Tryz.underlying9 (fun _ => ⟨by decide, rfl⟩)) rfl ?_; refine W.callp (WIndex.c_IndexByte [42, 43, 63] c) ⟨.k, (.t rfl), trivial⟩ rfl ?_; refine W.asg rfl rfl (.n (.h (.s (.s (.r (.mv rfl rfl (.q (.lti (.t rfl) .k) rfl (.n (.h ?_))))))))); refine W.isb 62 true rfl (by rw [It.idx_no c hc3]; rfl) ?_; refine W.condT (.t rfl) (.ex (.he (.bm rfl (.he (.bh (.h (.s (.r (.q (.ldbn 0 (.t rfl) rfl ag56 ty56 rfl) rfl (.stb 1 (.t rfl) (.t rfl) rfl ty56 rfl rfl rfl (.n (.h ?_)))))))))))); refine W.ret ?_; refine W.retn (M' := [_]) (D := _) (rs := [.cell 2 56]) (avs := [_]) Tryz.results98 ⟨⟨_, _, _, rfl, by (exact List.mem_cons_of_mem _ List.mem_cons_self), rfl, by funext w; exact ag56.run w, by funext w; exact ty56.size w⟩, trivial⟩ rfl (List.perm_middle (l₁ := [_, _])) ?_
  exact ⟨by rw [It.ev]; rfl, rfl⟩
theorem c_seq (b : Nat) (s : List It) (r : List UInt8) (hs : It.oks s) (hz : Ex.szs (It.sev s) ≤ 16777216) (hI : ∀ i ∈ s, ∀ r, It.endI r → FnC Tryz.prog 98 [.lit (.pointer (some ⟨b, 0, none⟩))] [.box b 94 [.str (It.tx (i) ++ r), .bool false]] (fun x M => x = (It.ev (i)).avx ∧ M = [.box b 94 [.str (r), .bool false]])) (hr : It.endS r) : FnC Tryz.prog 64 [.lit (.pointer (some ⟨b, 0, none⟩))] [.box b 94 [.str (It.stx (s) ++ r), .bool false]] (fun x M => x = (It.sq (s)).avx ∧ M = [.box b 94 [.str (r), .bool false]]) :=  by
 refine FnC.mk Tryz.func64 (by kernel_rfl) rfl Tryz.ntmps64 rfl (fun w0 F => ?_)
 have hsm : (It.sev s).length = s.length := by rw [It.sev_map, List.length_map]
 have hsz := Ex.szs_len (It.sev s)
 refine W.s ?_; refine W.r ?_; refine W.alloc ty56 rfl rfl ?_; intro b2; refine W.n ?_; refine W.h ?_; refine W.s ?_; refine W.r ?_; refine W.q (.assign .k) rfl ?_; refine W.n ?_; refine W.h ?_; refine W.s ?_; refine W.b ?_; refine W.own_nil 56 3 ?_; refine W.loop (D := []) (ι := Nat × Value) (fun z => [(0, true, .lit (.pointer (some ⟨b, 0, none⟩))), (2, true, .lit (.pointer (some ⟨b2, 0, none⟩))), (3, true, .lit z.2)]) (fun z => [.box b 94 [.str (It.stx (s.drop z.1) ++ r), .bool false], .arr z.2 56 3 (((It.sev s).take z.1).map Ex.av), .box b2 56 [.int 0, .int 0, .lit (.slice none 0 0)]]) (fun z => z.1 ≤ s.length) (fun z => s.length - z.1) (0, .slice none 0 0) ⟨rfl, rfl, rfl, trivial⟩ (List.perm_middle (l₁ := [_, _])) (Nat.zero_le _) ?_
 rintro ⟨k, v⟩ hk
 dsimp only at hk ⊢
 rcases (show k < s.length ∨ (k = s.length ∧ r = []) ∨ (k = s.length ∧ ∃ c t, r = c :: t) from by
  rcases Nat.lt_or_ge k s.length with h | h
  ·exact .inl h
  ·cases r with
   | nil => exact .inr (.inl ⟨by omega, rfl⟩)
   | cons c t => exact .inr (.inr ⟨by omega, c, t, rfl⟩)) with hlt | ⟨hend, hr0⟩ | ⟨hend, c, t, hr0⟩
 ·have him := getD_memG (It.ch 0 []) s k hlt
  have hok := (It.oks_iff s).1 hs
  have hdr := It.drop_cons s k hlt
  have hsn : (It.sev s).take (k + 1) = (It.sev s).take k ++ [(s.getD k (It.ch 0 [])).ev] := by rw [It.sev_map, ← List.map_take, take_getDG (It.ch 0 []) s k hlt, List.map_append, ← List.map_take]; rfl
  have hei : It.endI (It.stx (s.drop (k + 1)) ++ r) := It.endI_stx _ ((It.oks_iff _).2 fun j hj => hok j (List.mem_of_mem_drop hj)) hr
  generalize s.getD k (It.ch 0 []) = i at him hdr hsn
  have cI := hI i him _ hei
  obtain ⟨c0, t0, ht0, hc0⟩ := It.tx_head i (hok i him)
  rw [hdr, List.append_assoc]
  rw [ht0, List.cons_append] at cI ⊢
  have hcn : c0 ≠ 124 ∧ c0 ≠ 41 := by rcases hc0 with h | rfl; constructor <;> (rintro rfl; simp at h); decide
  have h124 := It.u8ne (n := 124) (by decide) hcn.1
  have h41 := It.u8ne (n := 41) (by decide) hcn.2
  refine W.s (.s (.r (.mv rfl rfl (.q (.nilc (.t rfl)) rfl (.q (.fab (.t rfl) fa94_1) rfl (.q (.ldb1 0 (.t rfl) rfl ag4 rfl) rfl (.q (.not (.t rfl)) rfl (.mv rfl rfl (.qgT rfl rfl (.move (.t rfl)) rfl (.qgT rfl rfl (.nilc (.c rfl)) rfl (.qgT rfl rfl (.fab (.c rfl) fa94_0) rfl (.qgT rfl rfl (.ldb1 0 (.c rfl) rfl ag9 rfl) rfl (.qgT rfl rfl (.nes (.c rfl) .k) rfl ?_))))))))))))); refine W.q (.and (.t rfl) ⟨_, _, rfl, rfl, by ((simp; done))⟩) rfl ?_; refine W.mv rfl rfl (.qgT rfl rfl (.move (.t rfl)) rfl (.qgT rfl rfl (.nilc (.c rfl)) rfl (.qgT rfl rfl (.fab (.c rfl) fa94_0) rfl (.qgT rfl rfl (.ldb1 0 (.c rfl) rfl ag9 rfl) rfl ?_)))); refine W.qgT rfl rfl (.ats (b := c0) (.c rfl) .k Tryz.underlying9 (fun _ => ⟨by decide, rfl⟩)) rfl ?_; refine W.qgT rfl rfl (.nei (.c rfl) .k) rfl ?_; refine W.q (.and (.t rfl) ⟨_, _, rfl, rfl, by ((simp; done))⟩) rfl ?_; refine W.mv rfl rfl (.qgT rfl rfl (.move (.t rfl)) rfl (.qgT rfl rfl (.nilc (.c rfl)) rfl (.qgT rfl rfl (.fab (.c rfl) fa94_0) rfl (.qgT rfl rfl (.ldb1 0 (.c rfl) rfl ag9 rfl) rfl ?_)))); refine W.qgT rfl rfl (.ats (b := c0) (.c rfl) .k Tryz.underlying9 (fun _ => ⟨by decide, rfl⟩)) rfl ?_; refine W.qgT rfl rfl (.nei (.c rfl) .k) rfl ?_; refine W.q (.and (.t rfl) ⟨_, _, rfl, rfl, by ((simp; done))⟩) rfl ?_; refine W.n (.h ?_); refine W.isb 31 true rfl (by simp; omega) ?_; refine W.condT (.t rfl) (.k (.h (.b (.r (.mv rfl rfl (.mv rfl rfl ?_)))))); refine W.call (cI) ⟨(.t rfl), trivial⟩ (.refl _) rfl ?_
  rintro _ _ ⟨rfl, rfl⟩
  refine W.bs (es := [_]) Tryz.underlying54 ty56 ⟨rfl, (.t rfl), rfl, rfl, trivial⟩ rfl (by decide) rfl rfl ?_; refine W.app 1 (.t rfl) rfl (.sl (.t rfl) (by simp [AV.okc, shV])) Tryz.underlying54 ni54 ty56 rfl rfl (by rw [List.length_map, List.length_take]; simp only [List.length_cons, List.length_nil]; omega) rfl ?_
  intro v36; refine W.q (.assign (.t rfl)) rfl ?_; refine W.n ?_; refine W.bn ?_; refine W.h ?_; refine W.reach (D := []) (k + 1, v36) ⟨rfl, rfl, rfl, trivial⟩ (by rw [hsn, Ex.map_snoc]; exact .refl _) ⟨by show k + 1 ≤ _; omega, by show _ - (k + 1) < _; omega⟩
 ·subst hr0
  rw [hend, List.drop_length, show (It.stx [] ++ [] : List UInt8) = [] from rfl, List.take_of_length_le (show (It.sev s).length ≤ s.length from by omega)]
  refine W.s (.s (.r (.mv rfl rfl (.q (.nilc (.t rfl)) rfl (.q (.fab (.t rfl) fa94_1) rfl (.q (.ldb1 0 (.t rfl) rfl ag4 rfl) rfl (.q (.not (.t rfl)) rfl (.mv rfl rfl (.qgT rfl rfl (.move (.t rfl)) rfl (.qgT rfl rfl (.nilc (.c rfl)) rfl (.qgT rfl rfl (.fab (.c rfl) fa94_0) rfl (.qgT rfl rfl (.ldb1 0 (.c rfl) rfl ag9 rfl) rfl (.qgT rfl rfl (.nes (.c rfl) .k) rfl ?_))))))))))))); refine W.q (.and (.t rfl) ⟨_, _, rfl, rfl, by ((simp; done))⟩) rfl ?_; refine W.mv rfl rfl ?_; refine W.is (t := 16) (av' := .bool false) rfl rfl ?_; refine W.gnob rfl rfl (by simp) rfl ?_; refine W.gnob rfl rfl (by simp) rfl ?_; refine W.gnob rfl rfl (by simp) rfl ?_; refine W.gnob rfl rfl (by simp) rfl ?_; refine W.gnob rfl rfl (by simp) rfl ?_; refine W.gnob rfl rfl (by simp) rfl ?_; refine W.q (.and (.t rfl) ⟨_, _, rfl, rfl, by ((simp; done))⟩) rfl ?_; refine W.mv rfl rfl ?_; refine W.is (t := 24) (av' := .bool false) rfl rfl ?_; refine W.gnob rfl rfl (by simp) rfl ?_; refine W.gnob rfl rfl (by simp) rfl ?_; refine W.gnob rfl rfl (by simp) rfl ?_; refine W.gnob rfl rfl (by simp) rfl ?_; refine W.gnob rfl rfl (by simp) rfl ?_; refine W.gnob rfl rfl (by simp) rfl ?_; refine W.q (.and (.t rfl) ⟨_, _, rfl, rfl, by ((simp; done))⟩) rfl ?_; refine W.n (.h (.isb 31 false rfl (by rfl) (.condF (.t rfl) (.ex (.he (.he (.bh (.h (.s (.r (.mv rfl rfl ?_))))))))))); refine W.freezeA (M1 := [_, _]) (M2 := [_, _]) (D := []) (v := v) (L' := [(37, true, .sl 3 ((It.sev s).map Ex.av))]) (List.perm_middle (l₁ := [_])) ⟨⟨_, rfl, .one .hit⟩, trivial⟩ (FrzMs.refl _) ?_; refine W.callp (WParse1.c_together 2 (It.sev s) hz) ⟨.k, (.t rfl), trivial⟩ rfl ?_; refine W.stb 1 (.t rfl) (.t rfl) rfl ty56 rfl rfl rfl (.n (.h ?_)); refine W.ret ?_; refine W.retn (M' := [_]) (D := _) (rs := [.cell 2 56]) (avs := [_]) Tryz.results64 ⟨⟨_, _, _, rfl, by (exact List.mem_cons_of_mem _ List.mem_cons_self), rfl, by funext w; exact ag56.run w, by funext w; exact ty56.size w⟩, trivial⟩ rfl (.refl _) ?_
  exact ⟨rfl, rfl⟩
 ·subst hr0
  rw [hend, List.drop_length, show (It.stx [] ++ c :: t : List UInt8) = c :: t from rfl, List.take_of_length_le (show (It.sev s).length ≤ s.length from by omega)]
  have hcc : ((c.toNat : Nat) : Int) = 124 ∨ ((c.toNat : Nat) : Int) = 41 := by
   rcases hr with h | ⟨t2, h | h⟩
   ·cases h
   ·rw [(List.cons.inj h).1]; exact .inr rfl
   ·rw [(List.cons.inj h).1]; exact .inl rfl
  refine W.s (.s (.r (.mv rfl rfl (.q (.nilc (.t rfl)) rfl (.q (.fab (.t rfl) fa94_1) rfl (.q (.ldb1 0 (.t rfl) rfl ag4 rfl) rfl (.q (.not (.t rfl)) rfl (.mv rfl rfl (.qgT rfl rfl (.move (.t rfl)) rfl (.qgT rfl rfl (.nilc (.c rfl)) rfl (.qgT rfl rfl (.fab (.c rfl) fa94_0) rfl (.qgT rfl rfl (.ldb1 0 (.c rfl) rfl ag9 rfl) rfl (.qgT rfl rfl (.nes (.c rfl) .k) rfl ?_))))))))))))); refine W.q (.and (.t rfl) ⟨_, _, rfl, rfl, by ((simp; done))⟩) rfl ?_; refine W.mv rfl rfl (.qgT rfl rfl (.move (.t rfl)) rfl (.qgT rfl rfl (.nilc (.c rfl)) rfl (.qgT rfl rfl (.fab (.c rfl) fa94_0) rfl (.qgT rfl rfl (.ldb1 0 (.c rfl) rfl ag9 rfl) rfl ?_)))); refine W.qgT rfl rfl (.ats (b := c) (.c rfl) .k Tryz.underlying9 (fun _ => ⟨by decide, rfl⟩)) rfl ?_; refine W.qgT rfl rfl (.nei (.c rfl) .k) rfl ?_; refine W.q (.and (.t rfl) ⟨_, _, rfl, rfl, by ((simp; done))⟩) rfl ?_; refine W.mv rfl rfl (.qgT rfl rfl (.move (.t rfl)) rfl (.qgT rfl rfl (.nilc (.c rfl)) rfl (.qgT rfl rfl (.fab (.c rfl) fa94_0) rfl (.qgT rfl rfl (.ldb1 0 (.c rfl) rfl ag9 rfl) rfl ?_))))
  refine W.qgT rfl rfl (.ats (b := c) (.c rfl) .k Tryz.underlying9 (fun _ => ⟨by decide, rfl⟩)) rfl ?_; refine W.qgT rfl rfl (.nei (.c rfl) .k) rfl ?_; refine W.q (.and (.t rfl) ⟨_, _, rfl, rfl, by ((simp; done))⟩) rfl ?_; refine W.n ?_; refine W.h ?_; refine W.isb 31 false rfl (by rcases hcc with h | h <;> rw [h] <;> simp) ?_; refine W.condF (.t rfl) ?_; refine W.ex ?_; refine W.he ?_; refine W.he ?_; refine W.bh ?_; refine W.h ?_; refine W.s ?_; refine W.r ?_; refine W.q (.move (.t rfl)) rfl ?_; refine W.freezeA (M1 := [_, _]) (M2 := [_, _]) (D := []) (v := v) (L' := [(37, true, .sl 3 ((It.sev s).map Ex.av))]) (List.perm_middle (l₁ := [_])) ⟨⟨_, rfl, .one .hit⟩, trivial⟩ (FrzMs.refl _) ?_; refine W.callp (WParse1.c_together 2 (It.sev s) hz) ⟨.k, (.t rfl), trivial⟩ rfl ?_
  refine W.stb 1 (.t rfl) (.t rfl) rfl ty56 rfl rfl rfl (.n (.h ?_)); refine W.ret ?_; refine W.retn (M' := [_]) (D := _) (rs := [.cell 2 56]) (avs := [_]) Tryz.results64 ⟨⟨_, _, _, rfl, by (exact List.mem_cons_of_mem _ List.mem_cons_self), rfl, by funext w; exact ag56.run w, by funext w; exact ty56.size w⟩, trivial⟩ rfl (.refl _) ?_
  exact ⟨rfl, rfl⟩
theorem c_alt (b : Nat) (s : List It) (a : List (List It)) (r : List UInt8) (hz : Ex.szs (It.sq s :: It.aev a) ≤ 16777216) (hS : ∀ t, (t = s ∨ t ∈ a) → ∀ r, It.endS r → FnC Tryz.prog 64 [.lit (.pointer (some ⟨b, 0, none⟩))] [.box b 94 [.str (It.stx (t) ++ r), .bool false]] (fun x M => x = (It.sq (t)).avx ∧ M = [.box b 94 [.str (r), .bool false]])) (hr : It.endA r) : FnC Tryz.prog 36 [.lit (.pointer (some ⟨b, 0, none⟩))] [.box b 94 [.str (It.stx (s) ++ (It.atl (a) ++ r)), .bool false]] (fun x M => x = (It.al (s) (a)).avx ∧ M = [.box b 94 [.str (r), .bool false]]) :=  by
 refine FnC.mk Tryz.func36 (by kernel_rfl) rfl Tryz.ntmps36 rfl (fun w0 F => ?_)
 have ham : (It.aev a).length = a.length := by rw [It.aev_map, List.length_map]
 have hsz := Ex.szs_len (It.sq s :: It.aev a)
 rw [List.length_cons] at hsz
 refine W.s ?_; refine W.r ?_; refine W.alloc ty56 rfl rfl ?_; intro b2; refine W.n ?_; refine W.h ?_; refine W.s ?_; refine W.r ?_; refine W.q (.move (.t rfl)) rfl ?_; refine W.call (hS s (.inl rfl) _ (It.endS_atl a hr)) ⟨(.t rfl), trivial⟩ ((List.Perm.swap _ _ [])) rfl ?_
 rintro _ _ ⟨rfl, rfl⟩
 refine W.bso (es := [_]) Tryz.underlying54 ty56 ⟨rfl, (.t rfl), rfl, rfl, trivial⟩ rfl (by decide) rfl rfl ?_; intro v6; refine W.q (.assign (.t rfl)) rfl ?_; refine W.n ?_; refine W.h ?_; refine W.s ?_; refine W.b ?_; refine W.loop (D := []) (ι := Nat × Value) (fun z => [(0, true, .lit (.pointer (some ⟨b, 0, none⟩))), (2, true, .lit (.pointer (some ⟨b2, 0, none⟩))), (3, true, .lit z.2)]) (fun z => [.box b 94 [.str (It.atl (a.drop z.1) ++ r), .bool false], .arr z.2 56 3 (([It.sq s] ++ (It.aev a).take z.1).map Ex.av), .box b2 56 [.int 0, .int 0, .lit (.slice none 0 0)]]) (fun z => z.1 ≤ a.length) (fun z => a.length - z.1) (0, v6) ⟨rfl, rfl, rfl, trivial⟩ (by have e : ([It.sq s] ++ (It.aev a).take 0).map Ex.av = [(It.sq s).avx] := (by rw [List.take_zero]; show [(It.sq s).av] = _; rw [Ex.av_eq]); dsimp only; rw [e]; exact List.Perm.swap _ _ _) (Nat.zero_le _) ?_
 rintro ⟨k, v⟩ hk
 dsimp only at hk ⊢
 rcases (show k < a.length ∨ k = a.length from by omega) with hlt | hend
 ·have htm := getD_memG [] a k hlt
  have hdr := It.atl_drop a k hlt
  have hsn : (It.aev a).take (k + 1) = (It.aev a).take k ++ [It.sq (a.getD k [])] := by rw [It.aev_map, ← List.map_take, take_getDG [] a k hlt, List.map_append, ← List.map_take]; rfl
  generalize a.getD k [] = u at htm hdr hsn
  rw [hdr, List.cons_append, List.append_assoc]
  refine W.s (.s (.r (.mv rfl rfl ?_))); refine W.call (WParse1.c_takesT b 124 _) ⟨(.t rfl), .k, trivial⟩ (.refl _) rfl ?_
  rintro _ _ ⟨rfl, rfl⟩
  refine W.n (.h (.isb 8 true rfl (by rfl) (.condT (.t rfl) (.k (.h (.b (.r (.mv rfl rfl (.mv rfl rfl ?_))))))))); refine W.call (hS u (.inr htm) _ (It.endS_atl _ hr)) ⟨(.t rfl), trivial⟩ (.refl _) rfl ?_
  rintro _ _ ⟨rfl, rfl⟩
  refine W.bs (es := [_]) Tryz.underlying54 ty56 ⟨rfl, (.t rfl), rfl, rfl, trivial⟩ rfl (by decide) rfl rfl ?_; refine W.app 1 (.t rfl) rfl (.sl (.t rfl) (by simp [AV.okc, shV])) Tryz.underlying54 ni54 ty56 rfl rfl (by rw [List.length_map, List.length_append, List.length_take]; simp only [List.length_cons, List.length_nil]; omega) rfl ?_
  intro v13; refine W.q (.assign (.t rfl)) rfl ?_; refine W.n ?_; refine W.bn ?_; refine W.h ?_; refine W.reach (D := []) (k + 1, v13) ⟨rfl, rfl, rfl, trivial⟩ (by rw [hsn, ← List.append_assoc, Ex.map_snoc]; exact .refl _) ⟨by show k + 1 ≤ _; omega, by show _ - (k + 1) < _; omega⟩
 ·rw [hend, List.drop_length, show (It.atl [] ++ r : List UInt8) = r from rfl, List.take_of_length_le (show (It.aev a).length ≤ a.length from by omega), show [It.sq s] ++ It.aev a = It.sq s :: It.aev a from rfl]
  refine W.s ?_; refine W.s ?_; refine W.r ?_; refine W.q (.move (.t rfl)) rfl ?_; refine W.call (WParse1.c_takesF b 124 r (fun t e => by rcases hr with h | ⟨t2, h⟩ <;> (rw [h] at e; cases e))) ⟨(.t rfl), .k, trivial⟩ (.refl _) rfl ?_
  rintro _ _ ⟨rfl, rfl⟩
  refine W.n (.h (.isb 8 false rfl (by rfl) (.condF (.t rfl) (.ex (.he (.he (.bh (.h (.s (.r (.mv rfl rfl ?_))))))))))); refine W.freezeA (M1 := [_, _]) (M2 := [_, _]) (D := []) (v := v) (L' := [(14, true, .sl 3 ((It.sq s :: It.aev a).map Ex.av))]) (List.perm_middle (l₁ := [_])) ⟨⟨_, rfl, .one .hit⟩, trivial⟩ (FrzMs.refl _) ?_; refine W.callp (WParse1.c_together 3 (It.sq s :: It.aev a) hz) ⟨.k, (.t rfl), trivial⟩ rfl ?_; refine W.stb 1 (.t rfl) (.t rfl) rfl ty56 rfl rfl rfl (.n (.h ?_)); refine W.ret ?_; refine W.retn (M' := [.box b 94 [.str (r), .bool false]]) (D := _) (rs := [.cell 2 56]) (avs := [_]) Tryz.results36 ⟨⟨_, _, _, rfl, by (exact List.mem_cons_of_mem _ List.mem_cons_self), rfl, by funext w; exact ag56.run w, by funext w; exact ty56.size w⟩, trivial⟩ rfl (.refl _) ?_
  exact ⟨rfl, rfl⟩
theorem c_item (b : Nat) : ∀ i : It, It.ok i → (It.tx i).length ≤ 1048576 → ∀ r, It.endI r → FnC Tryz.prog 98 [.lit (.pointer (some ⟨b, 0, none⟩))] [.box b 94 [.str (It.tx (i) ++ r), .bool false]] (fun x M => x = (It.ev (i)).avx ∧ M = [.box b 94 [.str (r), .bool false]]) := by
 suffices H : ∀ n, ∀ i : It, It.sz i ≤ n → It.ok i → (It.tx i).length ≤ 1048576 → ∀ r, It.endI r → FnC Tryz.prog 98 [.lit (.pointer (some ⟨b, 0, none⟩))] [.box b 94 [.str (It.tx (i) ++ r), .bool false]] (fun x M => x = (It.ev (i)).avx ∧ M = [.box b 94 [.str (r), .bool false]]) from fun i => H _ i (Nat.le_refl _)
 intro n
 induction n with
 | zero => intro i hi; cases i <;> simp only [It.sz] at hi <;> omega
 | succ n ih =>
  intro i hi hok hz r hr
  cases i with
  | ch m sf => simp only [It.ok] at hok; exact c_item_ch b m sf r hok.1 hok.2 hr
  | gr s a sf =>
   simp only [It.sz] at hi
   simp only [It.ok] at hok
   have hal := It.al_big s a
   have hle : (It.stx s ++ It.atl a).length ≤ 1048576 := by rw [It.tx] at hz; simp only [List.length_cons, List.length_append] at hz ⊢; omega
   refine c_item_gr b s a sf r (fun r hr => c_alt b s a r (by omega) (fun t ht r hr => ?_) hr) hok.2 hr
   have hto : It.oks t := ht.elim (fun e => e ▸ hok.1.1) fun hm => (It.oka_iff a).1 hok.1.2 t hm
   have htz : It.szs t ≤ n := ht.elim (fun e => by subst e; omega) fun hm => by have := It.szs_mem hm; omega
   have htl := It.al_mem ht
   have hts := It.sev_big t
   exact c_seq b t r hto (by omega) (fun i hi' r hr => ih i (by have := It.sz_mem hi'; omega) ((It.oks_iff t).1 hto i hi') (by have := It.stx_mem hi'; omega) r hr) hr
theorem c_top (b : Nat) (s : List It) (a : List (List It)) (hs : It.oks s) (ha : It.oka a) (hz : (It.stx s ++ It.atl a).length ≤ 1048576) : FnC Tryz.prog 36 [.lit (.pointer (some ⟨b, 0, none⟩))] [.box b 94 [.str (It.stx (s) ++ (It.atl (a) ++ [])), .bool false]] (fun x M => x = (It.al (s) (a)).avx ∧ M = [.box b 94 [.str ([]), .bool false]]) := by
 have hal := It.al_big s a
 refine c_alt b s a [] (by omega) (fun t ht r hr => ?_) (.inl rfl)
 have hto : It.oks t := ht.elim (fun e => e ▸ hs) fun hm => (It.oka_iff a).1 ha t hm
 have htl := It.al_mem ht
 have hts := It.sev_big t
 exact c_seq b t r hto (by omega) (fun i hi' r hr => c_item b i ((It.oks_iff t).1 hto i hi') (by have := It.stx_mem hi'; omega) r hr) hr
end WParse2
end Go.Proofs.YtphlkdbglpcikaaGreatDoor
end
section
namespace Go.Proofs.YtphlkdbglpcikaaGreatDoor
open Go.Vl
open Y
namespace WFault
theorem c_IndexFuncX (l : List Ex) (g : Nat) (caps : List Value) (M0 : List ME) (p : Ex → Bool) (hg : ∀ d ∈ l, FnC Tryz.prog g ([Ex.avx d] ++ caps.map .lit) M0 (fun r M => r = .bool (p d) ∧ M = M0)) (hn : l.length ≤ 1099511627776) : FnC Tryz.prog 119 [.sl 3 (l.map Ex.av), .lit (.func (.func g) #[] caps.toArray)] M0 (fun r M => r = .int (idxI p l) ∧ M = M0) :=  by
 refine FnC.mk Tryz.func119 (by kernel_rfl) rfl Tryz.ntmps119 rfl (fun w0 F => ?_)
 have hnl : (l.map Ex.av).length = l.length := List.length_map ..
 refine W.s (.r (.q (.assign .k) rfl (.n (.h (.s (.s (.r (.mv rfl rfl (.q (.lensl (.t rfl) Tryz.underlying54) rfl (.q (.move .k) rfl (.n (.h (.b ?_))))))))))))); refine W.loop (D := []) (ι := Nat) (fun i => [(8, true, .int (i : Int)), (7, true, .int ((l.map Ex.av).length : Int)), (0, true, .sl 3 (l.map Ex.av)), (1, true, .lit (.func (.func g) #[] caps.toArray))]) (fun _ => M0) (fun i => i ≤ l.length ∧ ∀ d ∈ l.take i, p d = false) (fun i => l.length - i) 0 ⟨rfl, rfl, rfl, rfl, trivial⟩ (List.Perm.of_eq (List.append_nil _).symm) ⟨Nat.zero_le _, by simp⟩ ?_
 rintro i ⟨hi1, hi2⟩
 dsimp only at hi1 hi2 ⊢
 rcases (show i < l.length ∨ i = l.length from by omega) with hlt | hend
 ·have hga := Ex.at_av l i hlt
  refine W.s (.r (.q (.lti (.t rfl) (.t rfl)) rfl (.n (.h (.s ?_))))); refine W.isb 9 true rfl (by simp; omega) ?_; refine W.condT (.t rfl) (.k (.h (.s (.b (.s (.r (.mv rfl rfl (.asg rfl rfl (.n (.h (.s (.r (.mv rfl rfl (.mv rfl rfl (.mv rfl rfl ?_))))))))))))))); refine W.q (.at (E := 56) (.t rfl) (.t rfl) Tryz.underlying54 ty56 (fun _ => ⟨by omega, hga⟩) rfl rfl) rfl ?_; refine W.q (.lden (.t rfl) ag56 ty56 rfl rfl) rfl ?_; refine W.callv (caps := caps) (avs := [_]) (hg (l.getD i Ex.dflt) (getD_memG Ex.dflt l i hlt)) (.t rfl) ⟨(.t rfl), trivial⟩ rfl ((List.Perm.of_eq (List.append_nil _).symm)) rfl ?_
  rintro _ M' ⟨rfl, hM⟩
  rw [hM, List.append_nil]
  refine W.n ?_; refine W.h ?_; refine W.cond (.t rfl) (fun hc_t16 => ?_) (fun hc_t16 => ?_)
  ·have hq := idxI_hit p Ex.dflt l i hlt hi2 hc_t16
   refine W.s (.r (.mv rfl rfl (.asg rfl rfl (.n (.h ?_))))); refine W.ret ?_; refine W.br (.hr (.hr (.br (.hr ?_)))); refine W.retn (M' := M0) (D := []) (rs := [.tmp 4]) (avs := [_]) Tryz.results119 ⟨rfl, trivial⟩ rfl (List.Perm.of_eq (List.append_nil _).symm) ?_
   exact ⟨congrArg AV.int (by rw [hq]), rfl⟩
  ·have hq : p (l.getD i Ex.dflt) = false := hc_t16
   refine W.k (.bn (.h (.r (.q (.add (.t rfl) .k (fun _ => by omega)) rfl ?_))))
   refine W.q (.move (.t rfl)) rfl ?_; refine W.n ?_; refine W.h ?_; refine W.reach (D := []) (i + 1) ⟨rfl, rfl, rfl, rfl, trivial⟩ (List.Perm.of_eq (List.append_nil _).symm) ⟨⟨by omega, ?_⟩, by omega⟩
   rw [take_getDG Ex.dflt l i hlt]
   intro d hd
   cases List.mem_append.1 hd with
   | inl h => exact hi2 d h
   | inr h => rw [List.mem_singleton.1 h]; exact hq
 ·rw [List.take_of_length_le (by omega)] at hi2
  have hq := idxI_miss p l hi2
  refine W.s (.r (.q (.lti (.t rfl) (.t rfl)) rfl (.n (.h (.s ?_))))); refine W.isb 9 false rfl (by simp; omega) ?_; refine W.condF (.t rfl) (.ex (.he (.he (.bh (.h (.s (.r (.q (.assign .k) rfl (.n (.h ?_)))))))))); refine W.ret ?_; refine W.retn (M' := M0) (D := []) (rs := [.tmp 4]) (avs := [_]) Tryz.results119 ⟨rfl, trivial⟩ rfl (List.Perm.of_eq (List.append_nil _).symm) ?_
  exact ⟨congrArg AV.int (by rw [hq]), rfl⟩
theorem c_ContainsFuncX (l : List Ex) (g : Nat) (caps : List Value) (M0 : List ME) (p : Ex → Bool) (hg : ∀ d ∈ l, FnC Tryz.prog g ([Ex.avx d] ++ caps.map .lit) M0 (fun r M => r = .bool (p d) ∧ M = M0)) (hn : l.length ≤ 1099511627776) : FnC Tryz.prog 99 [.sl 3 (l.map Ex.av), .lit (.func (.func g) #[] caps.toArray)] M0 (fun r M => r = .bool (l.any p) ∧ M = M0) :=  by
 refine FnC.mk Tryz.func99 (by kernel_rfl) rfl Tryz.ntmps99 rfl (fun w0 F => ?_)
 refine W.s (.r (.q (.assign .k) rfl (.n (.h (.s (.r (.mv rfl rfl (.mv rfl rfl ?_)))))))); refine W.call (c_IndexFuncX l g caps M0 p hg hn) ⟨(.t rfl), (.t rfl), trivial⟩ ((List.Perm.of_eq (List.append_nil _).symm)) rfl ?_
 rintro _ M' ⟨rfl, hM⟩
 rw [hM, List.append_nil]
 refine W.q (.gei (.t rfl) .k) rfl (.asg rfl rfl (.n (.h ?_))); refine W.ret ?_; refine W.retn (M' := M0) (D := []) (rs := [.tmp 4]) (avs := [_]) Tryz.results99 ⟨rfl, trivial⟩ rfl (List.Perm.of_eq (List.append_nil _).symm) ?_
 exact ⟨congrArg AV.bool (idxI_any p l), rfl⟩
theorem c_fault1 (b : Nat) (x d : Ex) : FnC Tryz.prog 100 ([Ex.avx d] ++ [Value.pointer (some ⟨b, 0, none⟩)].map .lit) [.box b 56 x.avx.cells] (fun r M => r = .bool (d.kind == x.kind) ∧ M = [.box b 56 x.avx.cells]) :=  by
 refine FnC.mk Tryz.func100 (by kernel_rfl) rfl Tryz.ntmps100 rfl (fun w0 F => ?_)
 refine W.s ?_; refine W.r ?_; refine W.box (.t rfl) rfl rfl ?_; intro b2; refine W.q (.assign .k) rfl ?_; refine W.n ?_; refine W.h ?_; refine W.s ?_; refine W.r ?_
 refine W.q (.fab (.t rfl) fa56_0) rfl (.q (.ldb1 0 (.t rfl) rfl ag3 rfl) rfl (.q (.fab (.t rfl) fa56_0) rfl (.q (.ldb1 1 (.t rfl) rfl ag3 rfl) rfl (.q (.eqi (.t rfl) (.t rfl)) rfl (.asg rfl rfl (.n (.h ?_))))))); refine W.ret ?_; refine W.retn (M' := [.box b 56 _]) (D := _) (rs := [.tmp 3]) (avs := [_]) Tryz.results100 ⟨rfl, trivial⟩ rfl (List.Perm.swap _ _ []) ?_
 exact ⟨rfl, rfl⟩
theorem c_fault_step (x : Ex) (h1 : Ex.ok1 x) (hz : x.sz ≤ 16777216) (ih : ∀ d ∈ x.parts, FnP Tryz.prog 67 [Ex.avx d] (.int 0)) : FnP Tryz.prog 67 [Ex.avx x] (.int 0) :=  by
 refine FnC.mk Tryz.func67 (by kernel_rfl) rfl Tryz.ntmps67 rfl (fun w0 F => ?_)
 have hpl : (x.parts.map Ex.av).length = x.parts.length := List.length_map ..
 have hse := Ex.sz_eq x
 have hsl := Ex.szs_len x.parts
 obtain ⟨k0, k1, k2, k3, k4, k5, k6, k7⟩ := Ex.ok1_facts h1
 refine W.s ?_; refine W.r ?_; refine W.box (.t rfl) rfl rfl ?_; intro b1; refine W.q (.assign .k) rfl ?_; refine W.n ?_; refine W.h ?_; refine W.s ?_; refine W.r ?_
 refine W.q (.fab (.t rfl) fa56_2) rfl (.q (.ldb1 0 (.t rfl) rfl ag54 rfl) rfl (.q (.lensl (.t rfl) Tryz.underlying54) rfl (.asg rfl rfl (.n (.h (.s (.r (.q (.fab (.t rfl) fa56_0) rfl (.q (.ldb1 0 (.t rfl) rfl ag3 rfl) rfl (.q (.eqi (.t rfl) .k) rfl (.mv rfl rfl (.qgF rfl rfl (.fab (.t rfl) fa56_0) rfl (.qgF rfl rfl (.ldb1 0 (.c rfl) rfl ag3 rfl) rfl (.qgF rfl rfl (.eqi (.c rfl) .k) rfl ?_)))))))))))))); refine W.q (.or (.t rfl) ⟨_, _, rfl, rfl, by ((simp; done))⟩) rfl ?_; refine W.asg rfl rfl (.n (.h (.s (.b (.s (.r (.q (.fab (.t rfl) fa56_0) rfl (.q (.ldb1 0 (.t rfl) rfl ag3 rfl) rfl (.q (.lti (.t rfl) .k) rfl (.mv rfl rfl (.qgF rfl rfl (.fab (.t rfl) fa56_0) rfl (.qgF rfl rfl (.ldb1 0 (.c rfl) rfl ag3 rfl) rfl (.qgF rfl rfl (.gti (.c rfl) .k) rfl ?_))))))))))))); refine W.q (.or (.t rfl) ⟨_, _, rfl, rfl, by ((simp; done))⟩) rfl ?_; refine W.asg rfl rfl (.n (.h ?_)); refine W.isb 19 false rfl (by exact Bool.eq_false_iff.2 (fun h => by simp at h; omega)) ?_; refine W.condF (.t rfl) (.s (.s (.r (.q (.fab (.t rfl) fa56_0) rfl (.q (.ldb1 0 (.t rfl) rfl ag3 rfl) rfl (.q (.eqi (.t rfl) .k) rfl (.mv rfl rfl (.qgT rfl rfl (.move (.t rfl)) rfl (.qgT rfl rfl (.gti (.c rfl) .k) rfl ?_))))))))); refine W.q (.and (.t rfl) ⟨_, _, rfl, rfl, by ((simp; done))⟩) rfl ?_; refine W.asg rfl rfl (.n (.h ?_)); refine W.isb 28 false rfl (by exact Bool.eq_false_iff.2 (fun h => by simp only [Bool.and_eq_true, Bool.or_eq_true, beq_iff_eq, bne_iff_ne, decide_eq_true_eq, ne_eq] at h; omega)) ?_; refine W.condF (.t rfl) (.s (.r (.q (.fab (.t rfl) fa56_0) rfl (.q (.ldb1 0 (.t rfl) rfl ag3 rfl) rfl (.q (.nei (.t rfl) .k) rfl (.mv rfl rfl (.qgT rfl rfl (.fab (.t rfl) fa56_1) rfl (.qgT rfl rfl (.ldb1 0 (.c rfl) rfl ag3 rfl) rfl (.qgT rfl rfl (.nei (.c rfl) .k) rfl ?_))))))))); refine W.q (.and (.t rfl) ⟨_, _, rfl, rfl, by ((simp; done))⟩) rfl ?_; refine W.asg rfl rfl (.n (.h ?_)); refine W.isb 28 false rfl (by exact Bool.eq_false_iff.2 (fun h => by simp only [Bool.and_eq_true, Bool.or_eq_true, beq_iff_eq, bne_iff_ne, decide_eq_true_eq, ne_eq] at h; omega)) ?_; refine W.condF (.t rfl) (.s (.r (.mv rfl rfl (.mv rfl rfl (.qgT rfl rfl (.move (.t rfl)) rfl (.qgT rfl rfl (.eqi (.c rfl) .k) rfl ?_)))))); refine W.q (.and (.t rfl) ⟨_, _, rfl, rfl, by ((simp; done))⟩) rfl ?_; refine W.asg rfl rfl (.n (.h ?_)); refine W.isb 28 false rfl (by exact Bool.eq_false_iff.2 (fun h => by simp only [Bool.and_eq_true, Bool.or_eq_true, beq_iff_eq, bne_iff_ne, decide_eq_true_eq, ne_eq] at h; omega)) ?_; refine W.condF (.t rfl) (.s (.r (.q (.fab (.t rfl) fa56_0) rfl (.q (.ldb1 0 (.t rfl) rfl ag3 rfl) rfl (.q (.eqi (.t rfl) .k) rfl (.mv rfl rfl (.qgT rfl rfl (.move (.t rfl)) rfl (.qgT rfl rfl (.eqi (.c rfl) .k) rfl ?_)))))))); refine W.q (.and (.t rfl) ⟨_, _, rfl, rfl, by ((simp; done))⟩) rfl ?_; refine W.asg rfl rfl (.n (.h ?_)); refine W.isb 28 false rfl (by exact Bool.eq_false_iff.2 (fun h => by simp only [Bool.and_eq_true, Bool.or_eq_true, beq_iff_eq, bne_iff_ne, decide_eq_true_eq, ne_eq] at h; omega)) ?_; refine W.condF (.t rfl) (.r (.q (.fab (.t rfl) fa56_0) rfl (.q (.ldb1 0 (.t rfl) rfl ag3 rfl) rfl (.q (.gei (.t rfl) .k) rfl (.mv rfl rfl (.qgT rfl rfl (.move (.t rfl)) rfl (.qgT rfl rfl (.nei (.c rfl) .k) rfl ?_))))))); refine W.q (.and (.t rfl) ⟨_, _, rfl, rfl, by ((simp; done))⟩) rfl ?_; refine W.asg rfl rfl (.n (.h ?_)); refine W.isb 28 false rfl (by exact Bool.eq_false_iff.2 (fun h => by simp only [Bool.and_eq_true, Bool.or_eq_true, beq_iff_eq, bne_iff_ne, decide_eq_true_eq, ne_eq] at h; omega)) ?_; refine W.condF (.t rfl) (.s (.r (.mv rfl rfl (.mv rfl rfl (.qgT rfl rfl (.fab (.t rfl) fa56_2) rfl (.qgT rfl rfl (.ldb1 0 (.c rfl) rfl ag54 rfl) rfl ?_)))))); refine W.qgT rfl rfl (.mkfn (caps := [.tmp 1]) (vs := [_]) ⟨(.t rfl), trivial⟩) rfl ?_; refine W.callgT (Min := _) (caps := []) (avs := [_, _]) rfl rfl (fun hg => c_ContainsFuncX x.parts 100 [.pointer (some ⟨b1, 0, none⟩)] [.box b1 56 x.avx.cells] (fun d => d.kind == x.kind) (fun d _ => c_fault1 b1 x d) (by omega)) (fun hg => .f) (fun hg => ⟨(.i rfl (fun _ => hg)), (.i rfl (fun _ => hg)), trivial⟩) rfl (.refl _) rfl ?_; refine W.q (.and (.t rfl) ⟨_, _, rfl, rfl, by ((simp; done))⟩) rfl ?_; refine W.asg rfl rfl (.n (.h ?_)); refine W.isb 63 false rfl (by exact Bool.eq_false_iff.2 (fun h => by have h1 := (Bool.and_eq_true _ _).mp h; rw [k7 h1.1] at h1; exact absurd h1.2 (by decide))) ?_; refine W.condF (.t rfl) (.s (.r (.q (.fab (.t rfl) fa56_1) rfl (.q (.ldb1 0 (.t rfl) rfl ag3 rfl) rfl (.q (.lti (.t rfl) .k) rfl (.mv rfl rfl (.qgF rfl rfl (.fab (.t rfl) fa56_1) rfl (.qgF rfl rfl (.ldb1 0 (.c rfl) rfl ag3 rfl) rfl (.qgF rfl rfl (.gei (.c rfl) .k) rfl ?_))))))))); refine W.q (.or (.t rfl) ⟨_, _, rfl, rfl, by ((simp; done))⟩) rfl ?_; refine W.asg rfl rfl (.n (.h ?_)); refine W.isb 71 false rfl (by exact Bool.eq_false_iff.2 (fun h => by simp at h; omega)) ?_; refine W.condF (.t rfl) (.k (.bn (.h (.s (.s (.r (.q (.fab (.t rfl) fa56_2) rfl (.q (.ldb1 0 (.t rfl) rfl ag54 rfl) rfl (.q (.lensl (.t rfl) Tryz.underlying54) rfl ?_)))))))))
 refine W.q (.move .k) rfl ?_; refine W.n ?_; refine W.h ?_; refine W.b ?_; refine W.loop (D := []) (ι := Nat) (fun i => [(83, true, .int (i : Int)), (82, true, .int ((x.parts.map Ex.av).length : Int)), (81, true, .sl 3 (x.parts.map Ex.av)), (1, true, .lit (.pointer (some ⟨b1, 0, none⟩)))]) (fun i => [.box b1 56 x.avx.cells]) (fun i => i ≤ x.parts.length) (fun i => x.parts.length - i) 0 ⟨rfl, rfl, rfl, rfl, trivial⟩ (.refl _) (Nat.zero_le _) ?_; intro i hi
 dsimp only at hi ⊢
 rcases (show i < x.parts.length ∨ i = x.parts.length from by omega) with hlt | hend
 ·have hga := Ex.at_av x.parts i hlt
  have hdm := getD_memG Ex.dflt x.parts i hlt
  generalize hd : x.parts.getD i Ex.dflt = d at hga hdm
  refine W.s (.r (.q (.lti (.t rfl) (.t rfl)) rfl (.n (.h (.s ?_))))); refine W.isb 84 true rfl (by exact decide_eq_true (by omega)) ?_; refine W.condT (.t rfl) (.k (.h (.s (.b (.s (.r ?_)))))); refine W.q (.at (E := 56) (.t rfl) (.t rfl) Tryz.underlying54 ty56 (fun _ => ⟨by omega, hga⟩) rfl rfl) rfl ?_; refine W.q (.lden (.t rfl) ag56 ty56 rfl rfl) rfl ?_
  refine W.alloc ty56 rfl rfl ?_; intro b6
  refine W.stb 0 (.t rfl) (.t rfl) rfl ty56 rfl rfl rfl (.n (.h (.s (.r (.q (.ldbn 0 (.t rfl) rfl ag56 ty56 rfl) rfl ?_))))); refine W.callp (ih d hdm) ⟨(.t rfl), trivial⟩ rfl ?_; refine W.asg rfl rfl (.n (.h (.s (.r (.mv rfl rfl (.q (.nei (.t rfl) .k) rfl (.n (.h (.isb 90 false rfl (by rfl) (.condF (.t rfl) (.k (.bn (.h (.r (.q (.add (.t rfl) .k (fun _ => by omega)) rfl ?_)))))))))))))))
  refine W.q (.move (.t rfl)) rfl ?_; refine W.n ?_; refine W.h ?_; refine W.reach (D := [_]) (i + 1) ⟨rfl, rfl, rfl, rfl, trivial⟩ (List.Perm.swap _ _ []) ⟨by show i + 1 ≤ _; omega, by show _ - (i + 1) < _; omega⟩
 ·skip
  refine W.s (.r (.q (.lti (.t rfl) (.t rfl)) rfl (.n (.h (.s ?_))))); refine W.isb 84 false rfl (by exact decide_eq_false (by omega)) ?_; refine W.condF (.t rfl) (.ex (.he (.he (.bh (.h (.s (.r (.q (.assign .k) rfl (.n (.h ?_)))))))))); refine W.ret ?_; refine W.retn (M' := []) (D := _) (rs := [.tmp 2]) (avs := [_]) Tryz.results67 ⟨rfl, trivial⟩ rfl (.refl _) ?_
  exact ⟨rfl, rfl⟩
theorem c_fault : ∀ x : Ex, Ex.ok x → x.sz ≤ 16777216 → FnP Tryz.prog 67 [Ex.avx x] (.int 0) := by
 refine Ex.rec' fun x ih hx hz => ?_
 obtain ⟨h1, h2⟩ := (Ex.ok_iff x).1 hx
 exact c_fault_step x h1 hz fun d hd => ih d hd (h2 d hd) (by have := Ex.part_sz hd; omega)
end WFault
end Go.Proofs.YtphlkdbglpcikaaGreatDoor
end
section
namespace Go.Proofs.YtphlkdbglpcikaaGreatDoor
open Go.Vl
open Y
namespace WText
theorem c_Join (l : List (List UInt8)) (sep : List UInt8) (hl : l.length ≤ 16777216) (hj : (Ex.joinW sep l).length ≤ 1099511627776) : FnP Tryz.prog 101 [.sl 1 (l.map AV.str), .str sep] (.str (Ex.joinW sep l)) := by
 rw [Ex.joinW_lib] at hj ⊢
 exact joinP (CallOk.of Tryz.func101 (by kernel_rfl) rfl) (fun a c sep w => Tryz.strings_Join_none a c sep w) (fun bk o c xs sep w h1 h2 h3 h4 h5 => Tryz.strings_Join bk o c xs sep w h1 h2 h3 h4 h5) l sep (by omega) (by omega)
theorem c_text_step (x : Ex) (h1 : Ex.ok1 x) (hz : x.sz ≤ 16777216) (hw : Ex.wz x ≤ 1073741824) (ih : ∀ d ∈ x.parts, FnP Tryz.prog 68 [Ex.avx d] (.str (Ex.txt d))) : FnP Tryz.prog 68 [Ex.avx x] (.str (Ex.txt x)) :=  by
 refine FnC.mk Tryz.func68 (by kernel_rfl) rfl Tryz.ntmps68 rfl (fun w0 F => ?_)
 have hpl : (x.parts.map Ex.av).length = x.parts.length := List.length_map ..
 have hse := Ex.sz_eq x
 have hsl := Ex.szs_len x.parts
 obtain ⟨k0, k1, k2, k3, k4, k5, k6, k7⟩ := Ex.ok1_facts h1
 have hwe : Ex.wz x = Ex.sumL (x.parts.map (Ex.ptx1 x.kind)) + x.parts.length + 2 := rfl
 have htl := Ex.ptx_len x
 refine W.s ?_; refine W.r ?_; refine W.box (.t rfl) rfl rfl ?_; intro b1; refine W.q (.assign .k) rfl ?_; refine W.n ?_; refine W.h ?_; refine W.s ?_; refine W.r ?_; refine W.q (.assign .k) rfl ?_; refine W.n ?_; refine W.h ?_; refine W.s ?_; refine W.s ?_; refine W.r ?_
 refine W.q (.fab (.t rfl) fa56_2) rfl (.q (.ldb1 0 (.t rfl) rfl ag54 rfl) rfl (.q (.lensl (.t rfl) Tryz.underlying54) rfl (.q (.move .k) rfl (.n (.h (.b ?_)))))); refine W.own_nil 9 1 ?_; refine W.loop (D := []) (ι := Nat × Value) (fun z => [(11, true, .int (z.1 : Int)), (10, true, .int ((x.parts.map Ex.av).length : Int)), (9, true, .sl 3 (x.parts.map Ex.av)), (1, true, .lit (.pointer (some ⟨b1, 0, none⟩))), (3, true, .lit z.2)]) (fun z => [.arr z.2 9 1 (((x.parts.take z.1).map (Ex.ptx1 x.kind)).map AV.str), .box b1 56 x.avx.cells]) (fun z => z.1 ≤ x.parts.length) (fun z => x.parts.length - z.1) (0, .slice none 0 0) ⟨rfl, rfl, rfl, rfl, rfl, trivial⟩ (.refl _) (Nat.zero_le _) ?_
 rintro ⟨i, v⟩ hi
 dsimp only at hi ⊢
 rcases (show i < x.parts.length ∨ i = x.parts.length from by omega) with hlt | hend
 ·have hga := Ex.at_av x.parts i hlt
  have hdm := getD_memG Ex.dflt x.parts i hlt
  have hsn : (x.parts.take (i + 1)).map (Ex.ptx1 x.kind) = (x.parts.take i).map (Ex.ptx1 x.kind) ++ [Ex.ptx1 x.kind (x.parts.getD i Ex.dflt)] := by rw [take_getDG Ex.dflt x.parts i hlt, List.map_append]; rfl
  generalize hd : x.parts.getD i Ex.dflt = d at hga hdm hsn
  have hdl := htl d hdm
  refine W.s (.r (.q (.lti (.t rfl) (.t rfl)) rfl (.n (.h (.s ?_))))); refine W.isb 12 true rfl (by exact decide_eq_true (by omega)) ?_; refine W.condT (.t rfl) (.k (.h (.s (.b (.s (.r ?_)))))); refine W.q (.at (E := 56) (.t rfl) (.t rfl) Tryz.underlying54 ty56 (fun _ => ⟨by omega, hga⟩) rfl rfl) rfl ?_; refine W.q (.lden (.t rfl) ag56 ty56 rfl rfl) rfl ?_
  refine W.alloc ty56 rfl rfl ?_; intro b5
  refine W.stb 0 (.t rfl) (.t rfl) rfl ty56 rfl rfl rfl (.n (.h (.s (.r (.q (.ldbn 0 (.t rfl) rfl ag56 ty56 rfl) rfl ?_))))); refine W.callp (ih d hdm) ⟨(.t rfl), trivial⟩ rfl ?_; refine W.asg rfl rfl (.n (.h (.s (.s (.r (.q (.fab (.t rfl) fa56_0) rfl (.q (.ldb1 0 (.t rfl) rfl ag3 rfl) rfl (.q (.eqi (.t rfl) .k) rfl (.mv rfl rfl (.qgT rfl rfl (.fab (.t rfl) fa56_0) rfl (.qgT rfl rfl (.ldb1 2 (.c rfl) rfl ag3 rfl) rfl (.qgT rfl rfl (.nei (.c rfl) .k) rfl ?_)))))))))))); refine W.q (.and (.t rfl) ⟨_, _, rfl, rfl, by ((simp; done))⟩) rfl ?_; refine W.mv rfl rfl (.qgF rfl rfl (.fab (.t rfl) fa56_0) rfl (.qgF rfl rfl (.ldb1 0 (.c rfl) rfl ag3 rfl) rfl (.qgF rfl rfl (.eqi (.c rfl) .k) rfl (.qgF rfl rfl (.move (.c rfl)) rfl (.qgT' rfl rfl (.fab (.t rfl) fa56_0) rfl (.qgT' rfl rfl (.ldb1 2 (.c rfl) rfl ag3 rfl) rfl ?_))))))
  refine W.qgT' rfl rfl (.gei (.c rfl) .k) rfl ?_; refine W.qgF rfl rfl (.and (.c rfl) ⟨_, _, rfl, rfl, by ((simp <;> omega; done))⟩) rfl ?_; refine W.q (.or (.t rfl) ⟨_, _, rfl, rfl, by ((intro hg_ hp_; simp [hp_]; done))⟩) rfl ?_; refine W.n ?_; refine W.h ?_; refine W.cond (.t rfl) (fun hc_t34 => ?_) (fun hc_t34 => ?_)
  ·have hpar : Ex.par x.kind d := by simp at hc_t34; unfold Ex.par; omega
   have hp1 : Ex.ptx1 x.kind d = 40 :: (Ex.txt d ++ [41]) := if_pos hpar
   refine W.r (.mv rfl rfl ?_); refine W.q (.cat .k (.t rfl) (fun _ => by ((simp [-List.length_flatMap]; omega)))) rfl ?_; refine W.q (.cat (.t rfl) .k (fun _ => by ((simp [-List.length_flatMap]; omega)))) rfl ?_; refine W.asg rfl rfl (.n (.h (.r (.mv rfl rfl (.mv rfl rfl ?_))))); refine W.bs (es := [_]) Tryz.underlying26 ty9 ⟨rfl, (.t rfl), rfl, rfl, trivial⟩ rfl (by decide) rfl rfl ?_; refine W.app 1 (.t rfl) rfl (.sl (.t rfl) (by simp [AV.okc, shV])) Tryz.underlying26 ni26 ty9 rfl rfl (by rw [List.length_map, List.length_map, List.length_take]; simp only [List.length_cons, List.length_nil]; omega) rfl ?_
   intro v41; refine W.q (.assign (.t rfl)) rfl ?_; refine W.n ?_; refine W.bn ?_; refine W.h ?_; refine W.r ?_
   refine W.q (.add (.t rfl) .k (fun _ => by omega)) rfl ?_
   refine W.q (.move (.t rfl)) rfl ?_; refine W.n ?_; refine W.h ?_; refine W.reach (D := [_]) (i + 1, v41) ⟨rfl, rfl, rfl, rfl, rfl, trivial⟩ (by rw [hsn, hp1, List.map_append]; exact List.perm_append_comm (l₁ := [_])) ⟨by show i + 1 ≤ _; omega, by show _ - (i + 1) < _; omega⟩
  ·have hpar : ¬ Ex.par x.kind d := by unfold Ex.par; intro h; have h2 := Bool.eq_false_iff.1 hc_t34; simp at h2; omega
   have hp1 : Ex.ptx1 x.kind d = Ex.txt d := if_neg hpar
   refine W.k (.h (.r (.mv rfl rfl (.mv rfl rfl ?_)))); refine W.bs (es := [_]) Tryz.underlying26 ty9 ⟨rfl, (.t rfl), rfl, rfl, trivial⟩ rfl (by decide) rfl rfl ?_; refine W.app 1 (.t rfl) rfl (.sl (.t rfl) (by simp [AV.okc, shV])) Tryz.underlying26 ni26 ty9 rfl rfl (by rw [List.length_map, List.length_map, List.length_take]; simp only [List.length_cons, List.length_nil]; omega) rfl ?_
   intro v41; refine W.q (.assign (.t rfl)) rfl ?_; refine W.n ?_; refine W.bn ?_; refine W.h ?_; refine W.r ?_
   refine W.q (.add (.t rfl) .k (fun _ => by omega)) rfl ?_
   refine W.q (.move (.t rfl)) rfl ?_; refine W.n ?_; refine W.h ?_; refine W.reach (D := [_]) (i + 1, v41) ⟨rfl, rfl, rfl, rfl, rfl, trivial⟩ (by rw [hsn, hp1, List.map_append]; exact List.perm_append_comm (l₁ := [_])) ⟨by show i + 1 ≤ _; omega, by show _ - (i + 1) < _; omega⟩
 ·rw [List.take_of_length_le (show x.parts.length ≤ i from by omega)]
  refine W.s (.r (.q (.lti (.t rfl) (.t rfl)) rfl (.n (.h (.s ?_))))); refine W.isb 12 false rfl (by exact decide_eq_false (by omega)) ?_; refine W.condF (.t rfl) (.ex (.he (.he (.bh (.h (.s (.s (.r (.q (.fab (.t rfl) fa56_0) rfl (.q (.ldb1 1 (.t rfl) rfl ag3 rfl) rfl ?_))))))))))
  refine W.n ?_; refine W.h ?_; refine W.b ?_; refine W.s ?_; refine W.r ?_; refine W.q (.eqi (.t rfl) .k) rfl ?_; refine W.q (.assign (.t rfl)) rfl ?_; refine W.n ?_; refine W.h ?_; refine W.cond (.t rfl) (fun hc_t45 => ?_) (fun hc_t45 => ?_)
  ·have e45 : x.kind = 1 := eq_of_beq hc_t45
   refine W.s (.r (.q (.fab (.t rfl) fa56_1) rfl (.q (.ldb1 1 (.t rfl) rfl ag3 rfl) rfl (.q (.fab (.t rfl) fa56_1) rfl (.q (.ldb1 1 (.t rfl) rfl ag3 rfl) rfl (.q (.add (.t rfl) .k (fun _ => by omega)) rfl ?_)))))); refine W.q (.subs (lo := some (.tmp 48)) (hi := some (.tmp 51)) .k Tryz.underlying9 (.t rfl) (.t rfl) (fun _ => by obtain ⟨h0, h8⟩ := k1; exact ⟨h0, by omega, by show x.type + 1 ≤ 8; omega⟩)) rfl ?_; refine W.is (t := 52) (av' := .str [97 + UInt8.ofNat x.type.toNat]) rfl (congrArg AV.str (Ex.letter8 x.type k1.1 k1.2)) ?_; refine W.asg rfl rfl (.n (.h ?_)); refine W.ret ?_; refine W.br (.hr ?_); refine W.retn (M' := []) (D := _) (rs := [.tmp 2]) (avs := [_]) Tryz.results68 ⟨rfl, trivial⟩ rfl (.refl _) ?_
   refine ⟨?_, rfl⟩
   rw [Ex.txt_eq]
   ((rw [if_pos e45]; rfl))
  ·have e45 : x.kind ≠ 1 := beq_eq_false_iff_ne.1 hc_t45
   refine W.s ?_; refine W.r ?_; refine W.q (.eqi (.t rfl) .k) rfl ?_; refine W.q (.assign (.t rfl)) rfl ?_; refine W.n ?_; refine W.h ?_; refine W.cond (.t rfl) (fun hc_t53 => ?_) (fun hc_t53 => ?_)
   ·have e53 : x.kind = 2 := eq_of_beq hc_t53
    refine W.s (.r (.mv rfl rfl ?_)); refine W.freezeA (M1 := [_]) (M2 := [_]) (D := []) (v := v) (L' := [(55, true, .sl 1 ((x.parts.map (Ex.ptx1 x.kind)).map AV.str))]) (.refl _) ⟨⟨_, rfl, .one .hit⟩, trivial⟩ (FrzMs.refl _) ?_; refine W.callp (c_Join (x.parts.map (Ex.ptx1 x.kind)) [] (by rw [List.length_map]; omega) (by have := Ex.join0_le x; omega)) ⟨(.t rfl), .k, trivial⟩ rfl ?_; refine W.asg rfl rfl (.n (.h ?_)); refine W.ret ?_; refine W.br (.hr ?_); refine W.retn (M' := []) (D := _) (rs := [.tmp 2]) (avs := [_]) Tryz.results68 ⟨rfl, trivial⟩ rfl (.refl _) ?_
    refine ⟨?_, rfl⟩
    rw [Ex.txt_eq]
    ((rw [if_neg e45, if_pos e53]; rfl))
   ·have e53 : x.kind ≠ 2 := beq_eq_false_iff_ne.1 hc_t53
    refine W.s ?_; refine W.r ?_; refine W.q (.eqi (.t rfl) .k) rfl ?_; refine W.q (.assign (.t rfl)) rfl ?_; refine W.n ?_; refine W.h ?_; refine W.cond (.t rfl) (fun hc_t57 => ?_) (fun hc_t57 => ?_)
    ·have e57 : x.kind = 3 := eq_of_beq hc_t57
     refine W.s (.r (.mv rfl rfl ?_)); refine W.freezeA (M1 := [_]) (M2 := [_]) (D := []) (v := v) (L' := [(59, true, .sl 1 ((x.parts.map (Ex.ptx1 x.kind)).map AV.str))]) (.refl _) ⟨⟨_, rfl, .one .hit⟩, trivial⟩ (FrzMs.refl _) ?_; refine W.callp (c_Join (x.parts.map (Ex.ptx1 x.kind)) [124] (by rw [List.length_map]; omega) (by have := Ex.join1_le x; omega)) ⟨(.t rfl), .k, trivial⟩ rfl ?_; refine W.asg rfl rfl (.n (.h ?_)); refine W.ret ?_; refine W.br (.hr ?_); refine W.retn (M' := []) (D := _) (rs := [.tmp 2]) (avs := [_]) Tryz.results68 ⟨rfl, trivial⟩ rfl (.refl _) ?_
     refine ⟨?_, rfl⟩
     rw [Ex.txt_eq]
     ((rw [if_neg e45, if_neg e53, if_pos e57]; rfl))
    ·have e57 : x.kind ≠ 3 := beq_eq_false_iff_ne.1 hc_t57
     have e4 : 4 ≤ x.kind := by omega
     obtain ⟨q, hq⟩ : ∃ q, x.parts = [q] := List.length_eq_one_iff.1 (k6 e4)
     refine W.k (.bn (.h (.s (.r (.q (.fab (.t rfl) fa56_0) rfl (.q (.ldb1 1 (.t rfl) rfl ag3 rfl) rfl (.q (.sub (.t rfl) .k (fun _ => by omega)) rfl (.asg rfl rfl (.n ?_)))))))))
     obtain ⟨j, hj, hj3⟩ : ∃ j : Nat, x.kind - 4 = (j : Int) ∧ j < 3 := ⟨(x.kind - 4).toNat, by omega, by omega⟩
     refine W.is (t := 7) (av' := .int (j : Int)) rfl (congrArg AV.int hj) ?_; refine W.freezeA (M1 := [_]) (M2 := [_]) (D := []) (v := v) (L' := [(3, true, .sl 1 ((x.parts.map (Ex.ptx1 x.kind)).map AV.str))]) (.refl _) ⟨⟨_, rfl, .one .hit⟩, trivial⟩ (FrzMs.refl _) ?_
     have hg0 : ((x.parts.map (Ex.ptx1 x.kind)).map AV.str)[0]? = some (.str (Ex.ptx1 x.kind q)) := by rw [hq]; rfl
     have hql : (Ex.ptx1 x.kind q).length ≤ Ex.wz x := by rw [hwe, hq]; simp [Ex.sumL]; omega
     refine W.h (.s ?_); refine W.drawn (by kernel_rfl) (by kernel_rfl) ?_; refine DP.q (.move (.t rfl)) rfl ?_; refine DP.q (.at (E := 9) (.t rfl) .k Tryz.underlying26 ty9 (fun _ => ⟨by decide, hg0⟩) rfl rfl) rfl ?_; refine DP.q (.lde1 (.t rfl) ag9) rfl (.q (.move (.t rfl)) rfl (.q (.move (.t rfl)) rfl (.q (.add (.t rfl) .k (fun _ => by omega)) rfl ?_))); refine DP.q (.subs (lo := some (.tmp 67)) (hi := some (.tmp 69)) .k Tryz.underlying9 (.t rfl) (.t rfl) (fun _ => ⟨by omega, by omega, by show (j : Int) + 1 ≤ 3; omega⟩)) rfl ?_; refine DP.q (.cat (.t rfl) (.t rfl) (fun _ => by ((simp [-List.length_flatMap]; omega)))) rfl ?_; refine DP.q (.assign (.t rfl)) rfl (.nil (.h ?_)); refine W.ret ?_; refine W.retn (M' := []) (D := _) (rs := [.tmp 2]) (avs := [_]) Tryz.results68 ⟨rfl, trivial⟩ rfl (.refl _) ?_
     refine ⟨?_, rfl⟩
     rw [Ex.txt_eq]
     ((rw [if_neg e45, if_neg e53, if_neg e57, hq, Ex.sign3 x.kind j hj hj3]; rfl))
theorem c_text : ∀ x : Ex, Ex.ok x → x.sz ≤ 16777216 → (Ex.txt x).length ≤ 1048576 → FnP Tryz.prog 68 [Ex.avx x] (.str (Ex.txt x)) := by
 refine Ex.rec' fun x ih hx hz hl => ?_
 obtain ⟨h1, h2⟩ := (Ex.ok_iff x).1 hx
 have hw := Ex.wz_le x h1
 have hs := Ex.sz_eq x
 have hn := Ex.szs_len x.parts
 exact c_text_step x h1 hz (by omega) fun d hd => ih d hd (h2 d hd) (by have := Ex.part_sz hd; omega) (by have := Ex.part_txt x h1 d hd; omega)
end WText
end Go.Proofs.YtphlkdbglpcikaaGreatDoor
end
section
namespace Go.Proofs.YtphlkdbglpcikaaGreatDoor
open Go.Vl
open Y
namespace WParse3
theorem c_Check (x : Ex) (hx : Ex.ok x) (hz : x.sz ≤ 16777216) (hl : (Ex.txt x).length ≤ 40) : FnP Tryz.prog 37 [x.avx] (.int 0) :=  by
 refine FnC.mk Tryz.func37 (by kernel_rfl) rfl Tryz.ntmps37 rfl (fun w0 F => ?_)
 refine W.s ?_; refine W.r ?_; refine W.box (.t rfl) rfl rfl ?_; intro b1; refine W.q (.assign .k) rfl ?_; refine W.n ?_; refine W.h ?_; refine W.s ?_; refine W.s ?_; refine W.r ?_
 first | refine W.q (.lden (.t rfl) ag56 ty56 rfl rfl) rfl ?_ | refine W.q (.ldbn 0 (.t rfl) rfl ag56 ty56 rfl) rfl ?_ | refine W.q (.ldbn 1 (.t rfl) rfl ag56 ty56 rfl) rfl ?_ | refine W.q (.ldbn 2 (.t rfl) rfl ag56 ty56 rfl) rfl ?_ | refine W.q (.ldbn 3 (.t rfl) rfl ag56 ty56 rfl) rfl ?_
 refine W.callp (WFault.c_fault x hx hz) ⟨(.t rfl), trivial⟩ rfl ?_; refine W.asg rfl rfl (.n (.h (.s (.r (.mv rfl rfl (.q (.nei (.t rfl) .k) rfl (.n (.h (.isb 7 false rfl (by rfl) (.condF (.t rfl) (.k (.h (.s (.s (.r ?_)))))))))))))))
 first | refine W.q (.lden (.t rfl) ag56 ty56 rfl rfl) rfl ?_ | refine W.q (.ldbn 0 (.t rfl) rfl ag56 ty56 rfl) rfl ?_ | refine W.q (.ldbn 1 (.t rfl) rfl ag56 ty56 rfl) rfl ?_ | refine W.q (.ldbn 2 (.t rfl) rfl ag56 ty56 rfl) rfl ?_ | refine W.q (.ldbn 3 (.t rfl) rfl ag56 ty56 rfl) rfl ?_
 refine W.callp (WText.c_text x hx hz (by omega)) ⟨(.t rfl), trivial⟩ rfl ?_; refine W.q (.lens (.t rfl) Tryz.underlying9) rfl (.q (.gti (.t rfl) .k) rfl (.n (.h ?_))); refine W.isb 12 false rfl (by exact decide_eq_false (by omega)) ?_; refine W.condF (.t rfl) (.k (.h (.s (.r (.q (.assign .k) rfl (.n (.h ?_))))))); refine W.ret ?_; refine W.retn (M' := []) (D := _) (rs := [.tmp 2]) (avs := [_]) Tryz.results37 ⟨rfl, trivial⟩ rfl (.refl _) ?_
 exact ⟨rfl, rfl⟩
theorem c_Parse (s : List It) (a : List (List It)) (hs : It.oks s) (ha : It.oka a) (hl : (It.stx s ++ It.atl a).length ≤ 40) : FnP Tryz.prog 23 [.str (It.stx s ++ It.atl a)] (.tup [(It.al s a).avx, .int 0]) :=  by
 refine FnC.mk Tryz.func23 (by kernel_rfl) rfl Tryz.ntmps23 rfl (fun w0 F => ?_)
 have hok := It.al_ok s a hs ha
 have hlen := It.al_len s a hs ha
 have hsz := It.al_sz s a
 refine W.s ?_; refine W.r ?_; refine W.alloc ty56 rfl rfl ?_; intro b2; refine W.q (.assign .k) rfl ?_; refine W.n ?_; refine W.h ?_; refine W.s ?_; refine W.s ?_; refine W.r ?_; refine W.q (.move (.t rfl)) rfl ?_; refine W.q (.lens (.t rfl) Tryz.underlying9) rfl ?_; refine W.q (.gti (.t rfl) .k) rfl ?_; refine W.n ?_; refine W.h ?_; refine W.isb 9 false rfl (by exact decide_eq_false (by omega)) ?_; refine W.condF (.t rfl) ?_; refine W.k ?_; refine W.h ?_; refine W.s ?_; refine W.r ?_; refine W.q (.move (.t rfl)) rfl ?_; refine W.q (.build ty94 st94 rfl (fun hg => ⟨_, _, _, rfl, (.t rfl), rfl, rfl, rfl, rfl⟩)) rfl ?_; refine W.box (.t rfl) rfl rfl ?_; intro b13; refine W.q (.assign (.t rfl)) rfl ?_; refine W.n ?_; refine W.h ?_; refine W.s ?_; refine W.r ?_
 have cA := WParse2.c_top b13 s a hs ha (by omega)
 rw [List.append_nil] at cA
 refine W.mv rfl rfl ?_; refine W.call (cA) ⟨(.t rfl), trivial⟩ ((List.Perm.refl _)) rfl ?_
 rintro _ _ ⟨rfl, rfl⟩
 refine W.alloc ty56 rfl rfl ?_; intro b5
 first | refine W.stb 0 (.t rfl) (.t rfl) rfl ty56 rfl rfl rfl ?_ | refine W.stb 1 (.t rfl) (.t rfl) rfl ty56 rfl rfl rfl ?_ | refine W.stb 2 (.t rfl) (.t rfl) rfl ty56 rfl rfl rfl ?_ | refine W.stb 3 (.t rfl) (.t rfl) rfl ty56 rfl rfl rfl ?_ | refine W.stb 4 (.t rfl) (.t rfl) rfl ty56 rfl rfl rfl ?_
 refine W.n (.h (.s (.s (.r (.mv rfl rfl (.q (.nilc (.t rfl)) rfl ?_))))))
 first | refine W.q (.fae (.t rfl) fa94_1 rfl) rfl ?_ | refine W.q (.fab (.t rfl) fa94_1) rfl ?_ | refine W.q (.faa (.t rfl) fa94_1) rfl ?_
 first | refine W.q (.lde1 (.t rfl) ag4) rfl ?_ | refine W.q (.ldb1 0 (.t rfl) rfl ag4 rfl) rfl ?_ | refine W.q (.ldb1 1 (.t rfl) rfl ag4 rfl) rfl ?_ | refine W.q (.ldb1 2 (.t rfl) rfl ag4 rfl) rfl ?_ | refine W.q (.ldb1 3 (.t rfl) rfl ag4 rfl) rfl ?_ | refine W.q (.ldb1 4 (.t rfl) rfl ag4 rfl) rfl ?_
 refine W.mv rfl rfl (.qgF rfl rfl (.move (.t rfl)) rfl (.qgF rfl rfl (.nilc (.c rfl)) rfl ?_))
 first | refine W.qgF rfl rfl (.fae (.c rfl) fa94_0 rfl) rfl ?_ | refine W.qgF rfl rfl (.fab (.c rfl) fa94_0) rfl ?_ | refine W.qgF rfl rfl (.faa (.c rfl) fa94_0) rfl ?_
 first | refine W.qgF rfl rfl (.lde1 (.c rfl) ag9) rfl ?_ | refine W.qgF rfl rfl (.ldb1 0 (.c rfl) rfl ag9 rfl) rfl ?_ | refine W.qgF rfl rfl (.ldb1 1 (.c rfl) rfl ag9 rfl) rfl ?_ | refine W.qgF rfl rfl (.ldb1 2 (.c rfl) rfl ag9 rfl) rfl ?_ | refine W.qgF rfl rfl (.ldb1 3 (.c rfl) rfl ag9 rfl) rfl ?_ | refine W.qgF rfl rfl (.ldb1 4 (.c rfl) rfl ag9 rfl) rfl ?_
 refine W.qgF rfl rfl (.nes (.c rfl) .k) rfl ?_; refine W.q (.or (.t rfl) ⟨_, _, rfl, rfl, by first | (simp; done) | (intro hg_ hp_; simp [hp_]; done) | (simp <;> omega; done) | (simp_all; done) | grind⟩) rfl ?_; refine W.n ?_; refine W.h ?_; refine W.isb 26 false rfl (by rfl) ?_; refine W.condF (.t rfl) ?_; refine W.k ?_; refine W.h ?_; refine W.s ?_; refine W.s ?_; refine W.r ?_
 first | refine W.q (.lden (.t rfl) ag56 ty56 rfl rfl) rfl ?_ | refine W.q (.ldbn 0 (.t rfl) rfl ag56 ty56 rfl) rfl ?_ | refine W.q (.ldbn 1 (.t rfl) rfl ag56 ty56 rfl) rfl ?_ | refine W.q (.ldbn 2 (.t rfl) rfl ag56 ty56 rfl) rfl ?_ | refine W.q (.ldbn 3 (.t rfl) rfl ag56 ty56 rfl) rfl ?_ | refine W.q (.ldbn 4 (.t rfl) rfl ag56 ty56 rfl) rfl ?_
 refine W.callp (c_Check (It.al s a) hok (by omega) (by omega)) ⟨(.t rfl), trivial⟩ rfl ?_; refine W.asg rfl rfl (.n (.h (.s (.r (.mv rfl rfl (.q (.nei (.t rfl) .k) rfl (.n (.h (.isb 31 false rfl (by rfl) (.condF (.t rfl) (.k (.h (.s (.r ?_))))))))))))))
 first | refine W.q (.lden (.t rfl) ag56 ty56 rfl rfl) rfl ?_ | refine W.q (.ldbn 0 (.t rfl) rfl ag56 ty56 rfl) rfl ?_ | refine W.q (.ldbn 1 (.t rfl) rfl ag56 ty56 rfl) rfl ?_ | refine W.q (.ldbn 2 (.t rfl) rfl ag56 ty56 rfl) rfl ?_ | refine W.q (.ldbn 3 (.t rfl) rfl ag56 ty56 rfl) rfl ?_ | refine W.q (.ldbn 4 (.t rfl) rfl ag56 ty56 rfl) rfl ?_
 first | refine W.stb 0 (.t rfl) (.t rfl) rfl ty56 rfl rfl rfl ?_ | refine W.stb 1 (.t rfl) (.t rfl) rfl ty56 rfl rfl rfl ?_ | refine W.stb 2 (.t rfl) (.t rfl) rfl ty56 rfl rfl rfl ?_ | refine W.stb 3 (.t rfl) (.t rfl) rfl ty56 rfl rfl rfl ?_ | refine W.stb 4 (.t rfl) (.t rfl) rfl ty56 rfl rfl rfl ?_
 refine W.q (.assign .k) rfl (.n (.h ?_)); refine W.ret ?_; refine W.retn (M' := []) (D := _) (rs := [.cell 2 56, .tmp 3]) (avs := [_, _]) Tryz.results23 ⟨⟨_, _, _, rfl, by first | exact List.mem_cons_self | exact List.mem_cons_of_mem _ List.mem_cons_self | exact List.mem_cons_of_mem _ (List.mem_cons_of_mem _ List.mem_cons_self) | exact List.mem_cons_of_mem _ (List.mem_cons_of_mem _ (List.mem_cons_of_mem _ List.mem_cons_self)) | exact List.mem_cons_of_mem _ (List.mem_cons_of_mem _ (List.mem_cons_of_mem _ (List.mem_cons_of_mem _ List.mem_cons_self))), rfl, by funext w; exact ag56.run w, by funext w; exact ty56.size w⟩, rfl, trivial⟩ rfl (.refl _) ?_
 exact ⟨rfl, rfl⟩
end WParse3
end Go.Proofs.YtphlkdbglpcikaaGreatDoor
end
section
namespace Go.Proofs.YtphlkdbglpcikaaGreatDoor
open Go.Vl
open Y
namespace WConts
theorem c_IndexFuncI (l : List Int) (g : Nat) (caps : List Value) (M0 : List ME) (p : Int → Bool) (hg : ∀ d ∈ l, FnC Tryz.prog g ([AV.int d] ++ caps.map .lit) M0 (fun r M => r = .bool (p d) ∧ M = M0)) (hn : l.length ≤ 1099511627776) : FnC Tryz.prog 91 [.sl 1 (l.map AV.int), .lit (.func (.func g) #[] caps.toArray)] M0 (fun r M => r = .int (idxI p l) ∧ M = M0) :=  by
 refine FnC.mk Tryz.func91 (by kernel_rfl) rfl Tryz.ntmps91 rfl (fun w0 F => ?_)
 have hnl : (l.map AV.int).length = l.length := List.length_map ..
 refine W.s (.r (.q (.assign .k) rfl (.n (.h (.s (.s (.r (.mv rfl rfl (.q (.lensl (.t rfl) Tryz.underlying22) rfl (.q (.move .k) rfl (.n (.h (.b ?_))))))))))))); refine W.loop (D := []) (ι := Nat) (fun i => [(8, true, .int (i : Int)), (7, true, .int ((l.map AV.int).length : Int)), (0, true, .sl 1 (l.map AV.int)), (1, true, .lit (.func (.func g) #[] caps.toArray))]) (fun _ => M0) (fun i => i ≤ l.length ∧ ∀ d ∈ l.take i, p d = false) (fun i => l.length - i) 0 ⟨rfl, rfl, rfl, rfl, trivial⟩ (List.Perm.of_eq (List.append_nil _).symm) ⟨Nat.zero_le _, by simp⟩ ?_
 rintro i ⟨hi1, hi2⟩
 dsimp only at hi1 hi2 ⊢
 rcases (show i < l.length ∨ i = l.length from by omega) with hlt | hend
 ·have hga := getD_mapG AV.int 0 l i hlt
  refine W.s (.r (.q (.lti (.t rfl) (.t rfl)) rfl (.n (.h (.s ?_))))); refine W.isb 9 true rfl (by simp; omega) ?_; refine W.condT (.t rfl) (.k (.h (.s (.b (.s (.r (.mv rfl rfl (.asg rfl rfl (.n (.h (.s (.r (.mv rfl rfl (.mv rfl rfl (.mv rfl rfl ?_))))))))))))))); refine W.q (.at (E := 3) (.t rfl) (.t rfl) Tryz.underlying22 ty3 (fun _ => ⟨by omega, hga⟩) rfl rfl) rfl ?_; refine W.q (.lde1 (.t rfl) ag3) rfl ?_; refine W.callv (caps := caps) (avs := [_]) (hg (l.getD i 0) (getD_memG 0 l i hlt)) (.t rfl) ⟨(.t rfl), trivial⟩ rfl ((List.Perm.of_eq (List.append_nil _).symm)) rfl ?_
  rintro _ M' ⟨rfl, hM⟩
  rw [hM, List.append_nil]
  refine W.n ?_; refine W.h ?_; refine W.cond (.t rfl) (fun hc_t16 => ?_) (fun hc_t16 => ?_)
  ·have hq := idxI_hit p 0 l i hlt hi2 hc_t16
   refine W.s (.r (.mv rfl rfl (.asg rfl rfl (.n (.h ?_))))); refine W.ret ?_; refine W.br (.hr (.hr (.br (.hr ?_)))); refine W.retn (M' := M0) (D := []) (rs := [.tmp 4]) (avs := [_]) Tryz.results91 ⟨rfl, trivial⟩ rfl (List.Perm.of_eq (List.append_nil _).symm) ?_
   exact ⟨congrArg AV.int (by rw [hq]), rfl⟩
  ·have hq : p (l.getD i 0) = false := hc_t16
   refine W.k (.bn (.h (.r (.q (.add (.t rfl) .k (fun _ => by omega)) rfl ?_))))
   refine W.q (.move (.t rfl)) rfl ?_; refine W.n ?_; refine W.h ?_; refine W.reach (D := []) (i + 1) ⟨rfl, rfl, rfl, rfl, trivial⟩ (List.Perm.of_eq (List.append_nil _).symm) ⟨⟨by omega, ?_⟩, by omega⟩
   rw [take_getDG 0 l i hlt]
   intro d hd
   cases List.mem_append.1 hd with
   | inl h => exact hi2 d h
   | inr h => rw [List.mem_singleton.1 h]; exact hq
 ·rw [List.take_of_length_le (by omega)] at hi2
  have hq := idxI_miss p l hi2
  refine W.s (.r (.q (.lti (.t rfl) (.t rfl)) rfl (.n (.h (.s ?_))))); refine W.isb 9 false rfl (by simp; omega) ?_; refine W.condF (.t rfl) (.ex (.he (.he (.bh (.h (.s (.r (.q (.assign .k) rfl (.n (.h ?_)))))))))); refine W.ret ?_; refine W.retn (M' := M0) (D := []) (rs := [.tmp 4]) (avs := [_]) Tryz.results91 ⟨rfl, trivial⟩ rfl (List.Perm.of_eq (List.append_nil _).symm) ?_
  exact ⟨congrArg AV.int (by rw [hq]), rfl⟩
theorem c_ContainsFuncI (l : List Int) (g : Nat) (caps : List Value) (M0 : List ME) (p : Int → Bool) (hg : ∀ d ∈ l, FnC Tryz.prog g ([AV.int d] ++ caps.map .lit) M0 (fun r M => r = .bool (p d) ∧ M = M0)) (hn : l.length ≤ 1099511627776) : FnC Tryz.prog 54 [.sl 1 (l.map AV.int), .lit (.func (.func g) #[] caps.toArray)] M0 (fun r M => r = .bool (l.any p) ∧ M = M0) :=  by
 refine FnC.mk Tryz.func54 (by kernel_rfl) rfl Tryz.ntmps54 rfl (fun w0 F => ?_)
 refine W.s (.r (.q (.assign .k) rfl (.n (.h (.s (.r (.mv rfl rfl (.mv rfl rfl ?_)))))))); refine W.call (c_IndexFuncI l g caps M0 p hg hn) ⟨(.t rfl), (.t rfl), trivial⟩ ((List.Perm.of_eq (List.append_nil _).symm)) rfl ?_
 rintro _ M' ⟨rfl, hM⟩
 rw [hM, List.append_nil]
 refine W.q (.gei (.t rfl) .k) rfl (.asg rfl rfl (.n (.h ?_))); refine W.ret ?_; refine W.retn (M' := M0) (D := []) (rs := [.tmp 4]) (avs := [_]) Tryz.results54 ⟨rfl, trivial⟩ rfl (List.Perm.of_eq (List.append_nil _).symm) ?_
 exact ⟨congrArg AV.bool (idxI_any p l), rfl⟩
end WConts
end Go.Proofs.YtphlkdbglpcikaaGreatDoor
end
section
namespace Go.Proofs.YtphlkdbglpcikaaGreatDoor
open Go.Vl
open Y
namespace WMay
end WMay
end Go.Proofs.YtphlkdbglpcikaaGreatDoor
end
section
namespace Go.Vl
namespace Au
def eqb (a b : Au) : Bool := decide (a.next = b.next) && decide (a.final = b.final)
end Au
namespace Lg
end Lg
namespace It
end It
end Go.Vl
end
section
namespace Go.Proofs.YtphlkdbglpcikaaGreatDoor
open Go.Vl
open Y
namespace WMakeA
theorem c_MakeA (s : List It) (a : List (List It)) (hs : It.oks s) (ha : It.oka a) (hl : (It.stx s ++ It.atl a).length ≤ 40) (hlv : It.snl s + It.anl a ≤ 6) (A : Au) (hA : A.Ord) (hAl : ∀ u, A.acc 0 u ↔ (Lg.alt (It.slg s) (It.alg a)) u) (hAn : A.next.length ≤ 32) (M0 : List ME) (hI : ∀ n : Int, -1 ≤ n → n < 100 → FnC Tryz.prog 107 [.int n] M0 (fun r M => r = .str (itoa n) ∧ M = M0)) : FnC Tryz.prog 24 [(It.al s a).avx] M0 (fun r M => r = .tup [.agg [.sl 1 (A.next.map pav), .sl 1 (A.final.map AV.bool)], .int 0] ∧ M = M0) :=  by
 refine FnC.mk Tryz.func24 (by kernel_rfl) rfl Tryz.ntmps24 rfl (fun w0 F => ?_)
 have hsz : ∀ d : Au, d.Ord → (∀ u, d.acc 0 u ↔ (Lg.alt (It.slg s) (It.alg a)) u) → d = A := fun d hd he => Au.Ord.unique hd hA fun u => (he u).trans (hAl u).symm
 have hok := It.al_ok s a hs ha
 have hlen := It.al_len s a hs ha
 have hxz := It.al_sz s a
 have hlva := It.lv_al s a
 have hlg := It.lg_al s a
 generalize It.al s a = x at *
 refine W.s ?_; refine W.r ?_; refine W.box (.t rfl) rfl rfl ?_; intro b1; refine W.alloc ty62 rfl rfl ?_; intro b2; refine W.q (.assign .k) rfl ?_; refine W.n ?_; refine W.h ?_; refine W.s ?_; refine W.s ?_; refine W.r ?_
 first | refine W.q (.lden (.t rfl) ag56 ty56 rfl rfl) rfl ?_ | refine W.q (.ldbn 0 (.t rfl) rfl ag56 ty56 rfl) rfl ?_ | refine W.q (.ldbn 1 (.t rfl) rfl ag56 ty56 rfl) rfl ?_ | refine W.q (.ldbn 2 (.t rfl) rfl ag56 ty56 rfl) rfl ?_ | refine W.q (.ldbn 3 (.t rfl) rfl ag56 ty56 rfl) rfl ?_ | refine W.q (.ldbn 4 (.t rfl) rfl ag56 ty56 rfl) rfl ?_ | refine W.q (.ldbn 5 (.t rfl) rfl ag56 ty56 rfl) rfl ?_
 refine W.callp (WParse3.c_Check x hok (by omega) (by omega)) ⟨(.t rfl), trivial⟩ rfl ?_; refine W.asg rfl rfl (.n (.h (.s (.r (.mv rfl rfl (.q (.nei (.t rfl) .k) rfl (.n (.h (.isb 8 false rfl (by rfl) (.condF (.t rfl) (.k (.h (.s (.r ?_))))))))))))))
 first | refine W.q (.lden (.t rfl) ag56 ty56 rfl rfl) rfl ?_ | refine W.q (.ldbn 0 (.t rfl) rfl ag56 ty56 rfl) rfl ?_ | refine W.q (.ldbn 1 (.t rfl) rfl ag56 ty56 rfl) rfl ?_ | refine W.q (.ldbn 2 (.t rfl) rfl ag56 ty56 rfl) rfl ?_ | refine W.q (.ldbn 3 (.t rfl) rfl ag56 ty56 rfl) rfl ?_ | refine W.q (.ldbn 4 (.t rfl) rfl ag56 ty56 rfl) rfl ?_ | refine W.q (.ldbn 5 (.t rfl) rfl ag56 ty56 rfl) rfl ?_
 refine W.call (WSets.c_sets x hok (by omega) (by omega)) ⟨(.t rfl), trivial⟩ (.refl _) rfl ?_
 rintro _ _ ⟨rfl, w, hwS, hwl, hwu, rfl⟩
 refine W.call (WOrder.c_order w hwS (by omega) M0 hI (fun d hd he => by rw [hsz d hd fun u => (he u).trans ((hwu u).trans (by rw [hlg]))]; omega)) ⟨(.t rfl), trivial⟩ ((List.perm_append_comm (l₁ := [_, _]))) rfl ?_
 rintro _ M' ⟨d, hd, hdu, rfl, hM'⟩
 rw [hM']
 refine W.perm (List.perm_append_comm (l₂ := [_, _])) ?_; refine W.q (.extract (.t rfl) rfl) rfl (.q (.extract (.t rfl) rfl) rfl ?_)
 first | refine W.stb 0 (.t rfl) (.t rfl) rfl ty62 rfl rfl rfl ?_ | refine W.stb 1 (.t rfl) (.t rfl) rfl ty62 rfl rfl rfl ?_ | refine W.stb 2 (.t rfl) (.t rfl) rfl ty62 rfl rfl rfl ?_ | refine W.stb 3 (.t rfl) (.t rfl) rfl ty62 rfl rfl rfl ?_ | refine W.stb 4 (.t rfl) (.t rfl) rfl ty62 rfl rfl rfl ?_ | refine W.stb 5 (.t rfl) (.t rfl) rfl ty62 rfl rfl rfl ?_
 refine W.asg rfl rfl (.n (.h ?_)); refine W.ret ?_; refine W.retn (M' := M0) (D := _) (rs := [.cell 2 62, .tmp 3]) (avs := [_, _]) Tryz.results24 ⟨⟨_, _, _, rfl, by repeat (first | exact List.mem_cons_self | apply List.mem_cons_of_mem), rfl, by funext w; exact ag62.run w, by funext w; exact ty62.size w⟩, rfl, trivial⟩ rfl (List.perm_append_comm (l₁ := [_, _])) ?_
 have hdu2 := fun u => (hdu u).trans ((hwu u).trans (by rw [hlg]))
 obtain rfl := hsz d hd hdu2
 exact ⟨rfl, rfl⟩
end WMakeA
end Go.Proofs.YtphlkdbglpcikaaGreatDoor
end
section
namespace Go.Proofs.YtphlkdbglpcikaaGreatDoor
open Go.Vl
open Y
namespace WMach
theorem c_m1 (x : Int) : FnP Tryz.prog 89 [.int x] (.bool (decide (0 ≤ x))) :=  by
 refine FnC.mk Tryz.func89 (by kernel_rfl) rfl Tryz.ntmps89 rfl (fun w0 F => ?_)
 refine W.s (.r (.q (.assign .k) rfl (.n (.h (.s (.r (.mv rfl rfl (.q (.gei (.t rfl) .k) rfl (.asg rfl rfl (.n (.h ?_))))))))))); refine W.ret ?_; refine W.retn (M' := []) (rs := [.tmp 2]) (avs := [_]) Tryz.results89 ⟨rfl, trivial⟩ rfl (.refl _) ?_
 exact ⟨rfl, rfl⟩
theorem c_machine (s : List It) (a : List (List It)) (hs : It.oks s) (ha : It.oka a) (t : List UInt8) (e : t = It.stx s ++ It.atl a) (hl : t.length ≤ 40) (hlv : It.snl s + It.anl a ≤ 6) (A : Au) (hA : A.Ord) (hAl : ∀ u, A.acc 0 u ↔ (Lg.alt (It.slg s) (It.alg a)) u) (hAn : A.next.length ≤ 32) (n : Nat) (hn : n ≤ 8) (c : Int) (hc : -1 ≤ c ∧ c < 8) (hf : Sch.fine A n c = true) (M0 : List ME) (hI : ∀ n : Int, -1 ≤ n → n < 100 → FnC Tryz.prog 107 [.int n] M0 (fun r M => r = .str (itoa n) ∧ M = M0)) : FnC Tryz.prog 51 [.str t, .int (n : Int), .int c] M0 (fun r M => r = .tup [.agg [.sl 1 (A.next.map pav), .sl 1 (A.final.map AV.bool)], .int 0] ∧ M = M0) :=  by
 refine FnC.mk Tryz.func51 (by kernel_rfl) rfl Tryz.ntmps51 rfl (fun w0 F => ?_)
 subst e
 have hMk := WMakeA.c_MakeA s a hs ha hl hlv A hA hAl hAn M0 hI
 have hPs := WParse3.c_Parse s a hs ha hl
 generalize It.al s a = x at hMk hPs
 have hsh := hA.shape
 have hnl : (A.next.map pav).length = A.next.length := List.length_map ..
 refine W.s ?_; refine W.r ?_; refine W.alloc ty62 rfl rfl ?_; intro b6; refine W.q (.assign .k) rfl ?_; refine W.n ?_; refine W.h ?_; refine W.s ?_; refine W.r ?_; refine W.q (.move (.t rfl)) rfl ?_; refine W.callp (hPs) ⟨(.t rfl), trivial⟩ rfl ?_; refine W.q (.move (.t rfl)) rfl ?_; refine W.q (.extract (.t rfl) rfl) rfl ?_; refine W.q (.extract (.t rfl) rfl) rfl ?_; refine W.alloc ty56 rfl rfl ?_; intro b8
 refine W.stb 0 (.t rfl) (.t rfl) rfl ty56 rfl rfl rfl (.asg rfl rfl (.n (.h (.s (.s (.r (.mv rfl rfl (.q (.nei (.t rfl) .k) rfl (.n (.h (.isb 21 false rfl (by rfl) (.condF (.t rfl) (.k (.h (.s (.r (.q (.ldbn 0 (.t rfl) rfl ag56 ty56 rfl) rfl ?_))))))))))))))))); refine W.call (hMk) ⟨(.t rfl), trivial⟩ ((List.perm_append_comm (l₁ := [_, _]))) rfl ?_
 rintro _ M' ⟨rfl, hM'⟩
 rw [hM']
 refine W.perm (List.perm_append_comm (l₂ := [_, _])) ?_; refine W.q (.move (.t rfl)) rfl ?_; refine W.q (.extract (.t rfl) rfl) rfl ?_; refine W.q (.extract (.t rfl) rfl) rfl ?_; refine W.alloc ty62 rfl rfl ?_; intro b10
 refine W.stb 0 (.t rfl) (.t rfl) rfl ty62 rfl rfl rfl (.asg rfl rfl (.n (.h (.s (.s (.r (.mv rfl rfl (.q (.nei (.t rfl) .k) rfl (.n (.h (.isb 29 false rfl (by rfl) (.condF (.t rfl) (.k (.h (.s (.s (.r (.q (.fab (.t rfl) fa62_0) rfl (.q (.ldb1 0 (.t rfl) rfl ag59 rfl) rfl (.q (.lensl (.t rfl) Tryz.underlying59) rfl ?_))))))))))))))))))))
 refine W.q (.move .k) rfl ?_; refine W.n ?_; refine W.h ?_; refine W.b ?_; refine W.loop (D := []) (ι := Nat) (fun i => [(34, true, .int (i : Int)), (33, true, .int ((A.next.map pav).length : Int)), (32, true, .sl 1 (A.next.map pav)), (10, true, .lit (.pointer (some ⟨b10, 0, none⟩))), (1, true, .int (n : Int)), (2, true, .int c), (6, true, .lit (.pointer (some ⟨b6, 0, none⟩)))]) (fun i => .box b10 62 [.sl 1 (A.next.map pav), .sl 1 (A.final.map AV.bool)] :: .box b8 56 x.avx.cells :: .box b6 62 [.lit (.slice none 0 0), .lit (.slice none 0 0)] :: M0) (fun i => i ≤ A.next.length) (fun i => A.next.length - i) 0 ⟨rfl, rfl, rfl, rfl, rfl, rfl, rfl, trivial⟩ (by ((rw [List.append_nil]; exact .refl _))) (Nat.zero_le _) ?_; intro i hi
 dsimp only at hi ⊢
 rcases (show i < A.next.length ∨ i = A.next.length from by omega) with hlt | hend
 ·have hgr := getD_mapG pav [] A.next i hlt
  have hrm := getD_memG [] A.next i hlt
  have hr8 := hsh.mem_row _ hrm
  generalize A.next.getD i [] = r at hgr hrm hr8
  refine W.s (.r (.q (.lti (.t rfl) (.t rfl)) rfl (.n (.h (.s ?_))))); refine W.isb 35 true rfl (by exact decide_eq_true (by omega)) ?_; refine W.condT (.t rfl) (.k (.h (.s (.b (.s (.r ?_)))))); refine W.q (.at (E := 22) (.t rfl) (.t rfl) Tryz.underlying59 ty22 (fun _ => ⟨by omega, hgr⟩) rfl rfl) rfl ?_; refine W.q (.lde1 (.t rfl) ag22) rfl (.asg rfl rfl (.n (.h (.s (.r (.mv rfl rfl (.mv rfl rfl ?_))))))); refine W.q (.dropsl (n := n) (.t rfl) Tryz.underlying22 ty3 (.t rfl) (by (omega)) (fun _ => by omega)) rfl ?_; refine W.is (t := 40) (av' := .sl 1 ((r.drop n).map AV.int)) rfl (congrArg (AV.sl 1) (by rw [List.map_drop])) ?_; refine W.call (WConts.c_ContainsFuncI (r.drop n) 89 [] [] (fun x => decide (0 ≤ x)) (fun x _ => c_m1 x) (by rw [List.length_drop]; omega)) ⟨(.t rfl), .f, trivial⟩ (.refl _) rfl ?_
  rintro _ _ ⟨rfl, rfl⟩
  rw [Sch.fine1 hf hrm]
  refine W.n (.h (.condF (.t rfl) (.k (.bn (.h (.r (.q (.add (.t rfl) .k (fun _ => by omega)) rfl ?_)))))))
  refine W.q (.move (.t rfl)) rfl ?_; refine W.n ?_; refine W.h ?_; refine W.reach (D := []) (i + 1) ⟨rfl, rfl, rfl, rfl, rfl, rfl, rfl, trivial⟩ (by ((rw [List.append_nil]; exact .refl _))) ⟨hlt, by show A.next.length - (i + 1) < A.next.length - i; omega⟩
 ·skip
  refine W.s (.r (.q (.lti (.t rfl) (.t rfl)) rfl (.n (.h (.s ?_))))); refine W.isb 35 false rfl (by exact decide_eq_false (by omega)) ?_; refine W.condF (.t rfl) (.ex (.he (.he (.bh (.h (.s (.s (.r (.q (.fab (.t rfl) fa62_0) rfl (.q (.ldb1 0 (.t rfl) rfl ag59 rfl) rfl (.q (.lensl (.t rfl) Tryz.underlying59) rfl (.q (.move .k) rfl (.n (.h (.b ?_))))))))))))))); refine W.loop (D := []) (ι := Nat) (fun i => [(47, true, .int (i : Int)), (46, true, .int ((A.next.map pav).length : Int)), (45, true, .sl 1 (A.next.map pav)), (10, true, .lit (.pointer (some ⟨b10, 0, none⟩))), (2, true, .int c), (6, true, .lit (.pointer (some ⟨b6, 0, none⟩)))]) (fun i => .box b10 62 [.sl 1 (A.next.map pav), .sl 1 (A.final.map AV.bool)] :: .box b8 56 x.avx.cells :: .box b6 62 [.lit (.slice none 0 0), .lit (.slice none 0 0)] :: M0) (fun i => i ≤ A.next.length) (fun i => A.next.length - i) 0 ⟨rfl, rfl, rfl, rfl, rfl, rfl, trivial⟩ (by ((rw [List.append_nil]; done))) (Nat.zero_le _) ?_
  clear hi hend
  intro i hi
  dsimp only at hi ⊢
  rcases (show i < A.next.length ∨ i = A.next.length from by omega) with hlt | hend
  ·have hgr := getD_mapG pav [] A.next i hlt
   have hrm := getD_memG [] A.next i hlt
   have hr8 := hsh.mem_row _ hrm
   have hent := hsh.mem_ent _ hrm
   generalize A.next.getD i [] = r at hgr hrm hr8 hent
   have hgc : 0 ≤ c → (r.map AV.int)[c.toNat]? = some (AV.int (r.getD c.toNat (-1))) := fun h => by
    have h8 : c.toNat < r.length := by omega
    rw [List.getElem?_map, List.getD_eq_getElem?_getD, List.getElem?_eq_getElem h8]; rfl
   have hrc : -1 ≤ r.getD c.toNat (-1) ∧ r.getD c.toNat (-1) < A.next.length := by
    rcases Nat.lt_or_ge c.toNat r.length with h8 | h8
    ·exact hent _ (getD_memG (-1) r c.toNat h8)
    ·rw [List.getD_eq_getElem?_getD, List.getElem?_eq_none h8]; have := hsh.pos; simp; omega
   obtain ⟨rc, hrce⟩ : ∃ z, r.getD c.toNat (-1) = z := ⟨_, rfl⟩
   have hfin := fun h => Sch.fine2 hf h hrm
   rw [hrce] at hgc hrc hfin
   have hgn : 0 ≤ rc → (A.next.map pav)[rc.toNat]? = some (pav (A.next.getD rc.toNat [])) := fun h => getD_mapG pav [] A.next rc.toNat (by omega)
   have hgd : 0 ≤ c ∧ 0 ≤ rc → ((A.next.getD rc.toNat []).map AV.int)[c.toNat]? = some (AV.int ((A.next.getD rc.toNat []).getD c.toNat (-1))) := fun h => by
    have h8 := hsh.mem_row _ (getD_memG [] A.next rc.toNat (by omega))
    have h9 : c.toNat < (A.next.getD rc.toNat []).length := by omega
    generalize A.next.getD rc.toNat [] = q at h9
    rw [List.getElem?_map, List.getD_eq_getElem?_getD, List.getElem?_eq_getElem h9]; rfl
   refine W.s (.r (.q (.lti (.t rfl) (.t rfl)) rfl (.n (.h (.s ?_))))); refine W.isb 48 true rfl (by exact decide_eq_true (by omega)) ?_; refine W.condT (.t rfl) (.k (.h (.s (.b (.s (.r ?_)))))); refine W.q (.at (E := 22) (.t rfl) (.t rfl) Tryz.underlying59 ty22 (fun _ => ⟨by omega, hgr⟩) rfl rfl) rfl ?_; refine W.q (.lde1 (.t rfl) ag22) rfl (.asg rfl rfl (.n (.h (.s ?_)))); refine W.drawn (by kernel_rfl) (by kernel_rfl) ?_; refine DP.q (.move (.t rfl)) rfl (.q (.gei (.t rfl) .k) rfl (.q (.move (.t rfl)) rfl (.qgT rfl rfl (.move (.t rfl)) rfl (.qgT rfl rfl (.move (.t rfl)) rfl ?_)))); refine DP.qgT rfl rfl (.at (E := 3) (.c rfl) (.c rfl) Tryz.underlying22 ty3 (fun hg => ⟨by have := of_decide_eq_true hg; omega, hgc (of_decide_eq_true hg)⟩) rfl rfl) rfl ?_; refine DP.qgT rfl rfl (.lde1 (.c rfl) ag3) rfl (.qgT rfl rfl (.gei (.c rfl) .k) rfl ?_); refine DP.q (.and (.t rfl) ⟨_, _, rfl, rfl, by ((simp; done))⟩) rfl ?_; refine DP.q (.move (.t rfl)) rfl (.qgT rfl rfl (.fab (.t rfl) fa62_0) rfl (.qgT rfl rfl (.ldb1 0 (.c rfl) rfl ag59 rfl) rfl (.qgT rfl rfl (.move (.t rfl)) rfl (.qgT rfl rfl (.move (.t rfl)) rfl ?_)))); refine DP.qgT rfl rfl (.at (E := 3) (.c rfl) (.c rfl) Tryz.underlying22 ty3 (fun hg => ⟨by simp at hg; omega, hgc (by simp at hg; omega)⟩) rfl rfl) rfl ?_; refine DP.qgT rfl rfl (.lde1 (.c rfl) ag3) rfl ?_; refine DP.qgT rfl rfl (.at (E := 22) (.c rfl) (.c rfl) Tryz.underlying59 ty22 (fun hg => ⟨by simp at hg; omega, hgn (by simp at hg; omega)⟩) rfl rfl) rfl ?_; refine DP.qgT rfl rfl (.lde1 (.c rfl) ag22) rfl (.qgT rfl rfl (.move (.t rfl)) rfl ?_); refine DP.qgT rfl rfl (.at (E := 3) (.c rfl) (.c rfl) Tryz.underlying22 ty3 (fun hg => ⟨by simp at hg; omega, hgd (by simp at hg; omega)⟩) rfl rfl) rfl ?_; refine DP.qgT rfl rfl (.lde1 (.c rfl) ag3) rfl ?_
   refine DP.qgT rfl rfl (.gei (.c rfl) .k) rfl ?_; refine DP.q (.and (.t rfl) ⟨_, _, rfl, rfl, by ((simp; done))⟩) rfl ?_; refine DP.nil ?_; refine W.h ?_; refine W.isb 73 false rfl (by refine Bool.eq_false_iff.2 ?_; intro h; simp only [Bool.and_eq_true, decide_eq_true_eq] at h; rcases hfin h.1.1 with h2 | h2 <;> omega) ?_; refine W.condF (.t rfl) ?_; refine W.k ?_; refine W.bn ?_; refine W.h ?_; refine W.r ?_
   refine W.q (.add (.t rfl) .k (fun _ => by omega)) rfl ?_
   refine W.q (.move (.t rfl)) rfl ?_; refine W.n ?_; refine W.h ?_; refine W.reach (D := []) (i + 1) ⟨rfl, rfl, rfl, rfl, rfl, rfl, trivial⟩ (by ((rw [List.append_nil]; done))) ⟨hlt, by show A.next.length - (i + 1) < A.next.length - i; omega⟩
  ·skip
   refine W.s (.r (.q (.lti (.t rfl) (.t rfl)) rfl (.n (.h (.s ?_))))); refine W.isb 48 false rfl (by exact decide_eq_false (by omega)) ?_; refine W.condF (.t rfl) (.ex (.he (.he (.bh (.h (.s (.r (.q (.ldbn 0 (.t rfl) rfl ag62 ty62 rfl) rfl (.stb 2 (.t rfl) (.t rfl) rfl ty62 rfl rfl rfl (.q (.assign .k) rfl (.n (.h ?_)))))))))))); refine W.ret ?_; refine W.retn (M' := M0) (D := _) (rs := [.cell 6 62, .tmp 7]) (avs := [_, _]) Tryz.results51 ⟨⟨_, _, _, rfl, by repeat (first | exact List.mem_cons_self | apply List.mem_cons_of_mem), rfl, by funext w; exact ag62.run w, by funext w; exact ty62.size w⟩, rfl, trivial⟩ rfl (List.perm_append_comm (l₁ := [_, _, _])) ?_
   exact ⟨rfl, rfl⟩
end WMach
end Go.Proofs.YtphlkdbglpcikaaGreatDoor
end
