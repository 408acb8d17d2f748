/-
  Merged: WNorm WBld WStr WKey WFmt WState WHas Pick WLink WAdd.
-/
import Derived.Test.YtphlkdbglpcikaaGreatDoorG7
set_option linter.unusedVariables false
set_option linter.unusedSimpArgs false
set_option maxRecDepth 100000

section
namespace Go.Proofs.YtphlkdbglpcikaaGreatDoor
open Go.Vl
open Y
namespace WNorm
theorem c_Values (v : Value) (es : List AV) : FnC Tryz.prog 73 [.lit v] [.arr v 3 1 es] (fun r M => ∃ b, r = .lit (.func (.func 105) #[] #[.pointer (some ⟨b, 0, none⟩)]) ∧ M = [.box b 22 [.lit v], .arr v 3 1 es]) :=  by
 refine FnC.mk Tryz.func73 (by kernel_rfl) rfl Tryz.ntmps73 rfl (fun w0 F => ?_)
 refine W.arr_inv 0 rfl (fun a9 n9 c9 h9 => ?_)
 subst h9
 refine W.s ?_; refine W.r ?_; refine W.box (.t rfl) rfl rfl ?_; intro b1; refine W.q (.assign .k) rfl ?_; refine W.n ?_; refine W.h ?_; refine W.s ?_; refine W.r ?_; refine W.q (.mkfn (caps := [.tmp 1]) (vs := [_]) ⟨(.t rfl), trivial⟩) rfl ?_; refine W.q (.assign (.t rfl)) rfl ?_; refine W.n ?_; refine W.h ?_; refine W.ret ?_; refine W.retn (M' := [_, _]) (D := []) (rs := [.tmp 2]) (avs := [_]) Tryz.results73 ⟨rfl, trivial⟩ rfl (.refl _) ?_
 exact ⟨b1, rfl, rfl⟩
theorem c_Sorted (b : Nat) (v : Value) (l : List Int) (hl : l.length ≤ 1048576) : FnC Tryz.prog 72 [.lit (.func (.func 105) #[] #[.pointer (some ⟨b, 0, none⟩)])] [.box b 22 [.lit v], .arr v 3 1 (l.map AV.int)] (fun r M => ∃ v', r = .lit v' ∧ M = .arr v' 3 1 ((srt l).map AV.int) :: [.box b 22 [.lit v], .arr v 3 1 (l.map AV.int)]) := by
 refine FnC.belowRow (l := srt l) (CallOk.of Tryz.func72 (by kernel_rfl) (by kernel_rfl)) fun w F vs hF hm ha => ?_
 simp only [RepT] at ha
 obtain ⟨v0, _, rfl, ⟨hs0, hr0⟩, rfl⟩ := ha
 have e0 : v0 = _ := Rep.lit_iff.1 (show Rep w _ (.lit (.func (.func 105) #[] #[.pointer (some ⟨b, 0, none⟩)])) v0 from ⟨hs0, hr0⟩)
 subst e0
 obtain ⟨cur, hc, hrl⟩ := hm.holds _ List.mem_cons_self
 have hcv : cur.toList = [v] := by
  simp only [RepL] at hrl
  obtain ⟨u, us, e, ⟨h1, h2, h3⟩, rfl⟩ := hrl
  have : u = v := lit_cell h1 h3
  rw [e, this]
 have hcell : w.cell? ⟨b, 0, none⟩ = some v := by
  rw [cell_of hc, ← Array.getElem?_toList, hcv]; rfl
 have hI : WSeq.Ints w.heap.size w v l := by
  obtain ⟨ad, cap, rfl, h1, h2, h3⟩ := hm.holds (.arr v 3 1 (l.map AV.int)) (List.mem_cons_of_mem _ List.mem_cons_self)
  rw [List.length_map] at *
  rcases h3 with ⟨rfl, h3⟩ | ⟨g, off, cu, lo, hi, rfl, hg, hsz, hfr, he⟩
  ·have : l = [] := List.eq_nil_of_length_eq_zero (by omega)
   subst this
   exact .inl ⟨_, _, rfl, rfl⟩
  ·refine .inr ⟨g, off, cap, rfl, heap_lt hg, fun j hj => ?_⟩
   have hti := RepE.toInts he
   have h5 : ((cu.toList.drop off).take l.length)[j]? = (l.map (Value.int .i64))[j]? := by rw [hti]
   rw [List.getElem?_take_of_lt hj, List.getElem?_drop, Array.getElem?_toList] at h5
   rw [cell_of hg, h5]; simp [hj]
 have h := WSeq.sorted b v l (by have : (1048576 : Nat) ≤ maxLen := by decide
                                 omega) (by omega) w hcell (heap_lt hc) hI
 rw [← srt_len l] at h
 exact h
theorem c_Compact (v : Value) (l : List Int) (hs : l.Pairwise (· ≤ ·)) (hl : l.length ≤ 1048576) : FnC Tryz.prog 71 [.lit v] [.arr v 3 1 (l.map AV.int)] (fun r M => ∃ v', r = .lit v' ∧ M = [.arr v' 3 1 ((Go.Lib.compact l).map AV.int)]) := by
 have hcl := compact_len l hs
 have h := FnC.row (P := Tryz.prog) (f := 71) (I := 3) (v := v) (l := l) (CallOk.of Tryz.func71 (by kernel_rfl) (by kernel_rfl)) (Go.Lib.compact l ++ List.replicate (l.length - (Go.Lib.compact l).length) 0) (by rw [List.length_append, List.length_replicate]; omega) (Go.Lib.compact l).length hcl (fun ad cap => .slice ad (Go.Lib.compact l).length cap)
  (fun h0 ad cap w => by subst h0; exact Go.Proofs.Tryz.slices_Compact_int_empty ad cap w)
  (fun _ g off cap w hH hg h1 h2 => (Go.Proofs.Tryz.slices_Compact_int g off cap l w hH (by omega) h1).mono fun e w' ⟨he, q, hw⟩ => ⟨he, q, #[], by rw [hw, Go.Sort.grow_empty]⟩)
 refine h.mono ?_
 rintro r M ⟨ad, cap, hv, rfl, rfl⟩
 refine ⟨_, rfl, ?_⟩
 rw [List.take_append_of_le_length (Nat.le_refl _), List.take_length]
theorem c_Itoa0 (n : Int) (h0 : 0 ≤ n) (h1 : n < 100) (M0 : List ME) : FnC Tryz.prog 107 [.int n] M0 (fun r M => r = .str (itoa n) ∧ M = M0) := by
 refine FnC.belowM (CallOk.of Tryz.func107 (by kernel_rfl) (by kernel_rfl)) fun w F vs hm ha => ?_
 simp only [RepT] at ha
 obtain ⟨v0, _, rfl, ⟨hs0, hr0⟩, rfl⟩ := ha
 have e0 : v0 = _ := Rep.lit_iff.1 (show Rep w _ (.int n) v0 from ⟨hs0, hr0⟩)
 subst e0
 obtain ⟨i, rfl⟩ : ∃ i : Nat, n = (i : Int) := ⟨n.toNat, by omega⟩
 refine (Go.Proofs.Tryz.strconv_Itoa_small i (by omega) w).mono ?_
 rintro e w' ⟨he, hw⟩
 subst hw
 refine ⟨_, he, ?_, Go.RowKit.Below.refl _ _⟩
 rw [← itoa_lib _ (by omega) h1, Go.Lib.itoa, if_neg (by omega), Int.toNat_natCast]
 exact Rep.lit _
theorem c_ItoaT (T0 : TypeId) (n : Int) (h0 : -1 ≤ n) (h1 : n < 100) : FnC Tryz.prog 107 [.int n] [.box 1 T0 (Go.Lib.pow10Tab.map fun z => AV.lit (.int .u64 z))] (fun r M => r = .str (itoa n) ∧ M = [.box 1 T0 (Go.Lib.pow10Tab.map fun z => AV.lit (.int .u64 z))]) := by
 refine FnC.belowM (CallOk.of Tryz.func107 (by kernel_rfl) (by kernel_rfl)) fun w F vs hm ha => ?_
 simp only [RepT] at ha
 obtain ⟨v0, _, rfl, ⟨hs0, hr0⟩, rfl⟩ := ha
 have e0 : v0 = _ := Rep.lit_iff.1 (show Rep w _ (.int n) v0 from ⟨hs0, hr0⟩)
 subst e0
 obtain ⟨cur, hc, hrl⟩ := hm.holds _ List.mem_cons_self
 have hrow : ∀ (zs : List Int) (row : List Value), RepL w (bl [.box 1 T0 (Go.Lib.pow10Tab.map fun z => AV.lit (.int .u64 z))] ++ F) (zs.map fun z => AV.lit (.int .u64 z)) row → row = zs.map fun z => Value.int .u64 z := by
  intro zs
  induction zs with
  | nil => intro row h; simpa [RepL] using h
  | cons z zs ih =>
   intro row h
   simp only [List.map_cons, RepL] at h
   obtain ⟨u, us, rfl, ⟨h1, h2, h3⟩, h4⟩ := h
   have hu : u = .int .u64 z := lit_cell h1 h3
   rw [hu, List.map_cons, ih us h4]
 have htab : Go.Lib.TabIs Tryz.prog w "internal/strconv.uint64pow10" .u64 Go.Lib.pow10Tab := by
  have hg : Tryz.prog.globalNamed "internal/strconv.uint64pow10" = some 1 := by kernel_rfl
  unfold Go.Lib.TabIs World.var?
  rw [hg, Option.bind_some, hc]
  show some cur = _
  congr 1
  exact Array.toList_inj.1 (by rw [hrow _ _ hrl])
 refine (Go.Proofs.Tryz.strconv_Itoa n (by omega) (by omega) w htab).mono ?_
 rintro e w' ⟨he, k, os, hw⟩
 subst hw
 refine ⟨_, he, ?_, ⟨rfl, rfl, rfl, by simp [Go.Sort.grow], fun j hj => (Go.Sort.heap_grow_old (w.drewN k) os hj).trans rfl⟩⟩
 rw [itoa_lib n h0 h1]
 exact Rep.lit _
end WNorm
end Go.Proofs.YtphlkdbglpcikaaGreatDoor
end
section
namespace Go.Proofs.YtphlkdbglpcikaaGreatDoor
open Go.Vl
open Y
namespace WBld
theorem c_ccNew (b : Nat) (s : Value) : FnC Tryz.prog 125 [.lit (.pointer (some ⟨b, 0, none⟩))] [.box b 177 [.lit (.pointer none), .lit s]] (fun r M => r = .tup [] ∧ M = [.box b 177 [.lit (.pointer (some ⟨b, 0, none⟩)), .lit s]]) :=  by
 refine FnC.mk Tryz.func125 (by kernel_rfl) rfl Tryz.ntmps125 rfl (fun w0 F => ?_)
 refine W.s (.r (.mv rfl rfl (.q (.nilc (.t rfl)) rfl ?_)))
 first | refine W.q (.fae (.t rfl) fa177_0 rfl) rfl ?_ | refine W.q (.fab (.t rfl) fa177_0) rfl ?_ | refine W.q (.faa (.t rfl) fa177_0) rfl ?_
 first | refine W.q (.lde1 (.t rfl) ag174) rfl ?_ | refine W.q (.ldb1 0 (.t rfl) rfl ag174 rfl) rfl ?_ | refine W.q (.ldb1 1 (.t rfl) rfl ag174 rfl) rfl ?_ | refine W.q (.ldb1 2 (.t rfl) rfl ag174 rfl) rfl ?_ | refine W.q (.ldb1 3 (.t rfl) rfl ag174 rfl) rfl ?_
 refine W.q (.eqpn (.t rfl) Tryz.underlying174) rfl (.n (.h (.isb 6 true rfl (by rfl) (.condT (.t rfl) (.r (.mv rfl rfl (.mv rfl rfl ?_)))))))
 first | refine W.q (.touns 0 (.t rfl) rfl Tryz.underlying174 Tryz.underlying217 ty177) rfl ?_ | refine W.q (.touns 1 (.t rfl) rfl Tryz.underlying174 Tryz.underlying217 ty177) rfl ?_ | refine W.q (.touns 2 (.t rfl) rfl Tryz.underlying174 Tryz.underlying217 ty177) rfl ?_ | refine W.q (.touns 3 (.t rfl) rfl Tryz.underlying174 Tryz.underlying217 ty177) rfl ?_
 refine W.q (.noesc Tryz.func145 (by kernel_rfl) (by kernel_rfl) (by kernel_rfl) (by kernel_rfl) (.t rfl)) rfl ?_
 first | refine W.q (.fromuns 0 (.t rfl) rfl Tryz.underlying217 Tryz.underlying174 ty177 (by kernel_rfl)) rfl ?_ | refine W.q (.fromuns 1 (.t rfl) rfl Tryz.underlying217 Tryz.underlying174 ty177 (by kernel_rfl)) rfl ?_ | refine W.q (.fromuns 2 (.t rfl) rfl Tryz.underlying217 Tryz.underlying174 ty177 (by kernel_rfl)) rfl ?_ | refine W.q (.fromuns 3 (.t rfl) rfl Tryz.underlying217 Tryz.underlying174 ty177 (by kernel_rfl)) rfl ?_
 refine W.q (.nilc (.t rfl)) rfl ?_
 first | refine W.q (.fae (.t rfl) fa177_0 rfl) rfl ?_ | refine W.q (.fab (.t rfl) fa177_0) rfl ?_ | refine W.q (.faa (.t rfl) fa177_0) rfl ?_
 first | refine W.stb 0 (.t rfl) (.t rfl) rfl ty174 rfl rfl rfl ?_ | refine W.stb 1 (.t rfl) (.t rfl) rfl ty174 rfl rfl rfl ?_ | refine W.stb 2 (.t rfl) (.t rfl) rfl ty174 rfl rfl rfl ?_ | refine W.stb 3 (.t rfl) (.t rfl) rfl ty174 rfl rfl rfl ?_
 refine W.n ?_; refine W.endn (M' := [.box b 177 _]) (rs := []) (avs := []) Tryz.results125 trivial rfl (.refl _) ?_
 exact ⟨rfl, rfl⟩
theorem c_ccUsed (b : Nat) (s : Value) : FnC Tryz.prog 125 [.lit (.pointer (some ⟨b, 0, none⟩))] [.box b 177 [.lit (.pointer (some ⟨b, 0, none⟩)), .lit s]] (fun r M => r = .tup [] ∧ M = [.box b 177 [.lit (.pointer (some ⟨b, 0, none⟩)), .lit s]]) :=  by
 refine FnC.mk Tryz.func125 (by kernel_rfl) rfl Tryz.ntmps125 rfl (fun w0 F => ?_)
 refine W.s (.r (.mv rfl rfl (.q (.nilc (.t rfl)) rfl ?_)))
 first | refine W.q (.fae (.t rfl) fa177_0 rfl) rfl ?_ | refine W.q (.fab (.t rfl) fa177_0) rfl ?_ | refine W.q (.faa (.t rfl) fa177_0) rfl ?_
 first | refine W.q (.lde1 (.t rfl) ag174) rfl ?_ | refine W.q (.ldb1 0 (.t rfl) rfl ag174 rfl) rfl ?_ | refine W.q (.ldb1 1 (.t rfl) rfl ag174 rfl) rfl ?_ | refine W.q (.ldb1 2 (.t rfl) rfl ag174 rfl) rfl ?_ | refine W.q (.ldb1 3 (.t rfl) rfl ag174 rfl) rfl ?_
 refine W.q (.eqpn (.t rfl) Tryz.underlying174) rfl (.n (.h (.isb 6 false rfl (by rfl) (.condF (.t rfl) (.s (.r (.mv rfl rfl (.q (.nilc (.t rfl)) rfl ?_))))))))
 first | refine W.q (.fae (.t rfl) fa177_0 rfl) rfl ?_ | refine W.q (.fab (.t rfl) fa177_0) rfl ?_ | refine W.q (.faa (.t rfl) fa177_0) rfl ?_
 first | refine W.q (.lde1 (.t rfl) ag174) rfl ?_ | refine W.q (.ldb1 0 (.t rfl) rfl ag174 rfl) rfl ?_ | refine W.q (.ldb1 1 (.t rfl) rfl ag174 rfl) rfl ?_ | refine W.q (.ldb1 2 (.t rfl) rfl ag174 rfl) rfl ?_ | refine W.q (.ldb1 3 (.t rfl) rfl ag174 rfl) rfl ?_
 refine W.mv rfl rfl (.q (.nep (.t rfl) (.t rfl) Tryz.underlying174 ty177) rfl (.n (.h (.condF (.t rfl) (.k ?_))))); refine W.endn (M' := [.box b 177 _]) (rs := []) (avs := []) Tryz.results125 trivial rfl (.refl _) ?_
 exact ⟨rfl, rfl⟩
theorem c_copyCheck (b : Nat) (s : Value) (p : Option Addr) (hp : p = none ∨ p = some ⟨b, 0, none⟩) : FnC Tryz.prog 125 [.lit (.pointer (some ⟨b, 0, none⟩))] [.box b 177 [.lit (.pointer p), .lit s]] (fun r M => r = .tup [] ∧ M = [.box b 177 [.lit (.pointer (some ⟨b, 0, none⟩)), .lit s]]) := by
 rcases hp with rfl | rfl
 ·exact c_ccNew b s
 ·exact c_ccUsed b s
theorem c_String (b : Nat) (p : Option Addr) (v : Value) (l : List UInt8) (hp : p = none ∨ p = some ⟨b, 0, none⟩) (hl : l.length ≤ 17592186044416) (hv : v = .slice none 0 0 ∨ l ≠ []) : FnC Tryz.prog 108 [.lit (.pointer (some ⟨b, 0, none⟩))] [.box b 177 [.lit (.pointer p), .lit v], .arr v 5 1 (l.map AV.u8)] (fun r M => r = .str l ∧ M = []) :=  by
 refine FnC.mk Tryz.func108 (by kernel_rfl) rfl Tryz.ntmps108 rfl (fun w0 F => ?_)
 have hlm : (l.map AV.u8).length = l.length := List.length_map ..
 have hve : v = .slice none 0 0 ∨ l.map AV.u8 ≠ [] := hv.imp id (fun h h2 => h (List.map_eq_nil_iff.1 h2))
 refine W.s (.r (.q (.assign .k) rfl (.n (.h (.s ?_))))); refine W.drawnE (ι := Unit) (fun e c => [.box b 177 [.lit (.pointer p), .lit v], .arr (bif e 10 then deadOf v else v) 5 1 (bif e 10 then [] else l.map AV.u8)]) 10 () (by kernel_rfl) (by kernel_rfl) rfl ?_; refine DE.q (fun e c hk => (.move (.t rfl))) rfl (fun _ _ => rfl) (by first | exact .inr (fun _ _ => rfl) | exact .inl (by kernel_rfl)) ?_; refine DE.q (fun e c hk => (.nilc (.t rfl))) rfl (fun _ _ => rfl) (by first | exact .inr (fun _ _ => rfl) | exact .inl (by kernel_rfl)) ?_
 first | refine DE.q (fun e c hk => (.fae (.t rfl) fa177_1 rfl)) rfl (fun _ _ => rfl) (by first | exact .inr (fun _ _ => rfl) | exact .inl (by kernel_rfl)) ?_ | refine DE.q (fun e c hk => (.fab (.t rfl) fa177_1)) rfl (fun _ _ => rfl) (by first | exact .inr (fun _ _ => rfl) | exact .inl (by kernel_rfl)) ?_ | refine DE.q (fun e c hk => (.faa (.t rfl) fa177_1)) rfl (fun _ _ => rfl) (by first | exact .inr (fun _ _ => rfl) | exact .inl (by kernel_rfl)) ?_
 first | refine DE.q (fun e c hk => (.lde1 (.t rfl) ag175)) rfl (fun _ _ => rfl) (by first | exact .inr (fun _ _ => rfl) | exact .inl (by kernel_rfl)) ?_ | refine DE.q (fun e c hk => (.ldb1 0 (.t rfl) rfl ag175 rfl)) rfl (fun _ _ => rfl) (by first | exact .inr (fun _ _ => rfl) | exact .inl (by kernel_rfl)) ?_ | refine DE.q (fun e c hk => (.ldb1 1 (.t rfl) rfl ag175 rfl)) rfl (fun _ _ => rfl) (by first | exact .inr (fun _ _ => rfl) | exact .inl (by kernel_rfl)) ?_ | refine DE.q (fun e c hk => (.ldb1 2 (.t rfl) rfl ag175 rfl)) rfl (fun _ _ => rfl) (by first | exact .inr (fun _ _ => rfl) | exact .inl (by kernel_rfl)) ?_ | refine DE.q (fun e c hk => (.ldb1 3 (.t rfl) rfl ag175 rfl)) rfl (fun _ _ => rfl) (by first | exact .inr (fun _ _ => rfl) | exact .inl (by kernel_rfl)) ?_
 refine DE.q (av := fun _ => .lit (dataOf v)) (fun e c hk => by have h := hk.down 10 (by kernel_rfl); simp only [h, cond_false]; exact Ev.usd (i := 1) (.t rfl) rfl hve) rfl (fun _ _ => rfl) (by first | exact .inr (fun _ _ => rfl) | exact .inl (by kernel_rfl)) ?_; refine DE.q (fun e c hk => (.move (.t rfl))) rfl (fun _ _ => rfl) (by first | exact .inr (fun _ _ => rfl) | exact .inl (by kernel_rfl)) ?_; refine DE.q (fun e c hk => (.nilc (.t rfl))) rfl (fun _ _ => rfl) (by first | exact .inr (fun _ _ => rfl) | exact .inl (by kernel_rfl)) ?_
 first | refine DE.q (fun e c hk => (.fae (.t rfl) fa177_1 rfl)) rfl (fun _ _ => rfl) (by first | exact .inr (fun _ _ => rfl) | exact .inl (by kernel_rfl)) ?_ | refine DE.q (fun e c hk => (.fab (.t rfl) fa177_1)) rfl (fun _ _ => rfl) (by first | exact .inr (fun _ _ => rfl) | exact .inl (by kernel_rfl)) ?_ | refine DE.q (fun e c hk => (.faa (.t rfl) fa177_1)) rfl (fun _ _ => rfl) (by first | exact .inr (fun _ _ => rfl) | exact .inl (by kernel_rfl)) ?_
 first | refine DE.q (fun e c hk => (.lde1 (.t rfl) ag175)) rfl (fun _ _ => rfl) (by first | exact .inr (fun _ _ => rfl) | exact .inl (by kernel_rfl)) ?_ | refine DE.q (fun e c hk => (.ldb1 0 (.t rfl) rfl ag175 rfl)) rfl (fun _ _ => rfl) (by first | exact .inr (fun _ _ => rfl) | exact .inl (by kernel_rfl)) ?_ | refine DE.q (fun e c hk => (.ldb1 1 (.t rfl) rfl ag175 rfl)) rfl (fun _ _ => rfl) (by first | exact .inr (fun _ _ => rfl) | exact .inl (by kernel_rfl)) ?_ | refine DE.q (fun e c hk => (.ldb1 2 (.t rfl) rfl ag175 rfl)) rfl (fun _ _ => rfl) (by first | exact .inr (fun _ _ => rfl) | exact .inl (by kernel_rfl)) ?_ | refine DE.q (fun e c hk => (.ldb1 3 (.t rfl) rfl ag175 rfl)) rfl (fun _ _ => rfl) (by first | exact .inr (fun _ _ => rfl) | exact .inl (by kernel_rfl)) ?_
 refine DE.q (av := fun _ => .lit (.int .i64 (l.length : Int))) (fun e c hk => by have h := hk.down 10 (by kernel_rfl); simp only [h, cond_false]; rw [← hlm]; exact Ev.lenar (i := 1) (.t rfl) rfl Tryz.underlying175) rfl (fun _ _ => rfl) (by first | exact .inr (fun _ _ => rfl) | exact .inl (by kernel_rfl)) ?_; refine DE.effc (av := fun _ => .str l) rfl (.inr fun _ _ => rfl) (fun e c hk L_ hs Q h => ?_) ?_
 ·have hk_10 := hk.not
  simp only [addE, hk_10, ↓reduceIte, cond_true, cond_false] at h ⊢
  refine W.ustr 1 (.t (hs _ _ rfl)) (.t (hs _ _ rfl)) rfl hv Tryz.underlying198 (by kernel_rfl) (by omega) rfl ?_
  exact h
 refine DE.q (fun e c hk => (.assign (.t rfl))) rfl (fun _ _ => rfl) (by first | exact .inr (fun _ _ => rfl) | exact .inl (by kernel_rfl)) ?_; refine DE.nil (fun c_ e_ he_ => ?_)
 simp only [he_ 10 (by decide), cond_true, cond_false]
 refine W.h ?_; refine W.ret ?_; refine W.retn (M' := []) (D := _) (rs := [.tmp 2]) (avs := [_]) Tryz.results108 ⟨rfl, trivial⟩ rfl (.refl _) ?_
 exact ⟨rfl, rfl⟩
end WBld
end Go.Proofs.YtphlkdbglpcikaaGreatDoor
end
section
namespace Go.Proofs.YtphlkdbglpcikaaGreatDoor
open Go.Vl
open Y
namespace WStr
theorem c_WriteString (b : Nat) (p : Option Addr) (v : Value) (l : List UInt8) (hp : p = none ∨ p = some ⟨b, 0, none⟩) (s : List UInt8) (hl : l.length + s.length ≤ 17592186044416) : FnC Tryz.prog 106 [.lit (.pointer (some ⟨b, 0, none⟩)), .str s] [.box b 177 [.lit (.pointer p), .lit v], .arr v 5 1 (l.map AV.u8)] (fun r M => r = .tup [.int (s.length : Int), .lit .nilIface] ∧ ∃ v', M = [.box b 177 [.lit (.pointer (some ⟨b, 0, none⟩)), .lit v'], .arr v' 5 1 ((l ++ s).map AV.u8)]) :=  by
 refine FnC.mk Tryz.func106 (by kernel_rfl) rfl Tryz.ntmps106 rfl (fun w0 F => ?_)
 have hlm : (l.map AV.u8).length = l.length := List.length_map ..
 have hsm : (s.map AV.u8).length = s.length := List.length_map ..
 refine W.s (.r (.q (.assign .k) rfl (.q (.assign .k) rfl (.n (.h (.s (.r (.mv rfl rfl ?_)))))))); refine W.call (WBld.c_copyCheck b v p hp) ⟨(.t rfl), trivial⟩ (.refl _) rfl ?_
 rintro _ _ ⟨rfl, rfl⟩
 refine W.n (.h (.s (.r (.mv rfl rfl (.mv rfl rfl (.q (.nilc (.t rfl)) rfl ?_))))))
 first | refine W.q (.fae (.t rfl) fa177_1 rfl) rfl ?_ | refine W.q (.fab (.t rfl) fa177_1) rfl ?_ | refine W.q (.faa (.t rfl) fa177_1) rfl ?_
 first | refine W.q (.lde1 (.t rfl) ag175) rfl ?_ | refine W.q (.ldb1 0 (.t rfl) rfl ag175 rfl) rfl ?_ | refine W.q (.ldb1 1 (.t rfl) rfl ag175 rfl) rfl ?_ | refine W.q (.ldb1 2 (.t rfl) rfl ag175 rfl) rfl ?_ | refine W.q (.ldb1 3 (.t rfl) rfl ag175 rfl) rfl ?_
 refine W.mv rfl rfl ?_
 first | refine W.app 0 (.t rfl) rfl (.str (.t rfl)) Tryz.underlying175 ni9 ty5 rfl rfl (by rw [hlm, hsm]; omega) rfl ?_ | refine W.app 1 (.t rfl) rfl (.str (.t rfl)) Tryz.underlying175 ni9 ty5 rfl rfl (by rw [hlm, hsm]; omega) rfl ?_ | refine W.app 2 (.t rfl) rfl (.str (.t rfl)) Tryz.underlying175 ni9 ty5 rfl rfl (by rw [hlm, hsm]; omega) rfl ?_ | refine W.app 3 (.t rfl) rfl (.str (.t rfl)) Tryz.underlying175 ni9 ty5 rfl rfl (by rw [hlm, hsm]; omega) rfl ?_
 intro v14; refine W.arr_inv 1 rfl (fun a14 n14 c14 h14 => ?_)
 subst h14
 refine W.q (.nilc (.t rfl)) rfl ?_
 first | refine W.q (.fae (.t rfl) fa177_1 rfl) rfl ?_ | refine W.q (.fab (.t rfl) fa177_1) rfl ?_ | refine W.q (.faa (.t rfl) fa177_1) rfl ?_
 first | refine W.stb 0 (.t rfl) (.t rfl) rfl ty175 rfl rfl rfl ?_ | refine W.stb 1 (.t rfl) (.t rfl) rfl ty175 rfl rfl rfl ?_ | refine W.stb 2 (.t rfl) (.t rfl) rfl ty175 rfl rfl rfl ?_ | refine W.stb 3 (.t rfl) (.t rfl) rfl ty175 rfl rfl rfl ?_
 refine W.n (.h (.s (.r (.mv rfl rfl (.q (.lens (.t rfl) Tryz.underlying9) rfl (.asg rfl rfl (.q (.assign .k) rfl (.n (.h ?_))))))))); refine W.ret ?_; refine W.retn (M' := [.box b 177 _, .arr _ 5 1 _]) (rs := [.tmp 4, .tmp 5]) (avs := [_, _]) Tryz.results106 ⟨rfl, rfl, trivial⟩ rfl (.refl _) ?_
 exact ⟨rfl, _, by rw [List.map_append]; rfl⟩
end WStr
end Go.Proofs.YtphlkdbglpcikaaGreatDoor
end
section
namespace Go.Proofs.YtphlkdbglpcikaaGreatDoor
open Go.Vl
open Y
namespace WKey
theorem c_key (l : List Int) (hl : l.length ≤ 100000) (M0 : List ME) (hI : ∀ n ∈ l, FnC Tryz.prog 107 [.int n] M0 (fun r M => r = .str (itoa n) ∧ M = M0)) : FnC Tryz.prog 74 [.sl 1 (l.map AV.int)] M0 (fun r M => r = .str (keyL l) ∧ M = M0) :=  by
 refine FnC.mk Tryz.func74 (by kernel_rfl) rfl Tryz.ntmps74 rfl (fun w0 F => ?_)
 have hnl : (l.map AV.int).length = l.length := List.length_map ..
 refine W.s ?_; refine W.r ?_; refine W.q (.assign .k) rfl ?_; refine W.n ?_; refine W.h ?_; refine W.s ?_; refine W.r ?_; refine W.alloc ty177 rfl rfl ?_; intro b3; refine W.n ?_; refine W.h ?_; refine W.s ?_; refine W.s ?_; refine W.r ?_; refine W.q (.move (.t rfl)) rfl ?_
 first | refine W.q (.lensl (.t rfl) Tryz.underlying22) rfl ?_ | refine W.q (.lenar (i := 0) (.t rfl) rfl Tryz.underlying22) rfl ?_ | refine W.q (.lenar (i := 1) (.t rfl) rfl Tryz.underlying22) rfl ?_ | refine W.q (.lenar (i := 2) (.t rfl) rfl Tryz.underlying22) rfl ?_ | refine W.q (.lenar (i := 3) (.t rfl) rfl Tryz.underlying22) rfl ?_
 refine W.q (.move .k) rfl (.n (.h (.b ?_))); refine W.own_nil 5 1 ?_; refine W.loop (D := []) (ι := Nat × Value × Option Addr) (fun z => [(8, true, .int (z.1 : Int)), (7, true, .int ((l.map AV.int).length : Int)), (6, true, .sl 1 (l.map AV.int)), (3, true, .lit (.pointer (some ⟨b3, 0, none⟩)))]) (fun z => .box b3 177 [.lit (.pointer z.2.2), .lit z.2.1] :: .arr z.2.1 5 1 ((keyL (l.take z.1)).map AV.u8) :: M0) (fun z => z.1 ≤ l.length ∧ (z.2.2 = none ∨ z.2.2 = some ⟨b3, 0, none⟩) ∧ (z.2.1 = .slice none 0 0 ∨ keyL (l.take z.1) ≠ [])) (fun z => l.length - z.1) (0, .slice none 0 0, none) ⟨rfl, rfl, rfl, rfl, trivial⟩ (by rw [List.append_nil]; exact List.Perm.swap _ _ _) ⟨Nat.zero_le _, .inl rfl, .inl rfl⟩ ?_
 rintro ⟨i, v, p⟩ ⟨hi, hp, hv⟩
 dsimp only at hi hp hv ⊢
 rcases (show i < l.length ∨ i = l.length from by omega) with hlt | hend
 ·have hga := getD_map l i hlt
  have hm := getD_memG 0 l i hlt
  have hsn := keyL_snoc l i hlt
  generalize l.getD i 0 = nn at hga hm hsn
  refine W.s (.r (.q (.lti (.t rfl) (.t rfl)) rfl (.n (.h (.s ?_))))); refine W.isb 9 true rfl (by exact decide_eq_true (by omega)) ?_; refine W.condT (.t rfl) (.k (.h (.s (.b (.s (.r ?_)))))); refine W.q (.at (E := 3) (.t rfl) (.t rfl) Tryz.underlying22 ty3 (fun _ => ⟨by omega, hga⟩) rfl rfl) rfl ?_
  first | refine W.q (.lde1 (.t rfl) ag3) rfl ?_ | refine W.q (.ldb1 0 (.t rfl) rfl ag3 rfl) rfl ?_ | refine W.q (.ldb1 1 (.t rfl) rfl ag3 rfl) rfl ?_ | refine W.q (.ldb1 2 (.t rfl) rfl ag3 rfl) rfl ?_ | refine W.q (.ldb1 3 (.t rfl) rfl ag3 rfl) rfl ?_
  refine W.asg rfl rfl (.n (.h (.r (.mv rfl rfl ?_)))); refine W.call (hI _ hm) ⟨(.t rfl), trivial⟩ (List.perm_append_comm (l₁ := [_, _])) rfl ?_
  rintro _ _ ⟨rfl, rfl⟩
  refine W.q (.cat (.t rfl) .k (fun _ => by have h2 := itoa_len nn; simp only [List.length_cons, List.length_nil]; omega)) rfl ?_; refine W.call (WStr.c_WriteString b3 p v (keyL (l.take i)) hp (itoa nn ++ [32]) (by have h1 := keyL_len (l.take i); have h2 := itoa_len nn; rw [List.length_take] at h1; rw [List.length_append]; simp only [List.length_cons, List.length_nil]; omega)) ⟨(.t rfl), (.t rfl), trivial⟩ (List.perm_append_comm (l₂ := [_, _])) rfl ?_
  rintro _ _ ⟨rfl, v', rfl⟩
  refine W.n (.bn (.h (.r ?_)))
  first | refine W.q (.add (.t rfl) .k (fun _ => by omega)) rfl ?_ | refine W.q (.addw (.t rfl) .k) rfl ?_
  refine W.q (.move (.t rfl)) rfl ?_; refine W.n ?_; refine W.h ?_; refine W.reach (D := []) (i + 1, v', some ⟨b3, 0, none⟩) ⟨rfl, rfl, rfl, rfl, trivial⟩ (by rw [List.append_nil]; dsimp only; rw [hsn]; exact .refl _) ⟨⟨hlt, .inr rfl, .inr ?_⟩, by show l.length - (i + 1) < l.length - i; omega⟩
  dsimp only
  rw [hsn]
  intro h
  have := congrArg List.length h
  simp only [List.length_append, List.length_cons, List.length_nil] at this
  omega
 ·subst hend
  rw [List.take_length] at hv ⊢
  refine W.s (.r (.q (.lti (.t rfl) (.t rfl)) rfl (.n (.h (.s ?_))))); refine W.isb 9 false rfl (by exact decide_eq_false (by omega)) ?_; refine W.condF (.t rfl) (.ex (.he (.he (.bh (.h (.s (.r ?_))))))); refine W.call (WBld.c_String b3 p v (keyL l) hp (by have := keyL_len l; omega) hv) ⟨(.t rfl), trivial⟩ (.refl _) rfl ?_
  rintro _ _ ⟨rfl, rfl⟩
  refine W.asg rfl rfl (.n (.h ?_)); refine W.ret ?_; refine W.retn (M' := M0) (D := []) (rs := [.tmp 2]) (avs := [_]) Tryz.results74 ⟨rfl, trivial⟩ rfl (by first | (rw [List.append_nil]; exact .refl _) | simp) ?_
  exact ⟨rfl, rfl⟩
end WKey
end Go.Proofs.YtphlkdbglpcikaaGreatDoor
end
section
namespace Go.Proofs.YtphlkdbglpcikaaGreatDoor
open Go.Vl
open Y
namespace WFmt
theorem c_FormatBool0 (b : Bool) : FnP Tryz.prog 109 [.bool b] (.str (fmtB b)) :=  by
 refine FnC.mk Tryz.func109 (by kernel_rfl) rfl Tryz.ntmps109 rfl (fun w0 F => ?_)
 refine W.s ?_; refine W.r ?_; refine W.q (.assign .k) rfl ?_; refine W.n ?_; refine W.h ?_; refine W.s ?_; refine W.s ?_; refine W.r ?_; refine W.q (.move (.t rfl)) rfl ?_; refine W.n ?_; refine W.h ?_; refine W.cond (.t rfl) (fun hc_t3 => ?_) (fun hc_t3 => ?_)
 ·subst hc_t3
  refine W.s (.r (.q (.assign .k) rfl (.n (.h ?_)))); refine W.ret ?_; refine W.hr ?_; refine W.retn (M' := []) (rs := [.tmp 2]) (avs := [_]) Tryz.results109 ⟨rfl, trivial⟩ rfl (.refl _) ?_
  exact ⟨rfl, rfl⟩
 ·subst hc_t3
  refine W.k (.h (.s (.r (.q (.assign .k) rfl (.n (.h ?_)))))); refine W.ret ?_; refine W.retn (M' := []) (rs := [.tmp 2]) (avs := [_]) Tryz.results109 ⟨rfl, trivial⟩ rfl (.refl _) ?_
  exact ⟨rfl, rfl⟩
theorem c_FormatBool (b : Bool) : FnP Tryz.prog 75 [.bool b] (.str (fmtB b)) :=  by
 refine FnC.mk Tryz.func75 (by kernel_rfl) rfl Tryz.ntmps75 rfl (fun w0 F => ?_)
 refine W.s (.r (.q (.assign .k) rfl (.n (.h (.s (.r (.mv rfl rfl ?_))))))); refine W.callp (c_FormatBool0 b) ⟨(.t rfl), trivial⟩ rfl ?_; refine W.asg rfl rfl (.n (.h ?_)); refine W.ret ?_; refine W.retn (M' := []) (rs := [.tmp 2]) (avs := [_]) Tryz.results75 ⟨rfl, trivial⟩ rfl (.refl _) ?_
 exact ⟨rfl, rfl⟩
end WFmt
end Go.Proofs.YtphlkdbglpcikaaGreatDoor
end
section
namespace Go.Proofs.YtphlkdbglpcikaaGreatDoor
open Go.Vl
open Y
namespace WState
theorem c_state (v : Value) (l : List Int) (f : Bool) (b10 bm b9 b8 : Nat) (vS vN vF : Value) (SL : List Ss) (hl : l.length ≤ 100000) (hl0 : ∀ x ∈ l, 0 ≤ x ∧ x < 100) (hSL : ∀ s ∈ SL, sml s.1) (hSn : SL.length ≤ 100000) : FnC Tryz.prog 70 [.lit v, .bool f, .lit (.pointer (some ⟨b10, 0, none⟩)), .lit (.pointer (some ⟨b9, 0, none⟩)), .lit (.pointer (some ⟨b8, 0, none⟩))] (.arr v 3 1 (l.map AV.int) :: .box b10 138 [.lit (.map (some bm))] :: .obj bm (mObj ((SL.map keyS).map fun s : List UInt8 => Value.string ⟨s.toArray⟩)) :: .box b9 59 [.lit vS] :: .arr vS 22 1 (SL.map fun s : Ss => .sl 1 (s.1.map AV.int)) :: .box b8 99 [.lit vN, .lit vF] :: .arr vF 4 1 (SL.map fun s : Ss => .bool s.2) :: []) (fun r M => ∃ (k : Nat) (vS' vF' : Value) (SL' : List Ss), r = .int (k : Int) ∧ M = (.box b10 138 [.lit (.map (some bm))] :: .obj bm (mObj ((SL'.map keyS).map fun s : List UInt8 => Value.string ⟨s.toArray⟩)) :: .box b9 59 [.lit vS'] :: .arr vS' 22 1 (SL'.map fun s : Ss => .sl 1 (s.1.map AV.int)) :: .box b8 99 [.lit vN, .lit vF'] :: .arr vF' 4 1 (SL'.map fun s : Ss => .bool s.2) :: []) ∧ ((place (norm l, f) SL = some k ∧ SL' = SL) ∨ ((norm l, f) ∉ SL ∧ k = SL.length ∧ SL' = SL ++ [(norm l, f)]))) :=  by
 refine FnC.mk Tryz.func70 (by kernel_rfl) rfl Tryz.ntmps70 rfl (fun w0 F => ?_)
 have hnl := norm_len l
 have hn0 : ∀ x ∈ norm l, 0 ≤ x ∧ x < 100 := fun x hx => hl0 x ((norm_mem l x).1 hx)
 have hsm : sml (norm l) := fun x hx => by have := hn0 x hx; omega
 have hplc : place (keyS (norm l, f)) (SL.map keyS) = place (norm l, f) SL := keyS_place hsm hSL
 have hkl := keyL_len (norm l)
 have hml1 : (SL.map fun s : Ss => AV.sl 1 (s.1.map AV.int)).length = SL.length := List.length_map ..
 have hml2 : (SL.map fun s : Ss => AV.bool s.2).length = SL.length := List.length_map ..
 refine W.s (.r (.q (.assign .k) rfl (.n (.h (.s (.r (.mv rfl rfl ?_))))))); refine W.call (WNorm.c_Values v (l.map AV.int)) ⟨(.t rfl), trivial⟩ (.refl _) rfl ?_
 rintro _ _ ⟨bq, rfl, rfl⟩
 refine W.call (WNorm.c_Sorted bq v l (by omega)) ⟨(.t rfl), trivial⟩ (.refl _) rfl ?_
 rintro _ _ ⟨v13, rfl, rfl⟩
 refine W.call (WNorm.c_Compact v13 (srt l) (srt_asc l) (by rw [srt_len]; omega)) ⟨(.t rfl), trivial⟩ (.refl _) rfl ?_
 rintro _ _ ⟨v14, rfl, rfl⟩
 refine W.asg rfl rfl (.n (.h (.s (.r ?_)))); refine W.freezeA (M1 := .box bq 22 [.lit v] :: .arr v 3 1 (l.map AV.int) :: .box b10 138 [.lit (.map (some bm))] :: .obj bm (mObj ((SL.map keyS).map fun s : List UInt8 => Value.string ⟨s.toArray⟩)) :: .box b9 59 [.lit vS] :: .arr vS 22 1 (SL.map fun s : Ss => .sl 1 (s.1.map AV.int)) :: .box b8 99 [.lit vN, .lit vF] :: .arr vF 4 1 (SL.map fun s : Ss => .bool s.2) :: []) (M2 := .box bq 22 [.lit v] :: .arr v 3 1 (l.map AV.int) :: .box b10 138 [.lit (.map (some bm))] :: .obj bm (mObj ((SL.map keyS).map fun s : List UInt8 => Value.string ⟨s.toArray⟩)) :: .box b9 59 [.lit vS] :: .arr vS 22 1 (SL.map fun s : Ss => .sl 1 (s.1.map AV.int)) :: .box b8 99 [.lit vN, .lit vF] :: .arr vF 4 1 (SL.map fun s : Ss => .bool s.2) :: []) (D := []) (v := v14) (L' := [(0, true, .sl 1 ((norm l).map AV.int))]) (by rw [List.append_nil]; exact .refl _) ⟨⟨_, rfl, .one .hit⟩, trivial⟩ (FrzMs.refl _) ?_; refine W.mv rfl rfl ?_; refine W.call (WKey.c_key (norm l) (by omega) [] (fun n hn => WNorm.c_Itoa0 n (hn0 n hn).1 (hn0 n hn).2 [])) ⟨(.t rfl), trivial⟩ (.refl _) rfl ?_
 rintro _ _ ⟨rfl, rfl⟩
 refine W.q (.move (.t rfl)) rfl ?_; refine W.callp (WFmt.c_FormatBool f) ⟨(.t rfl), trivial⟩ rfl ?_; refine W.q (.cat (.t rfl) (.t rfl) (fun _ => by have : (fmtB f).length ≤ 5 := (by cases f <;> decide); omega)) rfl ?_; refine W.is (t := 19) (av' := .str (keyS (norm l, f))) rfl rfl ?_; refine W.q (.assign (.t rfl)) rfl ?_; refine W.n ?_; refine W.h ?_; refine W.s ?_; refine W.s ?_; refine W.r ?_
 refine W.q (.ldb1 2 (.t rfl) rfl ag138 rfl) rfl (.mv rfl rfl (.q (.look2 3 (.t rfl) rfl (.t rfl) Tryz.underlying138 (KeyKind.str Tryz.underlying9) ty3) rfl ?_))
 refine W.q (.move (.t rfl)) rfl ?_; refine W.q (.extract (.t rfl) rfl) rfl ?_; refine W.q (.extract (.t rfl) rfl) rfl ?_; refine W.q (.assign (.t rfl)) rfl ?_; refine W.q (.assign (.t rfl)) rfl ?_; refine W.n ?_; refine W.h ?_; refine W.s ?_; refine W.r ?_; refine W.q (.move (.t rfl)) rfl ?_; refine W.n ?_; refine W.h ?_; refine W.cond (.t rfl) (fun hc_t26 => ?_) (fun hc_t26 => ?_)
 ·obtain ⟨j, hj⟩ : ∃ j, place (keyS (norm l, f)) (SL.map keyS) = some j := by
   cases hp : place (keyS (norm l, f)) (SL.map keyS) with
   | none => rw [hp] at hc_t26; simp at hc_t26
   | some j => exact ⟨j, rfl⟩
  refine W.s (.r (.mv rfl rfl (.asg rfl rfl (.n (.h ?_))))); refine W.ret ?_; refine W.hr ?_; refine W.retn (M' := (.box b10 138 [.lit (.map (some bm))] :: .obj bm (mObj ((SL.map keyS).map fun s : List UInt8 => Value.string ⟨s.toArray⟩)) :: .box b9 59 [.lit vS] :: .arr vS 22 1 (SL.map fun s : Ss => .sl 1 (s.1.map AV.int)) :: .box b8 99 [.lit vN, .lit vF] :: .arr vF 4 1 (SL.map fun s : Ss => .bool s.2) :: [])) (D := _) (rs := [.tmp 7]) (avs := [_]) Tryz.results70 ⟨rfl, trivial⟩ rfl (List.perm_append_comm (l₁ := [_, _])) ?_
  refine ⟨j, vS, vF, SL, congrArg AV.int (by rw [hj]; rfl), rfl, .inl ⟨by rw [← hplc]; exact hj, rfl⟩⟩
 ·have hnew : keyS (norm l, f) ∉ SL.map keyS := by
   rw [← place_none]
   cases hp : place (keyS (norm l, f)) (SL.map keyS) with
   | none => rfl
   | some j => rw [hp] at hc_t26; simp at hc_t26
  have hnS : (norm l, f) ∉ SL := by rw [← place_none, ← hplc]; exact place_none.2 hnew
  refine W.k (.h (.s (.r (.q (.ldb1 2 (.t rfl) rfl ag138 rfl) rfl (.mv rfl rfl (.q (.ldb1 4 (.t rfl) rfl ag59 rfl) rfl ?_)))))); refine W.q (.lenar (i := 5) (.t rfl) rfl Tryz.underlying59) rfl ?_; refine W.is (t := 31) (av' := .int ((SL.map keyS).length : Int)) rfl (by rw [List.length_map, List.length_map]) ?_; refine W.mapnew 3 (.t rfl) rfl (.t rfl) (.t rfl) Tryz.underlying138 (KeyKind.str Tryz.underlying9) (hnew) _ (.inl rfl) (.n (.h (.s (.r (.q (.ldb1 4 (.t rfl) rfl ag59 rfl) rfl (.mv rfl rfl ?_)))))); refine W.bs (es := [_]) Tryz.underlying59 ty22 ⟨rfl, (.t rfl), rfl, rfl, trivial⟩ rfl (by decide) rfl rfl ?_; refine W.app 5 (.t rfl) rfl (.sl (.t rfl) (by intro e he; rw [List.mem_singleton.1 he]; rfl)) Tryz.underlying59 ni59 ty22 rfl rfl (by rw [hml1]; simp only [List.length_cons, List.length_nil]; omega) rfl ?_
  intro v35; refine W.arr_inv 5 rfl (fun a9 n9 c9 h9 => ?_)
  subst h9
  refine W.stb 4 (.t rfl) (.t rfl) rfl ty59 rfl rfl rfl (.n (.h (.s (.r (.q (.fab (.t rfl) fa99_1) rfl (.q (.ldb1 6 (.t rfl) rfl ag60 rfl) rfl (.mv rfl rfl ?_))))))); refine W.bs (es := [_]) Tryz.underlying60 ty4 ⟨rfl, (.t rfl), rfl, rfl, trivial⟩ rfl (by decide) rfl rfl ?_; refine W.app 7 (.t rfl) rfl (.sl (.t rfl) (by intro e he; rw [List.mem_singleton.1 he]; rfl)) Tryz.underlying60 ni60 ty4 rfl rfl (by rw [hml2]; simp only [List.length_cons, List.length_nil]; omega) rfl ?_
  intro v40
  refine W.q (.fab (.t rfl) fa99_1) rfl ?_
  refine W.arr_inv 7 rfl (fun a8 n8 c8 h8 => ?_)
  subst h8
  refine W.stb 6 (.t rfl) (.t rfl) rfl ty60 rfl rfl rfl (.n (.h (.s (.r (.q (.ldb1 4 (.t rfl) rfl ag59 rfl) rfl ?_))))); refine W.q (.lenar (i := 5) (.t rfl) rfl Tryz.underlying59) rfl ?_; refine W.is (t := 43) (av' := .int ((SL.length : Int) + 1)) rfl (congrArg AV.int (by rw [List.length_append, hml1]; simp only [List.length_cons, List.length_nil]; omega)) ?_; refine W.q (.sub (.t rfl) .k (fun _ => by omega)) rfl ?_; refine W.is (t := 44) (av' := .int (SL.length : Int)) rfl (congrArg AV.int (by omega)) ?_; refine W.asg rfl rfl (.n (.h ?_)); refine W.ret ?_; refine W.retn (M' := (.box b10 138 [.lit (.map (some bm))] :: .obj bm (mObj (((SL ++ [(norm l, f)]).map keyS).map fun s : List UInt8 => Value.string ⟨s.toArray⟩)) :: .box b9 59 [.lit (.slice a9 n9 c9)] :: .arr (.slice a9 n9 c9) 22 1 ((SL ++ [(norm l, f)]).map fun s : Ss => .sl 1 (s.1.map AV.int)) :: .box b8 99 [.lit vN, .lit (.slice a8 n8 c8)] :: .arr (.slice a8 n8 c8) 4 1 ((SL ++ [(norm l, f)]).map fun s : Ss => .bool s.2) :: [])) (D := _) (rs := [.tmp 7]) (avs := [_]) Tryz.results70 ⟨rfl, trivial⟩ rfl (by simp only [List.map_append]; exact List.perm_append_comm (l₁ := [_, _])) ?_
  exact ⟨SL.length, _, _, _, rfl, rfl, .inr ⟨hnS, rfl, rfl⟩⟩
end WState
end Go.Proofs.YtphlkdbglpcikaaGreatDoor
end
section
namespace Go.Proofs.YtphlkdbglpcikaaGreatDoor
open Go.Vl
open Y
namespace WHas
theorem c_IndexA (v : Value) (l : List Nat) (k : Nat) (hl : l.length ≤ 1048577) : FnC Tryz.prog 133 [.lit v, .int (k : Int)] [.arr v 3 1 (l.map natv)] (fun r M => (∃ z : Int, r = .int z ∧ (0 ≤ z ↔ k ∈ l)) ∧ M = [.arr v 3 1 (l.map natv)]) :=  by
 refine FnC.mk Tryz.func133 (by kernel_rfl) rfl Tryz.ntmps133 rfl (fun w0 F => ?_)
 refine W.s (.r (.q (.assign .k) rfl (.n (.h (.s (.s (.r (.mv rfl rfl ?_))))))))
 first | refine W.q (.lensl (.t rfl) Tryz.underlying22) rfl ?_ | refine W.q (.lenar (i := 0) (.t rfl) rfl Tryz.underlying22) rfl ?_ | refine W.q (.lenar (i := 1) (.t rfl) rfl Tryz.underlying22) rfl ?_ | refine W.q (.lenar (i := 2) (.t rfl) rfl Tryz.underlying22) rfl ?_ | refine W.q (.lenar (i := 3) (.t rfl) rfl Tryz.underlying22) rfl ?_
 refine W.q (.move .k) rfl (.n (.h (.b ?_))); refine W.loop (D := []) (ι := Nat) (fun i => [(8, true, .int (i : Int)), (7, true, .int ((l.map natv).length : Int)), (0, true, .lit v), (1, true, .int (k : Int))]) (fun _ => [.arr v 3 1 (l.map natv)]) (fun i => i ≤ l.length ∧ k ∉ l.take i) (fun i => l.length - i) 0 ⟨rfl, rfl, rfl, rfl, trivial⟩ (.refl _) ⟨Nat.zero_le _, by simp⟩ ?_
 rintro i ⟨hi, hni⟩
 dsimp only at hi hni ⊢
 have hml : (l.map natv).length = l.length := List.length_map ..
 rcases (show i < l.length ∨ i = l.length from by omega) with hlt | hend
 ·have hga := getD_mapG natv 0 l i hlt
  refine W.s ?_; refine W.r ?_; refine W.q (.lti (.t rfl) (.t rfl)) rfl ?_; refine W.n ?_; refine W.h ?_; refine W.s ?_; refine W.isb 9 true rfl (by exact decide_eq_true (by omega)) ?_; refine W.condT (.t rfl) ?_; refine W.k ?_; refine W.h ?_; refine W.s ?_; refine W.b ?_; refine W.s ?_; refine W.r ?_; refine W.q (.move (.t rfl)) rfl ?_; refine W.q (.assign (.t rfl)) rfl ?_; refine W.n ?_; refine W.h ?_; refine W.s ?_; refine W.r ?_; refine W.q (.move (.t rfl)) rfl ?_; refine W.q (.move (.t rfl)) rfl ?_; refine W.q (.move (.t rfl)) rfl ?_; refine W.q (.ata 0 (.t rfl) rfl (.t rfl) Tryz.underlying22 ty3 (fun _ => by rw [List.length_map]; omega)) rfl ?_; refine W.q (.lda1 0 i 0 (.t rfl) rfl hga (by omega) rfl rfl rfl ag3) rfl ?_; refine W.q (.eqi (.t rfl) (.t rfl)) rfl ?_; refine W.n ?_; refine W.h ?_; refine W.cond (.t rfl) (fun hc_t16 => ?_) (fun hc_t16 => ?_)
  ·have hk16 : k = l.getD i 0 := by have := eq_of_beq hc_t16; omega
   refine W.s (.r (.mv rfl rfl (.asg rfl rfl (.n (.h ?_))))); refine W.ret ?_; refine W.br (.hr (.hr (.br (.hr ?_)))); refine W.retn (M' := [_]) (D := []) (rs := [.tmp 4]) (avs := [_]) Tryz.results133 ⟨rfl, trivial⟩ rfl (.refl _) ?_
   exact ⟨⟨_, rfl, fun _ => by rw [hk16]; exact getD_memG 0 l i hlt, fun _ => by omega⟩, rfl⟩
  ·have hk16 : k ≠ l.getD i 0 := fun h => by have := beq_eq_false_iff_ne.1 hc_t16; exact this (by rw [← h])
   refine W.k (.bn (.h (.r ?_)))
   first | refine W.q (.add (.t rfl) .k (fun _ => by omega)) rfl ?_ | refine W.q (.addw (.t rfl) .k) rfl ?_
   refine W.q (.move (.t rfl)) rfl ?_; refine W.n ?_; refine W.h ?_; refine W.reach (D := []) (i + 1) ⟨rfl, rfl, rfl, rfl, trivial⟩ (.refl _) ⟨⟨hlt, ?_⟩, by show l.length - (i + 1) < l.length - i; omega⟩
   rw [take_getDG 0 l i hlt, List.mem_append, List.mem_singleton]
   exact fun h => h.elim hni hk16
 ·subst hend
  rw [List.take_length] at hni
  refine W.s (.r (.q (.lti (.t rfl) (.t rfl)) rfl (.n (.h (.s ?_))))); refine W.isb 9 false rfl (by exact decide_eq_false (by omega)) ?_; refine W.condF (.t rfl) (.ex (.he (.he (.bh (.h (.s (.r (.q (.assign .k) rfl (.n (.h ?_)))))))))); refine W.ret ?_; refine W.retn (M' := [_]) (D := []) (rs := [.tmp 4]) (avs := [_]) Tryz.results133 ⟨rfl, trivial⟩ rfl (.refl _) ?_
  exact ⟨⟨-1, rfl, fun h => by omega, fun h => absurd h hni⟩, rfl⟩
theorem c_ContainsA (v : Value) (l : List Nat) (k : Nat) (hl : l.length ≤ 1048577) : FnC Tryz.prog 121 [.lit v, .int (k : Int)] [.arr v 3 1 (l.map natv)] (fun r M => r = .bool (decide (k ∈ l)) ∧ M = [.arr v 3 1 (l.map natv)]) :=  by
 refine FnC.mk Tryz.func121 (by kernel_rfl) rfl Tryz.ntmps121 rfl (fun w0 F => ?_)
 refine W.s (.r (.q (.assign .k) rfl (.n (.h (.s (.r (.mv rfl rfl (.mv rfl rfl ?_)))))))); refine W.call (c_IndexA v l k hl) ⟨(.t rfl), (.t rfl), trivial⟩ (.refl _) rfl ?_
 rintro _ _ ⟨⟨z, rfl, hz⟩, rfl⟩
 refine W.q (.gei (.t rfl) .k) rfl (.asg rfl rfl (.n (.h ?_))); refine W.ret ?_; refine W.retn (M' := [_]) (D := []) (rs := [.tmp 4]) (avs := [_]) Tryz.results121 ⟨rfl, trivial⟩ rfl (.refl _) ?_
 exact ⟨congrArg AV.bool (decide_eq_decide.2 hz), rfl⟩
end WHas
end Go.Proofs.YtphlkdbglpcikaaGreatDoor
end
section
namespace Go.Vl
structure Pk where
 name : List UInt8
 attr : List UInt8
 deep : Bool
namespace Pk
abbrev dfl : Pk := ⟨[], [], false⟩
def fits (p : Pk) (d : Nd) : Bool := !(d.name == [] || (p.name != [] && p.name != d.name)) && (p.attr == [] || d.attrs.any fun a => a.1 == p.attr)
abbrev Fl := Nat → Bool
abbrev row (n : Nat) (f : Fl) : AV := .sl 1 ((List.range n).map fun k => AV.bool (f k))
def ahead (ps : List Pk) (r w : Fl) (k : Nat) : Bool := (k == 0 || ((ps.getD k dfl).deep && w (k - 1))) || (!(ps.getD k dfl).deep && r (k - 1))
def ends (ps : List Pk) (r w : Fl) (d : Nd) (k : Nat) : Bool := ahead ps r w k && fits (ps.getD k dfl) d
def far (ps : List Pk) (r w : Fl) (d : Nd) (k : Nat) : Bool := w k || ends ps r w d k
mutual
def fnd (ps : List Pk) : Nd → List Int → Fl → Fl → List (List Int)
 | .mk n a t q, path, r, w => fnds ps 0 q path r w
def fnds (ps : List Pk) : Nat → List Nd → List Int → Fl → Fl → List (List Int)
 | _, [], _, _, _ => []
 | i, d :: l, path, r, w =>
  (if d.name = [] then [] else (if ends ps r w d (ps.length - 1) then [path ++ [(i : Int)]] else []) ++ fnd ps d (path ++ [(i : Int)]) (ends ps r w d) (far ps r w d)) ++ fnds ps (i + 1) l path r w
end
mutual
def els : Nd → Nat
 | .mk _ _ _ l => elss l
def elss : List Nd → Nat
 | [] => 0
 | d :: l => (if d.name = [] then 0 else 1 + els d) + elss l
end
mutual
def nms (s : List UInt8) : Nd → Nat
 | .mk _ _ _ l => nmss s l
def nmss (s : List UInt8) : List Nd → Nat
 | [] => 0
 | d :: l => (if d.name = [] then 0 else (if d.name = s then 1 else 0) + nms s d) + nmss s l
end
abbrev oddS (s : List UInt8) : Bool := !(s == []) && !(nameOk s)
def odd (p : Pk) : Bool := oddS p.name || oddS p.attr
structure ok (p : Pk) : Prop where
 n : p.name.length ≤ 1000
 a : p.attr.length ≤ 1000
 o : odd p = false
abbrev nn (p : Pk) : Pk := ⟨[], p.attr, p.deep⟩
end Pk
def upto {α : Type} (f : α → α) (l : List α) (i : Nat) : List α := (l.take i).map f ++ l.drop i
section sl
variable {x : Cx} {g : Bool} {L : List (Tmp × Bool × AV)} {M : List ME} {ty T : TypeId} {o1 o2 : Operand}
theorem Ev.takesl {α : Type} {f : α → AV} {l : List α} {n k E bytes : Nat} {z : Value} {c : Int} (h1 : Ov g L o1 (.sl k (l.map f))) (hT : x.P.underlying T = some (.slice E)) (hE : Ty x.P E k bytes z) (h2 : Ov g L o2 (.lit (.int .i64 c))) (hc : c = (n : Int)) (hb : g = true → n ≤ l.length) :
 Ev x g L M (.slice T o1 none (some o2) none) ty (.sl k ((l.take n).map f)) := by
 subst hc
 have h := Ev.subsl (x := x) (M := M) (ty := ty) (lo := none) (hi := some o2) h1 hT hE rfl h2 (fun hg => ⟨Int.le_refl _, by omega, by have := hb hg; rw [List.length_map]; omega⟩)
 simpa [List.map_take] using h
theorem Ev.dropsl {α : Type} {f : α → AV} {l : List α} {n k E bytes : Nat} {z : Value} {c : Int} (h1 : Ov g L o1 (.sl k (l.map f))) (hT : x.P.underlying T = some (.slice E)) (hE : Ty x.P E k bytes z) (h2 : Ov g L o2 (.lit (.int .i64 c))) (hc : c = (n : Int)) (hb : g = true → n ≤ l.length) :
 Ev x g L M (.slice T o1 (some o2) none none) ty (.sl k ((l.drop n).map f)) := by
 subst hc
 have h := Ev.subsl (x := x) (M := M) (ty := ty) (lo := some o2) (hi := none) h1 hT hE h2 rfl (fun hg => ⟨by omega, by have := hb hg; rw [List.length_map]; omega, Int.le_refl _⟩)
 have e : (l.map f).take ((l.map f).length : Int).toNat = l.map f := List.take_of_length_le (by simp)
 rw [e] at h
 simpa [List.map_drop] using h
end sl
end Go.Vl
end
section
namespace Go.Proofs.YtphlkdbglpcikaaGreatDoor
open Go.Vl
open Y
namespace WLink
theorem c_link (b : Nat) (v1 v2 vT vF : Value) (tys : List Int) (R0 : List Rw) (fr to : List Nat) (hfr : ∀ p ∈ fr, p < R0.length) (hnd : ∀ p ∈ fr, ((folOf R0).getD p []).Nodup) (hbd : ∀ p ∈ fr, ∀ q ∈ (folOf R0).getD p [], q < 1048576) (htb : ∀ q ∈ to, q < 1048576) (hR : R0.length ≤ 1048576) (hl1 : fr.length ≤ 1048576) (hl2 : to.length ≤ 1048576) : FnC Tryz.prog 102 [.lit (.pointer (some ⟨b, 0, none⟩)), .lit v1, .lit v2] (.arr v1 3 1 (fr.map natv) :: .arr v2 3 1 (to.map natv) :: .box b 134 [.lit vT, .lit vF, .lit (.slice none 0 0), .lit (.slice none 0 0), .bool false] :: .arr vT 3 1 (tys.map AV.int) :: .arr vF 22 1 (rowsV R0) :: rowsM 3 R0) (fun r M => r = .tup [] ∧ ∃ R, Lnk (folOf R0) (folOf R) fr to ∧ R.length = R0.length ∧ M = .arr v1 3 1 (fr.map natv) :: .arr v2 3 1 (to.map natv) :: .box b 134 [.lit vT, .lit vF, .lit (.slice none 0 0), .lit (.slice none 0 0), .bool false] :: .arr vT 3 1 (tys.map AV.int) :: .arr vF 22 1 (rowsV R) :: rowsM 3 R) :=  by
 refine FnC.mk Tryz.func102 (by kernel_rfl) rfl Tryz.ntmps102 rfl (fun w0 F => ?_)
 have hm1 : (fr.map natv).length = fr.length := List.length_map ..
 have hm2 : (to.map natv).length = to.length := List.length_map ..
 refine W.s (.r (.mv rfl rfl ?_)); refine W.q (.lenar (i := 0) (.t rfl) rfl Tryz.underlying22) rfl ?_; refine W.q (.move .k) rfl (.n (.h (.b ?_))); refine W.loop (D := []) (ι := Nat × List Rw) (fun z => [(12, true, .int (z.1 : Int)), (11, true, .int ((fr.map natv).length : Int)), (10, true, .lit v1), (0, true, .lit (.pointer (some ⟨b, 0, none⟩))), (2, true, .lit v2)]) (fun z => .arr v1 3 1 (fr.map natv) :: .arr v2 3 1 (to.map natv) :: .box b 134 [.lit vT, .lit vF, .lit (.slice none 0 0), .lit (.slice none 0 0), .bool false] :: .arr vT 3 1 (tys.map AV.int) :: .arr vF 22 1 (rowsV z.2) :: rowsM 3 z.2) (fun z => LnkP (folOf R0) (folOf z.2) fr to z.1 0 ∧ z.1 ≤ fr.length ∧ z.2.length = R0.length) (fun z => fr.length - z.1) (0, R0) ⟨rfl, rfl, rfl, rfl, rfl, trivial⟩ (by rw [List.append_nil]) ⟨LnkP.start _ _ _, Nat.zero_le _, rfl⟩ ?_
 rintro ⟨i, R⟩ ⟨hP, hi, hRl⟩
 dsimp only at hP hi hRl ⊢
 rcases (show i < fr.length ∨ i = fr.length from by omega) with hi | hend
 ·have hgp := getD_mapG natv 0 fr i hi
  have hpm := getD_memG 0 fr i hi
  obtain ⟨p, hp0⟩ : ∃ p, p = fr.getD i 0 := ⟨_, rfl⟩
  rw [← hp0] at hgp hpm
  have hpR0 := hfr p hpm
  refine W.s (.r (.q (.lti (.t rfl) (.t rfl)) rfl (.n (.h (.s ?_))))); refine W.isb 13 true rfl (by exact decide_eq_true (by omega)) ?_; refine W.condT (.t rfl) (.k (.h (.s (.b (.s (.r (.q (.ata 0 (.t rfl) rfl (.t rfl) Tryz.underlying22 ty3 (fun _ => by omega)) rfl (.q (.lda1 0 i 0 (.t rfl) rfl hgp (by omega) rfl rfl rfl ag3) rfl (.asg rfl rfl (.n (.h (.s (.r (.mv rfl rfl ?_)))))))))))))); refine W.q (.lenar (i := 1) (.t rfl) rfl Tryz.underlying22) rfl ?_; refine W.q (.move .k) rfl (.n (.h (.b ?_))); refine W.loop (D := []) (ι := Nat × List Rw) (fun z => [(18, true, .int (z.1 : Int)), (17, true, .int ((to.map natv).length : Int)), (16, true, .lit v2), (7, true, .int (p : Int)), (12, true, .int (i : Int)), (11, true, .int ((fr.map natv).length : Int)), (10, true, .lit v1), (0, true, .lit (.pointer (some ⟨b, 0, none⟩))), (2, true, .lit v2)]) (fun z => .arr v1 3 1 (fr.map natv) :: .arr v2 3 1 (to.map natv) :: .box b 134 [.lit vT, .lit vF, .lit (.slice none 0 0), .lit (.slice none 0 0), .bool false] :: .arr vT 3 1 (tys.map AV.int) :: .arr vF 22 1 (rowsV z.2) :: rowsM 3 z.2) (fun z => LnkP (folOf R0) (folOf z.2) fr to i z.1 ∧ z.1 ≤ to.length ∧ z.2.length = R0.length) (fun z => to.length - z.1) (0, R) ⟨rfl, rfl, rfl, rfl, rfl, rfl, rfl, rfl, rfl, trivial⟩ (by rw [List.append_nil]) ⟨hP, Nat.zero_le _, hRl⟩ ?_
  clear hP hRl R
  rintro ⟨j, R⟩ ⟨hP, hj, hRl⟩
  dsimp only at hP hj hRl ⊢
  rcases (show j < to.length ∨ j = to.length from by omega) with hj | hend
  ·have hgk := getD_mapG natv 0 to j hj
   obtain ⟨k, hk0⟩ : ∃ k, k = to.getD j 0 := ⟨_, rfl⟩
   rw [← hk0] at hgk
   have hpR : p < R.length := by omega
   obtain ⟨⟨v, l⟩, hz⟩ : ∃ z, R.getD p (.slice none 0 0, []) = z := ⟨_, rfl⟩
   have hll : l.length ≤ 1048576 := by
    have e : (folOf R).getD p [] = l := by rw [folOf_get, hz]
    have h1 := hP.nodup p (hnd p hpm)
    rw [e] at h1
    refine nodup_len h1 fun q hq => ?_
    rw [← e] at hq
    rcases (hP.mem p q (by rw [folOf_len]; omega)).1 hq with h2 | ⟨_, h2⟩ | ⟨_, _, h2⟩
    ·exact hbd p hpm q h2
    ·exact htb q h2
    ·exact htb q (List.mem_of_mem_take h2)
   refine W.s (.r (.q (.lti (.t rfl) (.t rfl)) rfl (.n (.h (.s ?_))))); refine W.isb 19 true rfl (by exact decide_eq_true (by omega)) ?_; refine W.condT (.t rfl) (.k (.h (.s (.b (.s (.r (.q (.ata 1 (.t rfl) rfl (.t rfl) Tryz.underlying22 ty3 (fun _ => by omega)) rfl (.q (.lda1 1 j 0 (.t rfl) rfl hgk (by omega) rfl rfl rfl ag3) rfl (.asg rfl rfl (.n ?_)))))))))); refine W.perm (rowsM_out 3 R p hpR [_, _, _, _, _]) ?_
   rw [hz]
   dsimp only
   refine W.arr_inv 0 rfl (fun a9 n9 c9 hv9 => ?_)
   subst hv9
   have hgv := rowsV_get R p hpR
   rw [hz] at hgv
   refine W.h (.s (.r (.mv rfl rfl (.q (.nilc (.t rfl)) rfl (.q (.fab (.t rfl) fa134_1) rfl (.q (.ldb1 3 (.t rfl) rfl ag59 rfl) rfl (.mv rfl rfl ?_))))))); refine W.q (.ata 5 (.t rfl) rfl (.t rfl) Tryz.underlying59 ty22 (fun _ => by rw [rowsV_len]; omega)) rfl ?_; refine W.q (.lda1 5 p 0 (.t rfl) rfl hgv (by omega) rfl rfl rfl ag22) rfl (.mv rfl rfl ?_); refine W.call (WHas.c_ContainsA (.slice a9 n9 c9) l k (by omega)) ⟨(.t rfl), (.t rfl), trivial⟩ (.refl _) rfl ?_
   rintro _ _ ⟨rfl, rfl⟩
   refine W.q (.not (.t rfl)) rfl ?_; refine W.n ?_; refine W.h ?_; refine W.cond (.t rfl) (fun hc_t31 => ?_) (fun hc_t31 => ?_)
   ·have hkl : k ∉ l := by simpa using hc_t31
    have hFl : (folOf R).getD p [] = l := by rw [folOf_get, hz]
    refine W.drawnE (ι := Value) (fun ee c => (bif ee 14 then ME.arr c 3 1 (l.map natv ++ [natv k]) else ME.arr (.slice a9 n9 c9) 3 1 (l.map natv)) :: ([.arr v1 3 1 (fr.map natv), .arr v2 3 1 (to.map natv), .box b 134 [.lit vT, .lit vF, .lit (.slice none 0 0), .lit (.slice none 0 0), .bool false], .arr vT 3 1 (tys.map AV.int), .arr vF 22 1 (bif ee 16 then (rowsV R).set p (.lit c) else rowsV R)] ++ (rowsM 3 (R.take p) ++ rowsM 3 (R.drop (p + 1))))) 14 (.slice a9 n9 c9) (by kernel_rfl) (by kernel_rfl) rfl ?_; refine DE.q (fun e c hk => (.move (.t rfl))) rfl (fun _ _ => rfl) (.inr fun _ _ => rfl) (.q (fun e c hk => (.nilc (.t rfl))) rfl (fun _ _ => rfl) (.inr fun _ _ => rfl) (.q (fun e c hk => (.fab (.t rfl) fa134_1)) rfl (fun _ _ => rfl) (.inr fun _ _ => rfl) (.q (fun e c hk => (.ldb1 3 (.t rfl) rfl ag59 rfl)) rfl (fun _ _ => rfl) (.inr fun _ _ => rfl) (.q (fun e c hk => (.move (.t rfl))) rfl (fun _ _ => rfl) (.inr fun _ _ => rfl) (.q (fun e c hk => (.move (.t rfl))) rfl (fun _ _ => rfl) (.inr fun _ _ => rfl) (.q (fun e c hk => (.nilc (.t rfl))) rfl (fun _ _ => rfl) (.inr fun _ _ => rfl) (.q (fun e c hk => (.fab (.t rfl) fa134_1)) rfl (fun _ _ => rfl) (.inr fun _ _ => rfl) (.q (fun e c hk => (.ldb1 3 (.t rfl) rfl ag59 rfl)) rfl (fun _ _ => rfl) (.inr fun _ _ => rfl) ?_))))))))
    refine DE.q (fun e c hk => (.move (.t rfl))) rfl (fun _ _ => rfl) (.inr fun _ _ => rfl) ?_; refine DE.q (av := fun _ => .aptr vF ((p : Int).toNat * 1)) (fun e c hk => by have h := hk.down 16 (by kernel_rfl); simp only [h, cond_false]; exact Ev.ata 5 (.t rfl) rfl (.t rfl) Tryz.underlying59 ty22 (fun _ => by rw [rowsV_len]; omega)) rfl (fun _ _ => rfl) (.inr fun _ _ => rfl) ?_; refine DE.q (av := fun _ => .lit (.slice a9 n9 c9)) (fun e c hk => by have h := hk.down 16 (by kernel_rfl); simp only [h, cond_false]; exact Ev.lda1 5 p 0 (.t rfl) rfl hgv (by omega) rfl rfl rfl ag22) rfl (fun _ _ => rfl) (.inr fun _ _ => rfl) ?_; refine DE.q (fun e c hk => (.move (.t rfl))) rfl (fun _ _ => rfl) (.inr fun _ _ => rfl) ?_; refine DE.bs (es := fun _ => [_]) Tryz.underlying22 ty3 (fun c => ⟨rfl, (.t rfl), rfl, rfl, trivial⟩) (fun _ => rfl) (by decide) rfl rfl (fun _ _ => rfl) (.inr fun _ _ => rfl) ?_; refine DE.eff1 (av := fun v => .lit v) rfl rfl (fun e c hk L_ hs Q h => ?_) ?_
    ·have hk_14 := hk.not
     have hk_16 := hk.down 16 (by kernel_rfl)
     simp only [addE, hk_14, hk_16, Nat.reduceAdd, Nat.reduceEqDiff, ↓reduceIte, cond_true, cond_false] at h ⊢
     ((refine W.app 0 (.t (hs _ _ rfl)) rfl (.sl (.t (hs _ _ rfl)) (by intro e he; rw [List.mem_singleton.1 he]; rfl)) Tryz.underlying22 ni22 ty3 rfl rfl (by rw [List.length_map]; simp only [List.length_cons, List.length_nil]; omega) rfl ?_; exact h))
    refine DE.q (av := fun _ => .aptr vF ((p : Int).toNat * 1)) (fun e c hk => by have h := hk.down 16 (by kernel_rfl); simp only [h, cond_false]; exact Ev.ata 5 (.t rfl) rfl (.t rfl) Tryz.underlying59 ty22 (fun _ => by rw [rowsV_len]; omega)) rfl (fun _ _ => rfl) (.inr fun _ _ => rfl) ?_; refine DE.eff0 (fun e c hk L_ hs Q h => ?_) ?_
    ·have hk_16 := hk.not
     have hk_14 := hk.up 14 (by kernel_rfl)
     simp only [addE, hk_16, hk_14, Nat.reduceAdd, Nat.reduceEqDiff, ↓reduceIte, cond_true, cond_false] at h ⊢
     refine W.arr_inv 0 rfl (fun a8 n8 c8 h8 => ?_)
     subst h8
     refine W.sta 5 p 0 (e := .lit (.slice a9 n9 c9)) (e' := .lit (.slice a8 n8 c8)) (.t (hs _ _ rfl)) (.t (hs _ _ rfl)) rfl hgv (by omega) ty22 rfl rfl rfl rfl rfl rfl rfl ?_
     exact h
    refine DE.nil (fun v46 e_ he_ => ?_)
    simp only [he_ 14 (by decide), he_ 16 (by decide), cond_true, cond_false]
    refine W.bn (.h (.r (.q (.add (.t rfl) .k (fun _ => by omega)) rfl (.mv rfl rfl (.n (.h ?_))))))
    have h9 := hP.add hi hj (by rw [folOf_len, ← hp0, ← hRl]; exact hpR) (by rw [← hp0, hFl, ← hk0]; exact hkl)
    rw [← hp0, ← hk0, hFl, show (folOf R).set p (l ++ [k]) = folOf (R.set p (v46, l ++ [k])) from (folOf_set R p (v46, l ++ [k])).symm] at h9
    refine W.reach (D := []) (j + 1, R.set p (v46, l ++ [k])) ⟨rfl, rfl, rfl, rfl, rfl, rfl, rfl, rfl, rfl, trivial⟩ ?_ ⟨⟨h9, hj, by dsimp only; rw [List.length_set]; exact hRl⟩, by show to.length - (j + 1) < to.length - j; omega⟩
    rw [List.append_nil]
    dsimp only
    rw [← rowsV_set R p (v46, l ++ [k])]
    have h8 := rowsM_in 3 R p (v46, l ++ [k]) hpR [.arr v1 3 1 (fr.map natv), .arr v2 3 1 (to.map natv), .box b 134 [.lit vT, .lit vF, .lit (.slice none 0 0), .lit (.slice none 0 0), .bool false], .arr vT 3 1 (tys.map AV.int), .arr vF 22 1 ((rowsV R).set p (.lit v46))]
    rw [List.map_append] at h8
    exact h8
   ·have hkl : k ∈ l := by simpa using hc_t31
    have hFl : (folOf R).getD p [] = l := by rw [folOf_get, hz]
    refine W.k (.bn (.h (.r (.q (.add (.t rfl) .k (fun _ => by omega)) rfl (.mv rfl rfl (.n (.h ?_)))))))
    have h9 := hP.skip hi hj (by rw [folOf_len, ← hp0, ← hRl]; exact hpR) (by rw [← hp0, hFl, ← hk0]; exact hkl)
    refine W.reach (D := []) (j + 1, R) ⟨rfl, rfl, rfl, rfl, rfl, rfl, rfl, rfl, rfl, trivial⟩ ?_ ⟨⟨h9, hj, hRl⟩, by show to.length - (j + 1) < to.length - j; omega⟩
    rw [List.append_nil]
    dsimp only
    have h8 := (rowsM_out 3 R p hpR [.arr v1 3 1 (fr.map natv), .arr v2 3 1 (to.map natv), .box b 134 [.lit vT, .lit vF, .lit (.slice none 0 0), .lit (.slice none 0 0), .bool false], .arr vT 3 1 (tys.map AV.int), .arr vF 22 1 (rowsV R)]).symm
    rw [hz] at h8
    exact h8
  ·subst hend
   refine W.s (.r (.q (.lti (.t rfl) (.t rfl)) rfl (.n (.h (.s ?_))))); refine W.isb 19 false rfl (by exact decide_eq_false (by omega)) ?_; refine W.condF (.t rfl) (.ex (.he (.he (.bh (.bn (.h (.r (.q (.add (.t rfl) .k (fun _ => by omega)) rfl ?_))))))))
   refine W.q (.move (.t rfl)) rfl ?_; refine W.n ?_; refine W.h ?_; refine W.reach (D := []) (i + 1, R) ⟨rfl, rfl, rfl, rfl, rfl, trivial⟩ (by rw [List.append_nil]) ⟨⟨hP.row hi, hi, hRl⟩, by show fr.length - (i + 1) < fr.length - i; omega⟩
 ·subst hend
  refine W.s (.r (.q (.lti (.t rfl) (.t rfl)) rfl (.n (.h (.s ?_))))); refine W.isb 13 false rfl (by exact decide_eq_false (by omega)) ?_; refine W.condF (.t rfl) (.ex (.he (.he (.bh ?_)))); refine W.endn (M' := (.arr v1 3 1 (fr.map natv) :: .arr v2 3 1 (to.map natv) :: .box b 134 [.lit vT, .lit vF, .lit (.slice none 0 0), .lit (.slice none 0 0), .bool false] :: .arr vT 3 1 (tys.map AV.int) :: .arr vF 22 1 (rowsV R) :: rowsM 3 R)) (D := []) (rs := []) (avs := []) Tryz.results102 trivial rfl (by rw [List.append_nil]) ?_
  exact ⟨rfl, R, hP.done, hRl, rfl⟩
end WLink
end Go.Proofs.YtphlkdbglpcikaaGreatDoor
end
section
namespace Go.Proofs.YtphlkdbglpcikaaGreatDoor
open Go.Vl
open Y
namespace WAdd
theorem c_add1 (x : Ex) (hx : x.ok) (hk : x.kind = 1) (b : Nat) (vT vF : Value) (tys : List Int) (R : List Rw) (hR : R.length = tys.length) (hsz : tys.length + x.sz ≤ 1048576) : FnC Tryz.prog 69 [.lit (.pointer (some ⟨b, 0, none⟩)), x.avx] (.box b 134 [.lit vT, .lit vF, .lit (.slice none 0 0), .lit (.slice none 0 0), .bool false] :: .arr vT 3 1 (tys.map AV.int) :: .arr vF 22 1 (rowsV R) :: rowsM 3 R) (fun r M => ∃ vT' vF' tys' R' v1 v2 fi la no, Pl tys (folOf R) tys' (folOf R') fi la no x.lg ∧ tys'.length = tys.length + x.lv ∧ Tys tys tys' ∧ R'.length = tys'.length ∧ r = .agg [.lit v1, .lit v2, .bool no] ∧ M = .arr v1 3 1 (fi.map natv) :: .arr v2 3 1 (la.map natv) :: .box b 134 [.lit vT', .lit vF', .lit (.slice none 0 0), .lit (.slice none 0 0), .bool false] :: .arr vT' 3 1 (tys'.map AV.int) :: .arr vF' 22 1 (rowsV R') :: rowsM 3 R') :=  by
 refine FnC.mk Tryz.func69 (by kernel_rfl) rfl Tryz.ntmps69 rfl (fun w0 F => ?_)
 refine W.own_nil 3 1 ?_; refine W.perm (List.perm_append_comm (l₁ := [_])) ?_
 have hxl : x.lv = 1 := by rw [Ex.lv_eq, if_pos hk]
 have hxg : x.lg = Lg.one x.type := by rw [Ex.lg_eq, if_pos hk]
 have hxt : 0 ≤ x.type ∧ x.type < 8 := by rcases ((Ex.ok_iff x).1 hx).1 with h | h | h | h <;> omega
 have hx1 := Ex.sz_eq x
 have hrl := rowsV_len R
 show W _ _ (.box b 134 [.lit vT, .lit vF, .lit (.slice none 0 0), .lit (.slice none 0 0), .bool false] :: .arr vT 3 1 (tys.map AV.int) :: .arr vF 22 1 (rowsV R) :: (rowsM 3 R ++ rowsM 3 [(Value.slice none 0 0, [])])) _
 rw [← rowsM_app]
 refine W.s ?_; refine W.r ?_; refine W.box (.t rfl) rfl rfl ?_; intro b3; refine W.alloc ty136 rfl rfl ?_; intro b4; refine W.n ?_; refine W.h ?_; refine W.s ?_; refine W.s ?_; refine W.r ?_
 refine W.q (.fab (.t rfl) fa56_0) rfl (.q (.ldb1 1 (.t rfl) rfl ag3 rfl) rfl (.q (.eqi (.t rfl) .k) rfl (.n (.h ?_)))); refine W.isb 12 true rfl (by rw [hk]; rfl) ?_; refine W.condT (.t rfl) (.s (.r (.mv rfl rfl (.q (.nilc (.t rfl)) rfl (.q (.fab (.t rfl) fa134_0) rfl (.q (.ldb1 2 (.t rfl) rfl ag22 rfl) rfl ?_)))))); refine W.q (.lenar (i := 3) (.t rfl) rfl Tryz.underlying22) rfl ?_; refine W.is (t := 17) (av' := .int (tys.length : Int)) rfl (by rw [List.length_map]) ?_; refine W.asg rfl rfl (.n (.h (.s ?_))); refine W.drawnM (fun ee c_ => .box b4 136 [.lit (.slice none 0 0), .lit (.slice none 0 0), .lit (.bool false)] :: .box b3 56 x.avx.cells :: .box b 134 [bif ee 18 then .lit (c_ 9).2 else .lit vT, bif ee 21 then .lit (c_ 15).2 else .lit vF, .lit (.slice none 0 0), .lit (.slice none 0 0), .bool false] :: (bif ee 9 then .arr (c_ 9).2 3 1 (tys.map AV.int ++ [.int x.type]) else .arr vT 3 1 (tys.map AV.int)) :: (bif ee 15 then .arr (c_ 15).2 22 1 (rowsV R ++ [.lit (.slice none 0 0)]) else .arr vF 22 1 (rowsV R)) :: rowsM 3 (R ++ [(Value.slice none 0 0, [])])) (c0 := ks0) (by kernel_rfl) (by kernel_rfl) rfl ?_; refine DM.q (fun e c hk => (.move (.t rfl))) rfl (fun _ _ => rfl) (fun _ _ _ => rfl) (.q (fun e c hk => (.move (.t rfl))) rfl (fun _ _ => rfl) (fun _ _ _ => rfl) (.q (fun e c hk => (.move (.t rfl))) rfl (fun _ _ => rfl) (fun _ _ _ => rfl) (.q (fun e c hk => (.nilc (.t rfl))) rfl (fun _ _ => rfl) (fun _ _ _ => rfl) (.q (fun e c hk => (.fab (.t rfl) fa134_0)) rfl (fun _ _ => rfl) (fun _ _ _ => rfl) ?_)))); refine DM.q (av := fun _ => .lit vT) (fun e c hk => by have h := hk.down 18 (by kernel_rfl); simp only [h, cond_false]; exact Ev.ldb1 2 (.t rfl) rfl ag22 rfl) rfl (fun _ _ => rfl) (fun _ _ _ => rfl) ?_; refine DM.q (fun e c hk => (.fab (.t rfl) fa56_1)) rfl (fun _ _ => rfl) (fun _ _ _ => rfl) (.q (fun e c hk => (.ldb1 1 (.t rfl) rfl ag3 rfl)) rfl (fun _ _ => rfl) (fun _ _ _ => rfl) ?_)
 refine DM.bs (es := fun _ => [_]) Tryz.underlying22 ty3 (fun c => ⟨rfl, (.t rfl), rfl, rfl, trivial⟩) (fun _ => rfl) (by decide) rfl rfl (fun _ _ => rfl) (fun _ _ _ => rfl) ?_; refine DM.eff1 (av := fun c => .lit (c 9).2) rfl (fun c c_ h => by (simp only [h 9 (by (exact .inl rfl))])) (fun e c hk L_ hs Q h => ?_) ?_
 ·have hk_9 := hk.not
  have hk_15 := hk.down 15 (by kernel_rfl)
  have hk_18 := hk.down 18 (by kernel_rfl)
  have hk_21 := hk.down 21 (by kernel_rfl)
  simp only [addE, upd, eq_self, List.nil_append, List.cons_append, List.append_nil, hk_9, hk_15, hk_18, hk_21, Nat.reduceAdd, Nat.reduceEqDiff, ↓reduceIte, cond_true, cond_false] at h ⊢
  ((refine W.app 3 (.t (hs _ _ rfl)) rfl (.sl (.t (hs _ _ rfl)) (by intro e he; rw [List.mem_singleton.1 he]; rfl)) Tryz.underlying22 ni22 ty3 rfl rfl (by rw [List.length_map]; simp only [List.length_cons, List.length_nil]; omega) rfl ?_; exact fun v => h (0, v) _ (by (exact .refl _))))
 refine DM.q (fun e c hk => (.move (.t rfl))) rfl (fun _ _ => rfl) (fun _ _ _ => rfl) (.q (fun e c hk => (.nilc (.t rfl))) rfl (fun _ _ => rfl) (fun _ _ _ => rfl) (.q (fun e c hk => (.fab (.t rfl) fa134_1)) rfl (fun _ _ => rfl) (fun _ _ _ => rfl) ?_))
 refine DM.q (av := fun _ => .lit vF) (fun e c hk => by have h := hk.down 21 (by kernel_rfl); simp only [h, cond_false]; exact Ev.ldb1 2 (.t rfl) rfl ag59 rfl) rfl (fun _ _ => rfl) (fun _ _ _ => rfl) ?_; refine DM.bs (es := fun _ => [_]) Tryz.underlying59 ty22 (fun c => ⟨rfl, .k, rfl, rfl, trivial⟩) (fun _ => rfl) (by decide) rfl rfl (fun _ _ => rfl) (fun _ _ _ => rfl) ?_; refine DM.eff1 (av := fun c => .lit (c 15).2) rfl (fun c c_ h => by (simp only [h 9 (by (exact .inr (by kernel_rfl))), h 15 (by (exact .inl rfl))])) (fun e c hk L_ hs Q h => ?_) ?_
 ·have hk_15 := hk.not
  have hk_9 := hk.up 9 (by kernel_rfl)
  have hk_18 := hk.down 18 (by kernel_rfl)
  have hk_21 := hk.down 21 (by kernel_rfl)
  simp only [addE, upd, eq_self, List.nil_append, List.cons_append, List.append_nil, hk_15, hk_9, hk_18, hk_21, Nat.reduceAdd, Nat.reduceEqDiff, ↓reduceIte, cond_true, cond_false] at h ⊢
  ((refine W.app 4 (.t (hs _ _ rfl)) rfl (.sl (.t (hs _ _ rfl)) (by intro e he; rw [List.mem_singleton.1 he]; rfl)) Tryz.underlying59 ni59 ty22 rfl rfl (by rw [hrl]; simp only [List.length_cons, List.length_nil]; omega) rfl ?_; exact fun v => h (0, v) _ (by (exact .refl _))))
 refine DM.q (fun e c hk => (.nilc (.t rfl))) rfl (fun _ _ => rfl) (fun _ _ _ => rfl) (.q (fun e c hk => (.fab (.t rfl) fa134_0)) rfl (fun _ _ => rfl) (fun _ _ _ => rfl) ?_)
 refine DM.eff0 (fun e c hk L_ hs Q h => ?_) ?_
 ·have hk_18 := hk.not
  have hk_9 := hk.up 9 (by kernel_rfl)
  simp only [addE, upd, eq_self, List.nil_append, List.cons_append, List.append_nil, hk_18, hk_9, Nat.reduceAdd, Nat.reduceEqDiff, ↓reduceIte, cond_true, cond_false] at h ⊢
  refine W.arr_inv 3 rfl (fun a9 n9 c9 h9 => ?_)
  rw [h9] at h ⊢
  refine W.stb 2 (.t (hs _ _ rfl)) (.t ((hs _ _ rfl).trans (congrArg (fun v => some (true, AV.lit v)) h9))) rfl ty22 rfl rfl rfl ?_
  exact h
 refine DM.q (fun e c hk => (.nilc (.t rfl))) rfl (fun _ _ => rfl) (fun _ _ _ => rfl) (.q (fun e c hk => (.fab (.t rfl) fa134_1)) rfl (fun _ _ => rfl) (fun _ _ _ => rfl) ?_)
 refine DM.eff0 (fun e c hk L_ hs Q h => ?_) ?_
 ·have hk_21 := hk.not
  have hk_15 := hk.up 15 (by kernel_rfl)
  simp only [addE, upd, eq_self, List.nil_append, List.cons_append, List.append_nil, hk_21, hk_15, Nat.reduceAdd, Nat.reduceEqDiff, ↓reduceIte, cond_true, cond_false] at h ⊢
  refine W.arr_inv 4 rfl (fun a9 n9 c9 h9 => ?_)
  rw [h9] at h ⊢
  refine W.stb 2 (.t (hs _ _ rfl)) (.t ((hs _ _ rfl).trans (congrArg (fun v => some (true, AV.lit v)) h9))) rfl ty59 rfl rfl rfl ?_
  exact h
 refine DM.nil (fun cc e_ he_ => ?_)
 simp only [he_ 9 (by decide), he_ 15 (by decide), he_ 18 (by decide), he_ 21 (by decide), cond_true, cond_false]
 generalize (cc 9).2 = v27
 generalize (cc 15).2 = v33
 refine W.h ?_; refine W.s ?_; refine W.r ?_; refine W.q (.move (.t rfl)) rfl ?_; refine W.bso (es := [_]) Tryz.underlying22 ty3 ⟨rfl, (.t rfl), rfl, rfl, trivial⟩ rfl (by decide) rfl rfl ?_; intro v39; refine W.q (.move (.t rfl)) rfl ?_; refine W.bso (es := [_]) Tryz.underlying22 ty3 ⟨rfl, (.t rfl), rfl, rfl, trivial⟩ rfl (by decide) rfl rfl ?_; intro v41; refine W.arr_inv 0 rfl (fun a8 n8 c8 h8 => ?_)
 subst h8
 refine W.arr_inv 1 rfl (fun a7 n7 c7 h7 => ?_)
 subst h7
 refine W.q (.build ty136 st136 rfl (fun hg => ⟨_, _, _, rfl, (.t rfl), rfl, rfl, rfl, _, _, _, rfl, (.t rfl), rfl, rfl, rfl, _, _, _, rfl, .k, rfl, rfl, rfl, rfl⟩)) rfl (.stb 2 (.t rfl) (.t rfl) rfl ty136 rfl rfl rfl (.n (.h ?_))); refine W.ret ?_; refine W.hr ?_; refine W.retn (M' := (.arr _ 3 1 [natv tys.length] :: .arr _ 3 1 [natv tys.length] :: .box b 134 [.lit v27, .lit v33, .lit (.slice none 0 0), .lit (.slice none 0 0), .bool false] :: .arr v27 3 1 (tys.map AV.int ++ [.int x.type]) :: .arr v33 22 1 (rowsV R ++ [.lit (.slice none 0 0)]) :: rowsM 3 (R ++ [(Value.slice none 0 0, [])]))) (D := _) (rs := [.cell 4 136]) (avs := [_]) Tryz.results69 ⟨⟨_, _, _, rfl, by repeat (first | exact List.mem_cons_self | apply List.mem_cons_of_mem), rfl, by funext w; exact ag136.run w, by funext w; exact ty136.size w⟩, trivial⟩ rfl (List.Perm.trans (List.Perm.swap _ _ _) (List.Perm.cons _ (List.Perm.cons _ (List.perm_append_comm (l₁ := [_, _]))))) ?_
 refine ⟨v27, v33, tys ++ [x.type], R ++ [(Value.slice none 0 0, [])], _, _, [tys.length], [tys.length], false, ?_, by rw [hxl, List.length_append]; rfl, ?_, by rw [List.length_append, List.length_append, hR]; rfl, rfl, ?_⟩
 ·rw [hxg, show folOf (R ++ [(Value.slice none 0 0, [])]) = folOf R ++ [[]] from by unfold folOf; rw [List.map_append]; rfl]; exact Pl.one (by rw [folOf_len]; exact hR) x.type
 ·intro c hc; rcases List.mem_append.1 hc with hc | hc; exact .inl hc; rw [List.mem_singleton.1 hc]; exact .inr hxt
 ·rw [List.map_append, show rowsV (R ++ [(Value.slice none 0 0, [])]) = rowsV R ++ [.lit (.slice none 0 0)] from by unfold rowsV; rw [List.map_append]; rfl]; rfl
theorem c_addA (x : Ex) (hx : x.ok) (hk : 3 ≤ x.kind ∧ x.kind ≤ 6) (ih : ∀ y ∈ x.parts, ∀ (b : Nat) (vT vF : Value) (tys : List Int) (R : List Rw), R.length = tys.length → tys.length + y.sz ≤ 1048576 → FnC Tryz.prog 69 [.lit (.pointer (some ⟨b, 0, none⟩)), y.avx] (.box b 134 [.lit vT, .lit vF, .lit (.slice none 0 0), .lit (.slice none 0 0), .bool false] :: .arr vT 3 1 (tys.map AV.int) :: .arr vF 22 1 (rowsV R) :: rowsM 3 R) (fun r M => ∃ vT' vF' tys' R' v1 v2 fi la no, Pl tys (folOf R) tys' (folOf R') fi la no y.lg ∧ tys'.length = tys.length + y.lv ∧ Tys tys tys' ∧ R'.length = tys'.length ∧ r = .agg [.lit v1, .lit v2, .bool no] ∧ M = .arr v1 3 1 (fi.map natv) :: .arr v2 3 1 (la.map natv) :: .box b 134 [.lit vT', .lit vF', .lit (.slice none 0 0), .lit (.slice none 0 0), .bool false] :: .arr vT' 3 1 (tys'.map AV.int) :: .arr vF' 22 1 (rowsV R') :: rowsM 3 R')) (b : Nat) (vT vF : Value) (tys : List Int) (R : List Rw) (hR : R.length = tys.length) (hsz : tys.length + x.sz ≤ 1048576) : FnC Tryz.prog 69 [.lit (.pointer (some ⟨b, 0, none⟩)), x.avx] (.box b 134 [.lit vT, .lit vF, .lit (.slice none 0 0), .lit (.slice none 0 0), .bool false] :: .arr vT 3 1 (tys.map AV.int) :: .arr vF 22 1 (rowsV R) :: rowsM 3 R) (fun r M => ∃ vT' vF' tys' R' v1 v2 fi la no, Pl tys (folOf R) tys' (folOf R') fi la no x.lg ∧ tys'.length = tys.length + x.lv ∧ Tys tys tys' ∧ R'.length = tys'.length ∧ r = .agg [.lit v1, .lit v2, .bool no] ∧ M = .arr v1 3 1 (fi.map natv) :: .arr v2 3 1 (la.map natv) :: .box b 134 [.lit vT', .lit vF', .lit (.slice none 0 0), .lit (.slice none 0 0), .bool false] :: .arr vT' 3 1 (tys'.map AV.int) :: .arr vF' 22 1 (rowsV R') :: rowsM 3 R') :=  by
 refine FnC.mk Tryz.func69 (by kernel_rfl) rfl Tryz.ntmps69 rfl (fun w0 F => ?_)
 have hszx := Ex.sz_eq x
 have hpln := Ex.szs_len x.parts
 have hlsz := Ex.lv_sz x
 have hxl : x.lv = Ex.lvs x.parts := by rw [Ex.lv_eq, if_neg (by omega)]
 refine W.s ?_; refine W.r ?_; refine W.box (.t rfl) rfl rfl ?_; intro b3; refine W.alloc ty136 rfl rfl ?_; intro b4; refine W.n ?_; refine W.h ?_; refine W.s ?_; refine W.s ?_; refine W.r ?_
 refine W.q (.fab (.t rfl) fa56_0) rfl (.q (.ldb1 1 (.t rfl) rfl ag3 rfl) rfl (.q (.eqi (.t rfl) .k) rfl (.n (.h ?_)))); refine W.isb 12 false rfl (by rw [beq_eq_false_iff_ne]; show x.kind ≠ 1; omega) ?_; refine W.condF (.t rfl) (.k (.h (.s (.r (.q (.fab (.t rfl) fa56_0) rfl (.q (.ldb1 1 (.t rfl) rfl ag3 rfl) rfl ?_))))))
 refine W.q (.eqi (.t rfl) .k) rfl ?_; refine W.isb 45 false rfl (by rw [beq_eq_false_iff_ne]; show x.kind ≠ 2; omega) ?_; refine W.q (.build ty136 st136 rfl (fun hg => ⟨_, _, _, rfl, (.t rfl), rfl, rfl, rfl, rfl⟩)) rfl ?_; refine W.alloc ty136 rfl rfl ?_; intro b6
 refine W.stb 0 (.t rfl) (.t rfl) rfl ty136 rfl rfl rfl (.n (.h (.s (.s (.r (.q (.fab (.t rfl) fa56_2) rfl (.q (.ldb1 2 (.t rfl) rfl ag54 rfl) rfl (.q (.lensl (.t rfl) Tryz.underlying54) rfl (.q (.move .k) rfl (.n (.h (.b ?_)))))))))))); refine W.own_nil 3 1 ?_; refine W.own_nil 3 1 ?_; refine W.loop (D := []) (ι := AddZ) (fun z => [(50, true, .int (z.i : Int)), (49, true, .int ((x.parts.map Ex.av).length : Int)), (48, true, .sl 3 (x.parts.map Ex.av)), (0, true, .lit (.pointer (some ⟨b, 0, none⟩))), (3, true, .lit (.pointer (some ⟨b3, 0, none⟩))), (4, true, .lit (.pointer (some ⟨b4, 0, none⟩))), (6, true, .lit (.pointer (some ⟨b6, 0, none⟩)))]) (fun z => .arr z.vf 3 1 (z.fi.map natv) :: .arr z.vl 3 1 (z.la.map natv) :: .box b6 136 [.lit z.vf, .lit z.vl, .bool z.no] :: .box b4 136 [.lit (.slice none 0 0), .lit (.slice none 0 0), .lit (.bool false)] :: .box b3 56 x.avx.cells :: .box b 134 [.lit z.vT, .lit z.vF, .lit (.slice none 0 0), .lit (.slice none 0 0), .bool false] :: .arr z.vT 3 1 (z.tys.map AV.int) :: .arr z.vF 22 1 (rowsV z.R) :: rowsM 3 z.R) (fun z => Pl tys (folOf R) z.tys (folOf z.R) z.fi z.la z.no (Ex.alts (x.parts.take z.i)) ∧ z.i ≤ x.parts.length ∧ z.R.length = z.tys.length ∧ z.tys.length = tys.length + Ex.lvs (x.parts.take z.i) ∧ Tys tys z.tys) (fun z => x.parts.length - z.i) ⟨0, [], [], false, .slice none 0 0, .slice none 0 0, vT, vF, tys, R⟩ ⟨rfl, rfl, rfl, rfl, rfl, rfl, rfl, trivial⟩ (by rw [List.append_nil]; exact .refl _) ⟨Pl.nothing (by rw [folOf_len]; exact hR) false, Nat.zero_le _, hR, rfl, Tys.refl _⟩ ?_
 rintro ⟨i, fi, la, no, vf, vl, vT1, vF1, tys1, R1⟩ ⟨hP, hi, hR1, hlv, hty⟩
 dsimp only at hP hi hR1 hlv hty ⊢
 have hml : (x.parts.map Ex.av).length = x.parts.length := List.length_map ..
 have hpl := hP.lf
 have hpl2 := hP.ll
 have hlt0 := Ex.lvs_take x.parts i
 rcases (show i < x.parts.length ∨ i = x.parts.length from by omega) with hlt | hend
 ·have hga := Ex.at_av x.parts i hlt
  have hym := getD_memG Ex.dflt x.parts i hlt
  have hlv2 := Ex.lvs_snoc x.parts i hlt
  have hlg := alts_snoc x.parts i hlt
  have hlt1 := Ex.lvs_take x.parts (i + 1)
  have hysz : tys1.length + (x.parts.getD i Ex.dflt).sz ≤ 1048576 := by
   have h1 := Ex.szs_append (x.parts.take i) (x.parts.drop i)
   rw [List.take_append_drop] at h1
   have h2 : (x.parts.getD i Ex.dflt).sz ≤ Ex.szs (x.parts.drop i) := by
    refine Ex.szs_mem ?_
    rw [List.drop_eq_getElem_cons hlt, List.getD_eq_getElem?_getD, List.getElem?_eq_getElem hlt]; exact List.mem_cons_self
   have h3 : Ex.lvs (x.parts.take i) ≤ Ex.szs (x.parts.take i) := by
    have : ∀ l : List Ex, Ex.lvs l ≤ Ex.szs l := fun l => by
     induction l with
     | nil => exact Nat.le_refl _
     | cons d l ih => rw [Ex.lvs, Ex.szs]; have := Ex.lv_sz d; omega
    exact this _
   omega
  have hcall := ih _ hym b vT1 vF1 tys1 R1 hR1 hysz
  generalize x.parts.getD i Ex.dflt = y at hga hym hlv2 hlg hysz hcall
  refine W.s (.r (.q (.lti (.t rfl) (.t rfl)) rfl (.n (.h (.s ?_))))); refine W.isb 51 true rfl (by exact decide_eq_true (by omega)) ?_; refine W.condT (.t rfl) (.k (.h (.s (.b (.s (.r ?_)))))); refine W.q (.at (E := 56) (.t rfl) (.t rfl) Tryz.underlying54 ty56 (fun _ => ⟨by omega, hga⟩) rfl rfl) rfl ?_; refine W.q (.lden (.t rfl) ag56 ty56 rfl rfl) rfl ?_
  refine W.alloc ty56 rfl rfl ?_; intro b8
  refine W.stb 0 (.t rfl) (.t rfl) rfl ty56 rfl rfl rfl (.n (.h (.s (.r (.mv rfl rfl (.q (.ldbn 0 (.t rfl) rfl ag56 ty56 rfl) rfl ?_)))))); refine W.call (hcall) ⟨(.t rfl), (.t rfl), trivial⟩ (List.perm_append_comm (l₁ := [_, _, _, _, _, _])) rfl ?_
  rintro _ _ ⟨vT2, vF2, tys2, R2, v1, v2, fi2, la2, n2, hP2, hlv3, hty2, hR2, rfl, rfl⟩
  refine W.perm (List.Perm.cons _ (List.Perm.cons _ (List.perm_append_comm (l₂ := [_, _, _, _, _, _])))) ?_
  have hle2 := hP2.le
  have hp2f := hP2.lf
  have hp2l := hP2.ll
  refine W.alloc ty136 rfl rfl ?_; intro b9
  refine W.stb 0 (.t rfl) (.t rfl) rfl ty136 rfl rfl rfl (.n (.h (.b (.s (.r (.q (.fab (.t rfl) fa56_0) rfl (.q (.ldb1 8 (.t rfl) rfl ag3 rfl) rfl (.q (.nei (.t rfl) .k) rfl (.asg rfl rfl (.n (.h ?_))))))))))); refine W.isb 88 true rfl (by show (x.kind != 2) = true; rw [bne_iff_ne]; omega) ?_; refine W.condT (.t rfl) (.s ?_); refine W.drawnM (fun ee c_ => .box b9 136 [.lit v1, .lit v2, .bool n2] :: .arr v1 3 1 (fi2.map natv) :: .arr v2 3 1 (la2.map natv) :: .box b8 56 y.avx.cells :: (bif ee 4 then .arr (c_ 4).2 3 1 (fi.map natv ++ fi2.map natv) else .arr vf 3 1 (fi.map natv)) :: (bif ee 9 then .arr (c_ 9).2 3 1 (la.map natv ++ la2.map natv) else .arr vl 3 1 (la.map natv)) :: .box b6 136 [bif ee 11 then .lit (c_ 4).2 else .lit vf, bif ee 13 then .lit (c_ 9).2 else .lit vl, .bool no] :: .box b4 136 [.lit (.slice none 0 0), .lit (.slice none 0 0), .lit (.bool false)] :: .box b3 56 x.avx.cells :: .box b 134 [.lit vT2, .lit vF2, .lit (.slice none 0 0), .lit (.slice none 0 0), .bool false] :: .arr vT2 3 1 (tys2.map AV.int) :: .arr vF2 22 1 (rowsV R2) :: rowsM 3 R2) (c0 := ks0) (by kernel_rfl) (by kernel_rfl) rfl ?_; refine DM.q (fun e c hk => (.fab (.t rfl) fa136_0)) rfl (fun _ _ => rfl) (fun _ _ _ => rfl) ?_; refine DM.q (av := fun _ => .lit vf) (fun e c hk => by have h := hk.down 11 (by kernel_rfl); simp only [h, cond_false]; exact Ev.ldb1 6 (.t rfl) rfl ag22 rfl) rfl (fun _ _ => rfl) (fun _ _ _ => rfl) ?_; refine DM.q (fun e c hk => (.fab (.t rfl) fa136_0)) rfl (fun _ _ => rfl) (fun _ _ _ => rfl) (.q (fun e c hk => (.ldb1 0 (.t rfl) rfl ag22 rfl)) rfl (fun _ _ => rfl) (fun _ _ _ => rfl) ?_)
  refine DM.eff1 (av := fun c => .lit (c 4).2) rfl (fun c c_ h => by (simp only [h 4 (by (exact .inl rfl))])) (fun e c hk L_ hs Q h => ?_) ?_
  ·have hk_4 := hk.not
   have hk_9 := hk.down 9 (by kernel_rfl)
   have hk_11 := hk.down 11 (by kernel_rfl)
   have hk_13 := hk.down 13 (by kernel_rfl)
   simp only [addE, upd, eq_self, List.nil_append, List.cons_append, List.append_nil, hk_4, hk_9, hk_11, hk_13, Nat.reduceAdd, Nat.reduceEqDiff, ↓reduceIte, cond_true, cond_false] at h ⊢
   ((refine W.app 4 (.t (hs _ _ rfl)) rfl (.arr 1 (.t (hs _ _ rfl)) rfl (okc_natv fi2)) Tryz.underlying22 ni22 ty3 rfl rfl (by rw [List.length_map, List.length_map]; omega) rfl ?_; exact fun v => h (0, v) _ (by (exact .refl _))))
  refine DM.q (fun e c hk => (.fab (.t rfl) fa136_1)) rfl (fun _ _ => rfl) (fun _ _ _ => rfl) ?_; refine DM.q (av := fun _ => .lit vl) (fun e c hk => by have h := hk.down 13 (by kernel_rfl); simp only [h, cond_false]; exact Ev.ldb1 6 (.t rfl) rfl ag22 rfl) rfl (fun _ _ => rfl) (fun _ _ _ => rfl) ?_; refine DM.q (fun e c hk => (.fab (.t rfl) fa136_1)) rfl (fun _ _ => rfl) (fun _ _ _ => rfl) (.q (fun e c hk => (.ldb1 0 (.t rfl) rfl ag22 rfl)) rfl (fun _ _ => rfl) (fun _ _ _ => rfl) ?_)
  refine DM.eff1 (av := fun c => .lit (c 9).2) rfl (fun c c_ h => by (simp only [h 4 (by (exact .inr (by kernel_rfl))), h 9 (by (exact .inl rfl))])) (fun e c hk L_ hs Q h => ?_) ?_
  ·have hk_9 := hk.not
   have hk_4 := hk.up 4 (by kernel_rfl)
   have hk_11 := hk.down 11 (by kernel_rfl)
   have hk_13 := hk.down 13 (by kernel_rfl)
   simp only [addE, upd, eq_self, List.nil_append, List.cons_append, List.append_nil, hk_9, hk_4, hk_11, hk_13, Nat.reduceAdd, Nat.reduceEqDiff, ↓reduceIte, cond_true, cond_false] at h ⊢
   ((refine W.app 5 (.t (hs _ _ rfl)) rfl (.arr 2 (.t (hs _ _ rfl)) rfl (okc_natv la2)) Tryz.underlying22 ni22 ty3 rfl rfl (by rw [List.length_map, List.length_map]; omega) rfl ?_; exact fun v => h (0, v) _ (by (exact .refl _))))
  refine DM.q (fun e c hk => (.fab (.t rfl) fa136_0)) rfl (fun _ _ => rfl) (fun _ _ _ => rfl) ?_
  refine DM.eff0 (fun e c hk L_ hs Q h => ?_) ?_
  ·have hk_11 := hk.not
   have hk_4 := hk.up 4 (by kernel_rfl)
   simp only [addE, upd, eq_self, List.nil_append, List.cons_append, List.append_nil, hk_11, hk_4, Nat.reduceAdd, Nat.reduceEqDiff, ↓reduceIte, cond_true, cond_false] at h ⊢
   refine W.arr_inv 4 rfl (fun a9 n9 c9 h9 => ?_)
   rw [h9] at h ⊢
   refine W.stb 6 (.t (hs _ _ rfl)) (.t ((hs _ _ rfl).trans (congrArg (fun v => some (true, AV.lit v)) h9))) rfl ty22 rfl rfl rfl ?_
   exact h
  refine DM.q (fun e c hk => (.fab (.t rfl) fa136_1)) rfl (fun _ _ => rfl) (fun _ _ _ => rfl) ?_
  refine DM.eff0 (fun e c hk L_ hs Q h => ?_) ?_
  ·have hk_13 := hk.not
   have hk_9 := hk.up 9 (by kernel_rfl)
   simp only [addE, upd, eq_self, List.nil_append, List.cons_append, List.append_nil, hk_13, hk_9, Nat.reduceAdd, Nat.reduceEqDiff, ↓reduceIte, cond_true, cond_false] at h ⊢
   refine W.arr_inv 5 rfl (fun a9 n9 c9 h9 => ?_)
   rw [h9] at h ⊢
   refine W.stb 6 (.t (hs _ _ rfl)) (.t ((hs _ _ rfl).trans (congrArg (fun v => some (true, AV.lit v)) h9))) rfl ty22 rfl rfl rfl ?_
   exact h
  refine DM.nil (fun cc e_ he_ => ?_)
  simp only [he_ 4 (by decide), he_ 9 (by decide), he_ 11 (by decide), he_ 13 (by decide), cond_true, cond_false]
  generalize (cc 4).2 = v96
  generalize (cc 9).2 = v101
  refine W.h (.r (.q (.fab (.t rfl) fa136_2) rfl (.q (.ldb1 6 (.t rfl) rfl ag4 rfl) rfl (.mv rfl rfl (.qgF rfl rfl (.fab (.t rfl) fa136_2) rfl (.qgF rfl rfl (.ldb1 0 (.c rfl) rfl ag4 rfl) rfl ?_)))))); refine W.q (.or (.t rfl) ⟨_, _, rfl, rfl, by ((simp; done))⟩) rfl ?_; refine W.q (.fab (.t rfl) fa136_2) rfl (.stb 6 (.t rfl) (.t rfl) rfl ty4 rfl rfl rfl (.n (.bn (.bn (.h (.r (.q (.add (.t rfl) .k (fun _ => by omega)) rfl ?_)))))))
  refine W.q (.move (.t rfl)) rfl ?_; refine W.n ?_; refine W.h ?_; refine W.reach (D := [.box b9 136 [.lit v1, .lit v2, .bool n2], .arr v1 3 1 (fi2.map natv), .arr v2 3 1 (la2.map natv), .box b8 56 y.avx.cells]) ⟨i + 1, fi ++ fi2, la ++ la2, no || n2, v96, v101, vT2, vF2, tys2, R2⟩ ⟨rfl, rfl, rfl, rfl, rfl, rfl, rfl, trivial⟩ ?_ ⟨⟨by dsimp only; rw [hlg]; exact hP.or hP2, hlt, hR2, by dsimp only; omega, hty.trans hty2⟩, by show x.parts.length - (i + 1) < x.parts.length - i; omega⟩
  dsimp only
  rw [List.map_append, List.map_append]
  exact List.perm_append_comm (l₁ := [_, _, _, _])
 ·subst hend
  rw [List.take_length] at hP hlv
  refine W.s (.r (.q (.lti (.t rfl) (.t rfl)) rfl (.n (.h (.s ?_))))); refine W.isb 51 false rfl (by exact decide_eq_false (by omega)) ?_; refine W.condF (.t rfl) (.ex (.he (.he (.bh (.h (.s (.s (.r ?_))))))))
  have hpre := hP.pre1
  refine W.q (.fab (.t rfl) fa56_0) rfl (.q (.ldb1 4 (.t rfl) rfl ag3 rfl) rfl (.q (.eqi (.t rfl) .k) rfl (.mv rfl rfl (.qgF rfl rfl (.fab (.t rfl) fa56_0) rfl (.qgF rfl rfl (.ldb1 4 (.c rfl) rfl ag3 rfl) rfl ?_)))))
  refine W.qgF rfl rfl (.eqi (.c rfl) .k) rfl ?_; refine W.q (.or (.t rfl) ⟨_, _, rfl, rfl, by ((simp; done))⟩) rfl ?_; refine W.n ?_; refine W.h ?_; refine W.cond (.t rfl) (fun hc_t119 => ?_) (fun hc_t119 => ?_)
  ·have hk45 : x.kind = 4 ∨ x.kind = 5 := by simpa using hc_t119
   refine W.r (.mv rfl rfl (.q (.fab (.t rfl) fa136_1) rfl (.q (.ldb1 2 (.t rfl) rfl ag22 rfl) rfl (.q (.fab (.t rfl) fa136_0) rfl (.q (.ldb1 2 (.t rfl) rfl ag22 rfl) rfl ?_))))); refine W.call (WLink.c_link b vl vf vT1 vF1 tys1 R1 la fi (fun p hp => by have := hpre.1 p hp; omega) hpre.2.1 (fun p hp q hq => by have := hpre.2.2.1 p hp q hq; omega) (fun q hq => by have := hpre.2.2.2 q hq; omega) (by omega) (by omega) (by omega)) ⟨(.t rfl), (.t rfl), (.t rfl), trivial⟩ ((List.Perm.trans (List.Perm.swap _ _ _) (List.Perm.cons _ (List.Perm.cons _ (List.perm_append_comm (l₁ := [_, _, _])))))) rfl ?_
   rintro _ _ ⟨rfl, R3, hL3, hR3, rfl⟩
   refine W.perm (List.Perm.trans (List.Perm.cons _ (List.Perm.cons _ (List.perm_append_comm (l₂ := [_, _, _])))) (List.Perm.swap _ _ _)) ?_; refine W.n (.h (.s (.r (.q (.fab (.t rfl) fa136_2) rfl (.q (.ldb1 2 (.t rfl) rfl ag4 rfl) rfl (.mv rfl rfl (.qgF rfl rfl (.fab (.t rfl) fa56_0) rfl (.qgF rfl rfl (.ldb1 4 (.c rfl) rfl ag3 rfl) rfl (.qgF rfl rfl (.eqi (.c rfl) .k) rfl ?_))))))))); refine W.q (.or (.t rfl) ⟨_, _, rfl, rfl, by ((simp; done))⟩) rfl ?_; refine W.mv rfl rfl (.qgF rfl rfl (.fab (.t rfl) fa56_0) rfl (.qgF rfl rfl (.ldb1 4 (.c rfl) rfl ag3 rfl) rfl (.qgF rfl rfl (.eqi (.c rfl) .k) rfl ?_))); refine W.q (.or (.t rfl) ⟨_, _, rfl, rfl, by ((simp; done))⟩) rfl ?_; refine W.q (.fab (.t rfl) fa136_2) rfl (.stb 2 (.t rfl) (.t rfl) rfl ty4 rfl rfl rfl (.n (.h (.s (.r (.q (.ldbn 2 (.t rfl) rfl ag136 ty136 rfl) rfl (.stb 3 (.t rfl) (.t rfl) rfl ty136 rfl rfl rfl (.n (.h ?_))))))))); refine W.ret ?_; refine W.retn (M' := (.arr vf 3 1 (fi.map natv) :: .arr vl 3 1 (la.map natv) :: .box b 134 [.lit vT1, .lit vF1, .lit (.slice none 0 0), .lit (.slice none 0 0), .bool false] :: .arr vT1 3 1 (tys1.map AV.int) :: .arr vF1 22 1 (rowsV R3) :: rowsM 3 R3)) (D := _) (rs := [.cell 4 136]) (avs := [_]) Tryz.results69 ⟨⟨_, _, _, rfl, by repeat (first | exact List.mem_cons_self | apply List.mem_cons_of_mem), rfl, by funext w; exact ag136.run w, by funext w; exact ty136.size w⟩, trivial⟩ rfl (List.Perm.cons _ (List.Perm.cons _ (List.perm_append_comm (l₁ := [_, _, _])))) ?_
   exact ⟨vT1, vF1, tys1, R3, vf, vl, fi, la, _, hP.fin4 hL3 hk45, by rw [Ex.lv_eq, if_neg (by omega)]; exact hlv, hty, by omega, rfl, rfl⟩
  ·have hk36 : x.kind = 3 ∨ x.kind = 6 := by
    have h : ¬ (x.kind = 4 ∨ x.kind = 5) := by simpa using hc_t119
    omega
   refine W.k (.h (.s (.r (.q (.fab (.t rfl) fa136_2) rfl (.q (.ldb1 2 (.t rfl) rfl ag4 rfl) rfl (.mv rfl rfl (.qgF rfl rfl (.fab (.t rfl) fa56_0) rfl (.qgF rfl rfl (.ldb1 4 (.c rfl) rfl ag3 rfl) rfl (.qgF rfl rfl (.eqi (.c rfl) .k) rfl ?_))))))))); refine W.q (.or (.t rfl) ⟨_, _, rfl, rfl, by ((simp; done))⟩) rfl ?_; refine W.mv rfl rfl (.qgF rfl rfl (.fab (.t rfl) fa56_0) rfl (.qgF rfl rfl (.ldb1 4 (.c rfl) rfl ag3 rfl) rfl (.qgF rfl rfl (.eqi (.c rfl) .k) rfl ?_))); refine W.q (.or (.t rfl) ⟨_, _, rfl, rfl, by ((simp; done))⟩) rfl ?_; refine W.q (.fab (.t rfl) fa136_2) rfl (.stb 2 (.t rfl) (.t rfl) rfl ty4 rfl rfl rfl (.n (.h (.s (.r (.q (.ldbn 2 (.t rfl) rfl ag136 ty136 rfl) rfl (.stb 3 (.t rfl) (.t rfl) rfl ty136 rfl rfl rfl (.n (.h ?_))))))))); refine W.ret ?_; refine W.retn (M' := (.arr vf 3 1 (fi.map natv) :: .arr vl 3 1 (la.map natv) :: .box b 134 [.lit vT1, .lit vF1, .lit (.slice none 0 0), .lit (.slice none 0 0), .bool false] :: .arr vT1 3 1 (tys1.map AV.int) :: .arr vF1 22 1 (rowsV R1) :: rowsM 3 R1)) (D := _) (rs := [.cell 4 136]) (avs := [_]) Tryz.results69 ⟨⟨_, _, _, rfl, by repeat (first | exact List.mem_cons_self | apply List.mem_cons_of_mem), rfl, by funext w; exact ag136.run w, by funext w; exact ty136.size w⟩, trivial⟩ rfl (List.Perm.cons _ (List.Perm.cons _ (List.perm_append_comm (l₁ := [_, _, _])))) ?_
   exact ⟨vT1, vF1, tys1, R1, vf, vl, fi, la, _, hP.fin3 hk36, by rw [Ex.lv_eq, if_neg (by omega)]; exact hlv, hty, by omega, rfl, rfl⟩
theorem c_addS (x : Ex) (hx : x.ok) (hk : x.kind = 2) (ih : ∀ y ∈ x.parts, ∀ (b : Nat) (vT vF : Value) (tys : List Int) (R : List Rw), R.length = tys.length → tys.length + y.sz ≤ 1048576 → FnC Tryz.prog 69 [.lit (.pointer (some ⟨b, 0, none⟩)), y.avx] (.box b 134 [.lit vT, .lit vF, .lit (.slice none 0 0), .lit (.slice none 0 0), .bool false] :: .arr vT 3 1 (tys.map AV.int) :: .arr vF 22 1 (rowsV R) :: rowsM 3 R) (fun r M => ∃ vT' vF' tys' R' v1 v2 fi la no, Pl tys (folOf R) tys' (folOf R') fi la no y.lg ∧ tys'.length = tys.length + y.lv ∧ Tys tys tys' ∧ R'.length = tys'.length ∧ r = .agg [.lit v1, .lit v2, .bool no] ∧ M = .arr v1 3 1 (fi.map natv) :: .arr v2 3 1 (la.map natv) :: .box b 134 [.lit vT', .lit vF', .lit (.slice none 0 0), .lit (.slice none 0 0), .bool false] :: .arr vT' 3 1 (tys'.map AV.int) :: .arr vF' 22 1 (rowsV R') :: rowsM 3 R')) (b : Nat) (vT vF : Value) (tys : List Int) (R : List Rw) (hR : R.length = tys.length) (hsz : tys.length + x.sz ≤ 1048576) : FnC Tryz.prog 69 [.lit (.pointer (some ⟨b, 0, none⟩)), x.avx] (.box b 134 [.lit vT, .lit vF, .lit (.slice none 0 0), .lit (.slice none 0 0), .bool false] :: .arr vT 3 1 (tys.map AV.int) :: .arr vF 22 1 (rowsV R) :: rowsM 3 R) (fun r M => ∃ vT' vF' tys' R' v1 v2 fi la no, Pl tys (folOf R) tys' (folOf R') fi la no x.lg ∧ tys'.length = tys.length + x.lv ∧ Tys tys tys' ∧ R'.length = tys'.length ∧ r = .agg [.lit v1, .lit v2, .bool no] ∧ M = .arr v1 3 1 (fi.map natv) :: .arr v2 3 1 (la.map natv) :: .box b 134 [.lit vT', .lit vF', .lit (.slice none 0 0), .lit (.slice none 0 0), .bool false] :: .arr vT' 3 1 (tys'.map AV.int) :: .arr vF' 22 1 (rowsV R') :: rowsM 3 R') :=  by
 refine FnC.mk Tryz.func69 (by kernel_rfl) rfl Tryz.ntmps69 rfl (fun w0 F => ?_)
 have hszx := Ex.sz_eq x
 have hpln := Ex.szs_len x.parts
 have hlsz := Ex.lv_sz x
 have hxl : x.lv = Ex.lvs x.parts := by rw [Ex.lv_eq, if_neg (by omega)]
 refine W.s ?_; refine W.r ?_; refine W.box (.t rfl) rfl rfl ?_; intro b3; refine W.alloc ty136 rfl rfl ?_; intro b4; refine W.n ?_; refine W.h ?_; refine W.s ?_; refine W.s ?_; refine W.r ?_
 refine W.q (.fab (.t rfl) fa56_0) rfl (.q (.ldb1 1 (.t rfl) rfl ag3 rfl) rfl (.q (.eqi (.t rfl) .k) rfl (.n (.h ?_)))); refine W.isb 12 false rfl (by rw [hk]; rfl) ?_; refine W.condF (.t rfl) (.k (.h (.s (.r (.q (.fab (.t rfl) fa56_0) rfl (.q (.ldb1 1 (.t rfl) rfl ag3 rfl) rfl ?_))))))
 refine W.q (.eqi (.t rfl) .k) rfl ?_; refine W.isb 45 true rfl (by rw [hk]; rfl) ?_; refine W.q (.build ty136 st136 rfl (fun hg => ⟨_, _, _, rfl, (.t rfl), rfl, rfl, rfl, rfl⟩)) rfl ?_; refine W.alloc ty136 rfl rfl ?_; intro b6
 refine W.stb 0 (.t rfl) (.t rfl) rfl ty136 rfl rfl rfl (.n (.h (.s (.s (.r (.q (.fab (.t rfl) fa56_2) rfl (.q (.ldb1 2 (.t rfl) rfl ag54 rfl) rfl (.q (.lensl (.t rfl) Tryz.underlying54) rfl (.q (.move .k) rfl (.n (.h (.b ?_)))))))))))); refine W.own_nil 3 1 ?_; refine W.own_nil 3 1 ?_; refine W.loop (D := []) (ι := AddZ) (fun z => [(50, true, .int (z.i : Int)), (49, true, .int ((x.parts.map Ex.av).length : Int)), (48, true, .sl 3 (x.parts.map Ex.av)), (0, true, .lit (.pointer (some ⟨b, 0, none⟩))), (3, true, .lit (.pointer (some ⟨b3, 0, none⟩))), (4, true, .lit (.pointer (some ⟨b4, 0, none⟩))), (6, true, .lit (.pointer (some ⟨b6, 0, none⟩)))]) (fun z => .arr z.vf 3 1 (z.fi.map natv) :: .arr z.vl 3 1 (z.la.map natv) :: .box b6 136 [.lit z.vf, .lit z.vl, .bool z.no] :: .box b4 136 [.lit (.slice none 0 0), .lit (.slice none 0 0), .lit (.bool false)] :: .box b3 56 x.avx.cells :: .box b 134 [.lit z.vT, .lit z.vF, .lit (.slice none 0 0), .lit (.slice none 0 0), .bool false] :: .arr z.vT 3 1 (z.tys.map AV.int) :: .arr z.vF 22 1 (rowsV z.R) :: rowsM 3 z.R) (fun z => Pl tys (folOf R) z.tys (folOf z.R) z.fi z.la z.no (Ex.seqs (x.parts.take z.i)) ∧ z.i ≤ x.parts.length ∧ z.R.length = z.tys.length ∧ z.tys.length = tys.length + Ex.lvs (x.parts.take z.i) ∧ Tys tys z.tys) (fun z => x.parts.length - z.i) ⟨0, [], [], true, .slice none 0 0, .slice none 0 0, vT, vF, tys, R⟩ ⟨rfl, rfl, rfl, rfl, rfl, rfl, rfl, trivial⟩ (by rw [List.append_nil]; exact .refl _) ⟨Pl.nothing (by rw [folOf_len]; exact hR) true, Nat.zero_le _, hR, rfl, Tys.refl _⟩ ?_
 rintro ⟨i, fi, la, no, vf, vl, vT1, vF1, tys1, R1⟩ ⟨hP, hi, hR1, hlv, hty⟩
 dsimp only at hP hi hR1 hlv hty ⊢
 have hml : (x.parts.map Ex.av).length = x.parts.length := List.length_map ..
 have hpl := hP.lf
 have hpl2 := hP.ll
 have hlt0 := Ex.lvs_take x.parts i
 rcases (show i < x.parts.length ∨ i = x.parts.length from by omega) with hlt | hend
 ·have hga := Ex.at_av x.parts i hlt
  have hym := getD_memG Ex.dflt x.parts i hlt
  have hlv2 := Ex.lvs_snoc x.parts i hlt
  have hlg := seqs_snoc x.parts i hlt
  have hlt1 := Ex.lvs_take x.parts (i + 1)
  have hysz : tys1.length + (x.parts.getD i Ex.dflt).sz ≤ 1048576 := by
   have h1 := Ex.szs_append (x.parts.take i) (x.parts.drop i)
   rw [List.take_append_drop] at h1
   have h2 : (x.parts.getD i Ex.dflt).sz ≤ Ex.szs (x.parts.drop i) := by
    refine Ex.szs_mem ?_
    rw [List.drop_eq_getElem_cons hlt, List.getD_eq_getElem?_getD, List.getElem?_eq_getElem hlt]; exact List.mem_cons_self
   have h3 : Ex.lvs (x.parts.take i) ≤ Ex.szs (x.parts.take i) := by
    have : ∀ l : List Ex, Ex.lvs l ≤ Ex.szs l := fun l => by
     induction l with
     | nil => exact Nat.le_refl _
     | cons d l ih => rw [Ex.lvs, Ex.szs]; have := Ex.lv_sz d; omega
    exact this _
   omega
  have hcall := ih _ hym b vT1 vF1 tys1 R1 hR1 hysz
  generalize x.parts.getD i Ex.dflt = y at hga hym hlv2 hlg hysz hcall
  refine W.s (.r (.q (.lti (.t rfl) (.t rfl)) rfl (.n (.h (.s ?_))))); refine W.isb 51 true rfl (by exact decide_eq_true (by omega)) ?_; refine W.condT (.t rfl) (.k (.h (.s (.b (.s (.r ?_)))))); refine W.q (.at (E := 56) (.t rfl) (.t rfl) Tryz.underlying54 ty56 (fun _ => ⟨by omega, hga⟩) rfl rfl) rfl ?_; refine W.q (.lden (.t rfl) ag56 ty56 rfl rfl) rfl ?_
  refine W.alloc ty56 rfl rfl ?_; intro b8
  refine W.stb 0 (.t rfl) (.t rfl) rfl ty56 rfl rfl rfl (.n (.h (.s (.r (.mv rfl rfl (.q (.ldbn 0 (.t rfl) rfl ag56 ty56 rfl) rfl ?_)))))); refine W.call (hcall) ⟨(.t rfl), (.t rfl), trivial⟩ (List.perm_append_comm (l₁ := [_, _, _, _, _, _])) rfl ?_
  rintro _ _ ⟨vT2, vF2, tys2, R2, v1, v2, fi2, la2, n2, hP2, hlv3, hty2, hR2, rfl, rfl⟩
  refine W.perm (List.Perm.trans (List.Perm.cons _ (List.Perm.cons _ (List.perm_append_comm (l₂ := [_, _, _, _, _, _])))) (List.perm_middle (l₁ := [_, _, _, _]))) ?_
  have hle2 := hP2.le
  have hp2f := hP2.lf
  have hp2l := hP2.ll
  have hpre := hP.pre2 hP2
  refine W.alloc ty136 rfl rfl ?_; intro b9
  refine W.stb 0 (.t rfl) (.t rfl) rfl ty136 rfl rfl rfl (.n (.h (.b (.s (.r (.q (.fab (.t rfl) fa56_0) rfl (.q (.ldb1 8 (.t rfl) rfl ag3 rfl) rfl (.q (.nei (.t rfl) .k) rfl (.asg rfl rfl (.n (.h ?_))))))))))); refine W.isb 88 false rfl (by rw [hk]; rfl) ?_; refine W.condF (.t rfl) (.s (.r (.mv rfl rfl (.q (.fab (.t rfl) fa136_1) rfl (.q (.ldb1 6 (.t rfl) rfl ag22 rfl) rfl (.q (.fab (.t rfl) fa136_0) rfl (.q (.ldb1 0 (.t rfl) rfl ag22 rfl) rfl ?_))))))); refine W.call (WLink.c_link b vl v1 vT2 vF2 tys2 R2 la fi2 (fun p hp => by have := hpre.1 p hp; omega) hpre.2.1 (fun p hp q hq => by have := hpre.2.2.1 p hp q hq; omega) (fun q hq => by have := hpre.2.2.2 q hq; omega) (by omega) (by omega) (by omega)) ⟨(.t rfl), (.t rfl), (.t rfl), trivial⟩ ((List.Perm.trans (List.Perm.swap _ _ _) (List.Perm.cons _ (List.Perm.trans (List.Perm.swap _ _ _) (List.Perm.cons _ (List.perm_append_comm (l₁ := [_, _, _, _, _, _, _]))))))) rfl ?_
  rintro _ _ ⟨rfl, R3, hL3, hR3, rfl⟩
  refine W.perm (List.Perm.cons _ (List.Perm.cons _ (List.perm_append_comm (l₂ := [_, _, _, _, _, _, _])))) ?_
  have hS := hP.seq hP2 hL3
  rw [← hlg] at hS
  refine W.n (.h (.s (.s (.r (.q (.fab (.t rfl) fa136_2) rfl (.q (.ldb1 6 (.t rfl) rfl ag4 rfl) rfl ?_))))))
  refine W.n ?_; refine W.h ?_; refine W.cond (.t rfl) (fun hc_t64 => ?_) (fun hc_t64 => ?_)
  ·have hn1 : no = true := hc_t64
   subst hn1
   refine W.r (.q (.fab (.t rfl) fa136_0) rfl (.q (.ldb1 6 (.t rfl) rfl ag22 rfl) rfl (.q (.fab (.t rfl) fa136_0) rfl (.q (.ldb1 2 (.t rfl) rfl ag22 rfl) rfl ?_)))); refine W.app 5 (.t rfl) rfl (.arr 1 (.t rfl) rfl (okc_natv fi2)) Tryz.underlying22 ni22 ty3 rfl rfl (by rw [List.length_map, List.length_map]; omega) rfl ?_
   intro v69
   refine W.q (.fab (.t rfl) fa136_0) rfl ?_
   refine W.arr_inv 5 rfl (fun a9 n9 c9 h9 => ?_)
   subst h9
   refine W.stb 6 (.t rfl) (.t rfl) rfl ty22 rfl rfl rfl (.n (.h (.s (.s (.r (.q (.fab (.t rfl) fa136_2) rfl (.q (.ldb1 2 (.t rfl) rfl ag4 rfl) rfl ?_)))))))
   refine W.q (.not (.t rfl)) rfl ?_; refine W.n ?_; refine W.h ?_; refine W.cond (.t rfl) (fun hc_t73 => ?_) (fun hc_t73 => ?_)
   ·have hn2 : n2 = false := by simpa using hc_t73
    subst hn2
    refine W.r (.q (.fab (.t rfl) fa136_1) rfl (.stb 6 (.t rfl) .k rfl ty22 rfl rfl rfl (.n (.h (.s (.r ?_)))))); refine W.own_nil 3 1 ?_; refine W.q (.fab (.t rfl) fa136_1) rfl (.q (.ldb1 7 (.t rfl) rfl ag22 rfl) rfl (.q (.fab (.t rfl) fa136_1) rfl (.q (.ldb1 3 (.t rfl) rfl ag22 rfl) rfl ?_))); refine W.app 0 (.t rfl) rfl (.arr 4 (.t rfl) rfl (okc_natv la2)) Tryz.underlying22 ni22 ty3 rfl rfl (by ((rw [List.length_map]; simp only [List.length_nil]; omega))) rfl ?_
    intro v79
    refine W.q (.fab (.t rfl) fa136_1) rfl ?_
    refine W.arr_inv 0 rfl (fun a8 n8 c8 h8 => ?_)
    subst h8
    refine W.stb 7 (.t rfl) (.t rfl) rfl ty22 rfl rfl rfl (.n (.h (.r (.q (.fab (.t rfl) fa136_2) rfl (.q (.ldb1 7 (.t rfl) rfl ag4 rfl) rfl (.mv rfl rfl (.qgT rfl rfl (.fab (.t rfl) fa136_2) rfl (.qgT rfl rfl (.ldb1 3 (.c rfl) rfl ag4 rfl) rfl ?_)))))))); refine W.q (.and (.t rfl) ⟨_, _, rfl, rfl, by ((simp; done))⟩) rfl ?_; refine W.q (.fab (.t rfl) fa136_2) rfl (.stb 7 (.t rfl) (.t rfl) rfl ty4 rfl rfl rfl (.n (.bn (.bn (.h (.r (.q (.add (.t rfl) .k (fun _ => by omega)) rfl ?_)))))))
    refine W.q (.move (.t rfl)) rfl ?_; refine W.n ?_; refine W.h ?_; refine W.reach (D := [.arr vl 3 1 (la.map natv), .arr v1 3 1 (fi2.map natv), .box b9 136 [.lit v1, .lit v2, .bool false], .arr v2 3 1 (la2.map natv), .box b8 56 y.avx.cells]) ⟨i + 1, fi ++ fi2, la2, true && false, (.slice a9 n9 c9), (.slice a8 n8 c8), vT2, vF2, tys2, R3⟩ ⟨rfl, rfl, rfl, rfl, rfl, rfl, rfl, trivial⟩ ?_ ⟨⟨hS, hlt, by dsimp only; omega, by dsimp only; omega, hty.trans hty2⟩, by show x.parts.length - (i + 1) < x.parts.length - i; omega⟩
    dsimp only
    (try simp only [List.map_append])
    exact (List.Perm.cons _ (List.perm_middle (l₁ := [_, _, _, _, _]))).trans ((List.Perm.swap _ _ _).trans (List.Perm.cons _ (List.Perm.cons _ (List.perm_append_comm (l₁ := [_, _, _, _, _])))))
   ·have hn2 : n2 = true := by simpa using hc_t73
    subst hn2
    refine W.k (.h (.s (.r (.q (.fab (.t rfl) fa136_1) rfl (.q (.ldb1 6 (.t rfl) rfl ag22 rfl) rfl (.q (.fab (.t rfl) fa136_1) rfl (.q (.ldb1 2 (.t rfl) rfl ag22 rfl) rfl ?_))))))); refine W.app 0 (.t rfl) rfl (.arr 3 (.t rfl) rfl (okc_natv la2)) Tryz.underlying22 ni22 ty3 rfl rfl (by ((rw [List.length_map, List.length_map]; omega))) rfl ?_
    intro v79
    refine W.q (.fab (.t rfl) fa136_1) rfl ?_
    refine W.arr_inv 0 rfl (fun a8 n8 c8 h8 => ?_)
    subst h8
    refine W.stb 6 (.t rfl) (.t rfl) rfl ty22 rfl rfl rfl (.n (.h (.r (.q (.fab (.t rfl) fa136_2) rfl (.q (.ldb1 6 (.t rfl) rfl ag4 rfl) rfl (.mv rfl rfl (.qgT rfl rfl (.fab (.t rfl) fa136_2) rfl (.qgT rfl rfl (.ldb1 2 (.c rfl) rfl ag4 rfl) rfl ?_)))))))); refine W.q (.and (.t rfl) ⟨_, _, rfl, rfl, by ((simp; done))⟩) rfl ?_; refine W.q (.fab (.t rfl) fa136_2) rfl (.stb 6 (.t rfl) (.t rfl) rfl ty4 rfl rfl rfl (.n (.bn (.bn (.h (.r (.q (.add (.t rfl) .k (fun _ => by omega)) rfl ?_)))))))
    refine W.q (.move (.t rfl)) rfl ?_; refine W.n ?_; refine W.h ?_; refine W.reach (D := [.arr v1 3 1 (fi2.map natv), .box b9 136 [.lit v1, .lit v2, .bool true], .arr v2 3 1 (la2.map natv), .box b8 56 y.avx.cells]) ⟨i + 1, fi ++ fi2, la ++ la2, true && true, (.slice a9 n9 c9), (.slice a8 n8 c8), vT2, vF2, tys2, R3⟩ ⟨rfl, rfl, rfl, rfl, rfl, rfl, rfl, trivial⟩ ?_ ⟨⟨hS, hlt, by dsimp only; omega, by dsimp only; omega, hty.trans hty2⟩, by show x.parts.length - (i + 1) < x.parts.length - i; omega⟩
    dsimp only
    (try simp only [List.map_append])
    exact (List.Perm.cons _ (List.perm_middle (l₁ := [_, _, _, _]))).trans ((List.Perm.swap _ _ _).trans (List.Perm.cons _ (List.Perm.cons _ (List.perm_append_comm (l₁ := [_, _, _, _])))))
  ·have hn1 : no = false := hc_t64
   subst hn1
   refine W.k (.h (.s (.s (.r (.q (.fab (.t rfl) fa136_2) rfl (.q (.ldb1 2 (.t rfl) rfl ag4 rfl) rfl ?_))))))
   refine W.q (.not (.t rfl)) rfl ?_; refine W.n ?_; refine W.h ?_; refine W.cond (.t rfl) (fun hc_t73 => ?_) (fun hc_t73 => ?_)
   ·have hn2 : n2 = false := by simpa using hc_t73
    subst hn2
    refine W.r (.q (.fab (.t rfl) fa136_1) rfl (.stb 6 (.t rfl) .k rfl ty22 rfl rfl rfl (.n (.h (.s (.r ?_)))))); refine W.own_nil 3 1 ?_; refine W.q (.fab (.t rfl) fa136_1) rfl (.q (.ldb1 7 (.t rfl) rfl ag22 rfl) rfl (.q (.fab (.t rfl) fa136_1) rfl (.q (.ldb1 3 (.t rfl) rfl ag22 rfl) rfl ?_))); refine W.app 0 (.t rfl) rfl (.arr 4 (.t rfl) rfl (okc_natv la2)) Tryz.underlying22 ni22 ty3 rfl rfl (by ((rw [List.length_map]; simp only [List.length_nil]; omega))) rfl ?_
    intro v79
    refine W.q (.fab (.t rfl) fa136_1) rfl ?_
    refine W.arr_inv 0 rfl (fun a8 n8 c8 h8 => ?_)
    subst h8
    refine W.stb 7 (.t rfl) (.t rfl) rfl ty22 rfl rfl rfl (.n (.h (.r (.q (.fab (.t rfl) fa136_2) rfl (.q (.ldb1 7 (.t rfl) rfl ag4 rfl) rfl (.mv rfl rfl (.qgT rfl rfl (.fab (.t rfl) fa136_2) rfl (.qgT rfl rfl (.ldb1 3 (.c rfl) rfl ag4 rfl) rfl ?_)))))))); refine W.q (.and (.t rfl) ⟨_, _, rfl, rfl, by ((simp; done))⟩) rfl ?_; refine W.q (.fab (.t rfl) fa136_2) rfl (.stb 7 (.t rfl) (.t rfl) rfl ty4 rfl rfl rfl (.n (.bn (.bn (.h (.r (.q (.add (.t rfl) .k (fun _ => by omega)) rfl ?_)))))))
    refine W.q (.move (.t rfl)) rfl ?_; refine W.n ?_; refine W.h ?_; refine W.reach (D := [.arr vl 3 1 (la.map natv), .arr v1 3 1 (fi2.map natv), .box b9 136 [.lit v1, .lit v2, .bool false], .arr v2 3 1 (la2.map natv), .box b8 56 y.avx.cells]) ⟨i + 1, fi, la2, false && false, vf, (.slice a8 n8 c8), vT2, vF2, tys2, R3⟩ ⟨rfl, rfl, rfl, rfl, rfl, rfl, rfl, trivial⟩ ?_ ⟨⟨hS, hlt, by dsimp only; omega, by dsimp only; omega, hty.trans hty2⟩, by show x.parts.length - (i + 1) < x.parts.length - i; omega⟩
    dsimp only
    (try simp only [List.map_append])
    exact (List.Perm.cons _ (List.perm_middle (l₁ := [_, _, _, _, _]))).trans ((List.Perm.swap _ _ _).trans (List.Perm.cons _ (List.Perm.cons _ (List.perm_append_comm (l₁ := [_, _, _, _, _])))))
   ·have hn2 : n2 = true := by simpa using hc_t73
    subst hn2
    refine W.k (.h (.s (.r (.q (.fab (.t rfl) fa136_1) rfl (.q (.ldb1 6 (.t rfl) rfl ag22 rfl) rfl (.q (.fab (.t rfl) fa136_1) rfl (.q (.ldb1 2 (.t rfl) rfl ag22 rfl) rfl ?_))))))); refine W.app 0 (.t rfl) rfl (.arr 3 (.t rfl) rfl (okc_natv la2)) Tryz.underlying22 ni22 ty3 rfl rfl (by ((rw [List.length_map, List.length_map]; omega))) rfl ?_
    intro v79
    refine W.q (.fab (.t rfl) fa136_1) rfl ?_
    refine W.arr_inv 0 rfl (fun a8 n8 c8 h8 => ?_)
    subst h8
    refine W.stb 6 (.t rfl) (.t rfl) rfl ty22 rfl rfl rfl (.n (.h (.r (.q (.fab (.t rfl) fa136_2) rfl (.q (.ldb1 6 (.t rfl) rfl ag4 rfl) rfl (.mv rfl rfl (.qgT rfl rfl (.fab (.t rfl) fa136_2) rfl (.qgT rfl rfl (.ldb1 2 (.c rfl) rfl ag4 rfl) rfl ?_)))))))); refine W.q (.and (.t rfl) ⟨_, _, rfl, rfl, by ((simp; done))⟩) rfl ?_; refine W.q (.fab (.t rfl) fa136_2) rfl (.stb 6 (.t rfl) (.t rfl) rfl ty4 rfl rfl rfl (.n (.bn (.bn (.h (.r (.q (.add (.t rfl) .k (fun _ => by omega)) rfl ?_)))))))
    refine W.q (.move (.t rfl)) rfl ?_; refine W.n ?_; refine W.h ?_; refine W.reach (D := [.arr v1 3 1 (fi2.map natv), .box b9 136 [.lit v1, .lit v2, .bool true], .arr v2 3 1 (la2.map natv), .box b8 56 y.avx.cells]) ⟨i + 1, fi, la ++ la2, false && true, vf, (.slice a8 n8 c8), vT2, vF2, tys2, R3⟩ ⟨rfl, rfl, rfl, rfl, rfl, rfl, rfl, trivial⟩ ?_ ⟨⟨hS, hlt, by dsimp only; omega, by dsimp only; omega, hty.trans hty2⟩, by show x.parts.length - (i + 1) < x.parts.length - i; omega⟩
    dsimp only
    (try simp only [List.map_append])
    exact (List.Perm.cons _ (List.perm_middle (l₁ := [_, _, _, _]))).trans ((List.Perm.swap _ _ _).trans (List.Perm.cons _ (List.Perm.cons _ (List.perm_append_comm (l₁ := [_, _, _, _])))))
 ·subst hend
  rw [List.take_length] at hP hlv
  refine W.s (.r (.q (.lti (.t rfl) (.t rfl)) rfl (.n (.h (.s ?_))))); refine W.isb 51 false rfl (by exact decide_eq_false (by omega)) ?_; refine W.condF (.t rfl) (.ex (.he (.he (.bh (.h (.s (.s (.r (.q (.fab (.t rfl) fa56_0) rfl (.q (.ldb1 4 (.t rfl) rfl ag3 rfl) rfl (.q (.eqi (.t rfl) .k) rfl (.mv rfl rfl (.qgF rfl rfl (.fab (.t rfl) fa56_0) rfl (.qgF rfl rfl (.ldb1 4 (.c rfl) rfl ag3 rfl) rfl (.qgF rfl rfl (.eqi (.c rfl) .k) rfl ?_))))))))))))))); refine W.q (.or (.t rfl) ⟨_, _, rfl, rfl, by ((simp; done))⟩) rfl ?_; refine W.n (.h ?_); refine W.isb 119 false rfl (by rw [hk]; rfl) ?_; refine W.condF (.t rfl) (.k (.h (.s (.r (.q (.fab (.t rfl) fa136_2) rfl (.q (.ldb1 2 (.t rfl) rfl ag4 rfl) rfl (.mv rfl rfl (.qgF rfl rfl (.fab (.t rfl) fa56_0) rfl (.qgF rfl rfl (.ldb1 4 (.c rfl) rfl ag3 rfl) rfl (.qgF rfl rfl (.eqi (.c rfl) .k) rfl ?_)))))))))); refine W.q (.or (.t rfl) ⟨_, _, rfl, rfl, by ((simp; done))⟩) rfl ?_; refine W.mv rfl rfl (.qgF rfl rfl (.fab (.t rfl) fa56_0) rfl (.qgF rfl rfl (.ldb1 4 (.c rfl) rfl ag3 rfl) rfl (.qgF rfl rfl (.eqi (.c rfl) .k) rfl ?_))); refine W.q (.or (.t rfl) ⟨_, _, rfl, rfl, by ((simp; done))⟩) rfl ?_; refine W.q (.fab (.t rfl) fa136_2) rfl (.stb 2 (.t rfl) (.t rfl) rfl ty4 rfl rfl rfl (.n (.h (.s (.r (.q (.ldbn 2 (.t rfl) rfl ag136 ty136 rfl) rfl (.stb 3 (.t rfl) (.t rfl) rfl ty136 rfl rfl rfl (.n (.h ?_))))))))); refine W.ret ?_; refine W.retn (M' := (.arr vf 3 1 (fi.map natv) :: .arr vl 3 1 (la.map natv) :: .box b 134 [.lit vT1, .lit vF1, .lit (.slice none 0 0), .lit (.slice none 0 0), .bool false] :: .arr vT1 3 1 (tys1.map AV.int) :: .arr vF1 22 1 (rowsV R1) :: rowsM 3 R1)) (D := _) (rs := [.cell 4 136]) (avs := [_]) Tryz.results69 ⟨⟨_, _, _, rfl, by repeat (first | exact List.mem_cons_self | apply List.mem_cons_of_mem), rfl, by funext w; exact ag136.run w, by funext w; exact ty136.size w⟩, trivial⟩ rfl (List.Perm.cons _ (List.Perm.cons _ (List.perm_append_comm (l₁ := [_, _, _])))) ?_
  exact ⟨vT1, vF1, tys1, R1, vf, vl, fi, la, _, hP.fin2 hk, by rw [Ex.lv_eq, if_neg (by omega)]; exact hlv, hty, by omega, rfl, rfl⟩
theorem c_add : ∀ x : Ex, x.ok → ∀ (b : Nat) (vT vF : Value) (tys : List Int) (R : List Rw), R.length = tys.length → tys.length + x.sz ≤ 1048576 → FnC Tryz.prog 69 [.lit (.pointer (some ⟨b, 0, none⟩)), x.avx] (.box b 134 [.lit vT, .lit vF, .lit (.slice none 0 0), .lit (.slice none 0 0), .bool false] :: .arr vT 3 1 (tys.map AV.int) :: .arr vF 22 1 (rowsV R) :: rowsM 3 R) (fun r M => ∃ vT' vF' tys' R' v1 v2 fi la no, Pl tys (folOf R) tys' (folOf R') fi la no x.lg ∧ tys'.length = tys.length + x.lv ∧ Tys tys tys' ∧ R'.length = tys'.length ∧ r = .agg [.lit v1, .lit v2, .bool no] ∧ M = .arr v1 3 1 (fi.map natv) :: .arr v2 3 1 (la.map natv) :: .box b 134 [.lit vT', .lit vF', .lit (.slice none 0 0), .lit (.slice none 0 0), .bool false] :: .arr vT' 3 1 (tys'.map AV.int) :: .arr vF' 22 1 (rowsV R') :: rowsM 3 R') := by
 refine Ex.rec' fun x ih hx b vT vF tys R hR hsz => ?_
 have hk := Ex.ok_kind hx
 have ih' := fun y (hy : y ∈ x.parts) => ih y hy (((Ex.ok_iff x).1 hx).2 y hy)
 rcases (show x.kind = 1 ∨ x.kind = 2 ∨ (3 ≤ x.kind ∧ x.kind ≤ 6) from by omega) with h | h | h
 ·exact c_add1 x hx h b vT vF tys R hR hsz
 ·exact c_addS x hx h ih' b vT vF tys R hR hsz
 ·exact c_addA x hx h ih' b vT vF tys R hR hsz
end WAdd
end Go.Proofs.YtphlkdbglpcikaaGreatDoor
end
