/-
  Escaped text comes back.
-/
import Derived.Test.YtnkacoidhcokjaaDoorRef
import Derived.Test.YtnkacoidhcokjaaDoorBase
import Derived.Test.YtnkacoidhcokjaaDoorWBld
import Derived.Test.YtnkacoidhcokjaaDoorWRune
import Derived.Test.YtnkacoidhcokjaaDoorWLetter
import Derived.Test.YtnkacoidhcokjaaDoorWIndex
set_option linter.unusedVariables false
set_option linter.unusedSimpArgs false
set_option maxRecDepth 100000
namespace Go.Proofs.YtnkacoidhcokjaaDoor
open Go.Vl

namespace WUnesc
theorem ty50 : Ty Tryd.prog 50 2 32 (.agg #[.pointer none, .slice none 0 0]) := Ty.of (by kernel_rfl)
theorem c_Unescape (e0 : List Pc) (hok : ∀ q ∈ e0, Pc.ok q) (hs : (Pc.flat e0).length ≤ 1099511627776) (hs2 : e0.length ≤ 1099511627776) : FnP Tryd.prog 16 [.str (Pc.flat e0)] (.str (e0.map Prod.fst)) :=  by
  refine FnC.mk Tryd.func16 (by kernel_rfl) rfl Tryd.ntmps16 rfl (fun w0 F => ?_)
  refine W.seq ?_
  refine W.region ?_
  refine W.q (Ev.assign .k) rfl ?_
  refine W.nil ?_
  refine W.then ?_
  refine W.seq ?_
  refine W.region ?_
  refine W.alloc ty50 rfl rfl ?_
  intro b3
  refine W.nil ?_
  refine W.then ?_
  refine W.seq ?_
  refine W.seq ?_
  refine W.region ?_
  refine W.q (Ev.assign .k) rfl ?_
  refine W.nil ?_
  refine W.then ?_
  refine W.block ?_
  refine W.own_nil 5 1 ?_
  refine W.perm (List.Perm.swap _ _ []) ?_
  refine W.loop (D := []) (ι := Nat × List UInt8 × Value × Option Addr) (fun z => [(4, true, .int ((Pc.flat (e0.take z.1)).length : Int)), (0, true, .str (Pc.flat e0)), (3, true, .lit (.pointer (some ⟨b3, 0, none⟩)))]) (fun z => [.box b3 50 [.lit (.pointer z.2.2.2), .lit z.2.2.1], .arr z.2.2.1 5 1 (z.2.1.map AV.u8)]) (fun z => z.1 ≤ e0.length ∧ (e0.take z.1).map Prod.fst = z.2.1 ∧ (z.2.2.1 = .slice none 0 0 ∨ z.2.1 ≠ []) ∧ (z.2.2.2 = none ∨ z.2.2.2 = some ⟨b3, 0, none⟩)) (fun z => e0.length - z.1) (0, [], .slice none 0 0, none) ⟨rfl, rfl, rfl, trivial⟩ (.refl _) ⟨Nat.zero_le _, rfl, .inl rfl, .inl rfl⟩ ?_
  rintro ⟨k, out, v, p⟩ ⟨hi1, hi2, hi4, hi5⟩
  dsimp only at hi1 hi2 hi4 hi5 ⊢
  rcases (show (k < e0.length ∧ (e0.getD k Pc.dfl).2 = false) ∨ (k < e0.length ∧ (e0.getD k Pc.dfl).2 = true) ∨ k = e0.length from by
    by_cases h : k < e0.length
    · cases h2 : (e0.getD k Pc.dfl).2
      · exact .inl ⟨h, rfl⟩
      · exact .inr (.inl ⟨h, rfl⟩)
    · exact .inr (.inr (by omega))) with ⟨hlt, h2⟩ | ⟨hlt, h2⟩ | hend
  · have hsp := Pc.flat_split e0 k hlt
    have hsn := Pc.flat_snoc e0 k hlt
    have hok0 := hok _ (getD_memG Pc.dfl e0 k hlt)
    obtain ⟨c0, hg⟩ : ∃ c0, e0.getD k Pc.dfl = (c0, false) := ⟨(e0.getD k Pc.dfl).1, by rw [← h2]⟩
    rw [hg] at hsp hsn hok0
    generalize hBt : Pc.flat (e0.drop (k + 1)) = Bt at hsp
    have htl : (Pc.txt (c0, false)).length = 1 := by simp [Pc.txt]
    have hsl := congrArg List.length hsp
    rw [List.length_append, List.length_append, htl] at hsl
    have hol : out.length ≤ k := by rw [← hi2, List.length_map, List.length_take]; omega
    obtain ⟨x0, hx0, hxx⟩ : ∃ x0, (Pc.flat e0).getD (Pc.flat (e0.take k)).length 0 = x0 ∧ x0 = c0 := ⟨_, rfl, by rw [hsp]; simp [Pc.txt]⟩
    subst hxx
    have hne : x0 ≠ 38 := hok0
    have hcn : x0.toNat ≠ 38 := fun h => hne (UInt8.toNat_inj.1 (by rw [h]; rfl))
    refine W.seq ?_
    refine W.seq ?_
    refine W.region ?_
    refine W.q (Ev.move (.t rfl)) rfl ?_
    refine W.q (Ev.move (.t rfl)) rfl ?_
    refine W.q (Ev.lens (.t rfl) Tryd.underlying9) rfl ?_
    refine W.q (Ev.lti (.t rfl) (.t rfl)) rfl ?_
    refine W.nil ?_
    refine W.then ?_
    refine W.is (t := 11) (g := true) (av' := .lit (.bool true)) rfl (congrArg (fun b => AV.lit (.bool b)) (by exact decide_eq_true (by omega))) ?_
    refine W.condT (.t rfl) ?_
    refine W.skip ?_
    refine W.then ?_
    refine W.seq ?_
    refine W.block ?_
    refine W.seq ?_
    refine W.seq ?_
    refine W.region ?_
    refine W.q (Ev.move (.t rfl)) rfl ?_
    refine W.q (Ev.move (.t rfl)) rfl ?_
    refine W.q (Ev.ats' (.t rfl) (.t rfl) Tryd.underlying9 (fun hg => by omega)) rfl ?_
    refine W.is (t := 16) (g := true) (av' := AV.u8 x0) rfl (by rw [show (((Pc.flat (e0.take k)).length : Int)).toNat = (Pc.flat (e0.take k)).length from by omega, hx0]) ?_
    refine W.q (Ev.eqi (.t rfl) .k) rfl ?_
    refine W.nil ?_
    refine W.then ?_
    refine W.is (t := 17) (g := true) (av' := .lit (.bool false)) rfl (congrArg (fun b => AV.lit (.bool b)) (by first | exact beq_eq_false_iff_ne.2 (by omega) | exact decide_eq_false (by omega) | (simp; omega))) ?_
    refine W.condF (.t rfl) ?_
    refine W.skip ?_
    refine W.then ?_
    refine W.region ?_
    refine W.q (Ev.move (.t rfl)) rfl ?_
    refine W.q (Ev.move (.t rfl)) rfl ?_
    refine W.q (Ev.ats' (.t rfl) (.t rfl) Tryd.underlying9 (fun hg => by omega)) rfl ?_
    refine W.is (t := 43) (g := true) (av' := AV.u8 x0) rfl (by rw [show (((Pc.flat (e0.take k)).length : Int)).toNat = (Pc.flat (e0.take k)).length from by omega, hx0]) ?_
    refine W.call (WBld.c_WriteByte b3 p v out hi5 (by omega) x0) ⟨(.t rfl), (.t rfl), trivial⟩ (.refl _) rfl ?_
    rintro _ _ ⟨rfl, v44, rfl⟩
    refine W.nil ?_
    refine W.blk_normal ?_
    refine W.then ?_
    refine W.region ?_
    refine W.q (Ev.move (.t rfl)) rfl ?_
    first | refine W.q (Ev.add (.t rfl) .k (fun _ => by omega)) rfl ?_ | refine W.q (Ev.addw (.t rfl) .k) rfl ?_
    refine W.q (Ev.assign (.t rfl)) rfl ?_
    refine W.nil ?_
    refine W.then ?_
    refine W.is (t := 4) (g := true) (av' := .int (((Pc.flat (e0.take (k + 1))).length : Nat) : Int)) rfl (congrArg AV.int (by rw [hsn, List.length_append, htl]; omega)) ?_
    refine W.reach (D := []) (k + 1, out ++ [x0], v44, some ⟨b3, 0, none⟩) ⟨rfl, rfl, rfl, trivial⟩ (.refl _) ⟨⟨by show k + 1 ≤ _; omega, by rw [take_getDG Pc.dfl e0 k hlt, List.map_append, hi2, hg]; rfl, .inr (by simp), .inr rfl⟩, by show _ - (k + 1) < _; omega⟩
  · have hsp := Pc.flat_split e0 k hlt
    have hsn := Pc.flat_snoc e0 k hlt
    have hok0 := hok _ (getD_memG Pc.dfl e0 k hlt)
    obtain ⟨c0, hg⟩ : ∃ c0, e0.getD k Pc.dfl = (c0, true) := ⟨(e0.getD k Pc.dfl).1, by rw [← h2]⟩
    rw [hg] at hsp hsn hok0
    generalize hBt : Pc.flat (e0.drop (k + 1)) = Bt at hsp
    have htl : (Pc.txt (c0, true)).length = (Pc.nm c0).length + 2 := by simp [Pc.txt]
    have hsl := congrArg List.length hsp
    rw [List.length_append, List.length_append, htl] at hsl
    have hol : out.length ≤ k := by rw [← hi2, List.length_map, List.length_take]; omega
    obtain ⟨x0, hx0, hxx⟩ : ∃ x0, (Pc.flat e0).getD (Pc.flat (e0.take k)).length 0 = x0 ∧ x0 = 38 := ⟨_, rfl, by rw [hsp]; simp [Pc.txt]⟩
    subst hxx
    have hsp2 : Pc.flat e0 = (Pc.flat (e0.take k) ++ [38]) ++ (Pc.nm c0 ++ (59 :: Bt)) := by rw [hsp]; simp [Pc.txt]
    have hnl := Pc.nm_len c0
    have hcc : c0 = 38 ∨ c0 = 60 ∨ c0 = 62 ∨ c0 = 34 := hok0
    have hlt128 : c0.toNat < 128 := by rcases hcc with rfl | rfl | rfl | rfl <;> decide
    refine W.seq ?_
    refine W.seq ?_
    refine W.region ?_
    refine W.q (Ev.move (.t rfl)) rfl ?_
    refine W.q (Ev.move (.t rfl)) rfl ?_
    refine W.q (Ev.lens (.t rfl) Tryd.underlying9) rfl ?_
    refine W.q (Ev.lti (.t rfl) (.t rfl)) rfl ?_
    refine W.nil ?_
    refine W.then ?_
    refine W.is (t := 11) (g := true) (av' := .lit (.bool true)) rfl (congrArg (fun b => AV.lit (.bool b)) (by exact decide_eq_true (by omega))) ?_
    refine W.condT (.t rfl) ?_
    refine W.skip ?_
    refine W.then ?_
    refine W.seq ?_
    refine W.block ?_
    refine W.seq ?_
    refine W.seq ?_
    refine W.region ?_
    refine W.q (Ev.move (.t rfl)) rfl ?_
    refine W.q (Ev.move (.t rfl)) rfl ?_
    refine W.q (Ev.ats' (.t rfl) (.t rfl) Tryd.underlying9 (fun hg => by omega)) rfl ?_
    refine W.is (t := 16) (g := true) (av' := AV.u8 38) rfl (by rw [show (((Pc.flat (e0.take k)).length : Int)).toNat = (Pc.flat (e0.take k)).length from by omega, hx0]) ?_
    refine W.q (Ev.eqi (.t rfl) .k) rfl ?_
    refine W.nil ?_
    refine W.then ?_
    refine W.is (t := 17) (g := true) (av' := .lit (.bool true)) rfl (congrArg (fun b => AV.lit (.bool b)) (by decide)) ?_
    refine W.condT (.t rfl) ?_
    refine W.seq ?_
    refine W.region ?_
    refine W.q (Ev.move (.t rfl)) rfl ?_
    refine W.q (Ev.move (.t rfl)) rfl ?_
    refine W.q (Ev.subs (lo := some (.tmp 19)) (hi := none) (.t rfl) Tryd.underlying9 (.t rfl) rfl (fun _ => by omega)) rfl ?_
    refine W.is (t := 20) (g := true) (av' := .str (38 :: (Pc.nm c0 ++ [59]) ++ Bt)) rfl (congrArg AV.str (by rw [hsp]; exact cut_all _ _ _ _ (by omega) (by omega))) ?_
    refine W.callp (WIndex.c_IndexByte (38 :: (Pc.nm c0 ++ [59]) ++ Bt) 59) ⟨(.t rfl), .k, trivial⟩ rfl ?_
    refine W.q (Ev.assign (.t rfl)) rfl ?_
    refine W.nil ?_
    refine W.then ?_
    refine W.seq ?_
    refine W.region ?_
    refine W.is (t := 5) (g := true) (av' := .int (((Pc.nm c0).length + 1 : Nat) : Int)) rfl (congrArg AV.int (by rw [Pc.idx_nm]; omega)) ?_
    refine W.q (Ev.move (.t rfl)) rfl ?_
    refine W.q (Ev.gti (.t rfl) .k) rfl ?_
    refine W.nil ?_
    refine W.then ?_
    refine W.is (t := 23) (g := true) (av' := .lit (.bool true)) rfl (congrArg (fun b => AV.lit (.bool b)) (by exact decide_eq_true (by omega))) ?_
    refine W.condT (.t rfl) ?_
    refine W.seq ?_
    refine W.region ?_
    refine W.q (Ev.move (.t rfl)) rfl ?_
    refine W.q (Ev.move (.t rfl)) rfl ?_
    first | refine W.q (Ev.add (.t rfl) .k (fun _ => by omega)) rfl ?_ | refine W.q (Ev.addw (.t rfl) .k) rfl ?_
    refine W.q (Ev.move (.t rfl)) rfl ?_
    refine W.q (Ev.move (.t rfl)) rfl ?_
    first | refine W.q (Ev.add (.t rfl) (.t rfl) (fun _ => by omega)) rfl ?_ | refine W.q (Ev.addw (.t rfl) (.t rfl)) rfl ?_
    refine W.q (Ev.subs (lo := some (.tmp 27)) (hi := some (.tmp 30)) (.t rfl) Tryd.underlying9 (.t rfl) (.t rfl) (fun _ => by omega)) rfl ?_
    refine W.is (t := 31) (g := true) (av' := .str (Pc.nm c0)) rfl (congrArg AV.str (by rw [hsp2]; exact cut_mid _ _ _ _ _ (by rw [List.length_append]; simp only [List.length_cons, List.length_nil]; omega) (by rw [List.length_append]; simp only [List.length_cons, List.length_nil]; omega))) ?_
    refine W.callp (WLetter.c_letter c0 hcc) ⟨(.t rfl), trivial⟩ rfl ?_
    refine W.q (Ev.move (.t rfl)) rfl ?_
    refine W.q (Ev.extract (.t rfl) rfl) rfl ?_
    refine W.q (Ev.extract (.t rfl) rfl) rfl ?_
    refine W.q (Ev.assign (.t rfl)) rfl ?_
    refine W.q (Ev.assign (.t rfl)) rfl ?_
    refine W.nil ?_
    refine W.then ?_
    refine W.seq ?_
    refine W.region ?_
    refine W.q (Ev.move (.t rfl)) rfl ?_
    refine W.nil ?_
    refine W.then ?_
    refine W.is (t := 35) (g := true) (av' := .lit (.bool true)) rfl (congrArg (fun b => AV.lit (.bool b)) (by rfl)) ?_
    refine W.condT (.t rfl) ?_
    refine W.seq ?_
    refine W.region ?_
    refine W.q (Ev.move (.t rfl)) rfl ?_
    refine W.call (WRune.c_WriteRune b3 p v out hi5 (by omega) c0 hlt128) ⟨(.t rfl), (.t rfl), trivial⟩ (.refl _) rfl ?_
    rintro _ _ ⟨⟨k37, rfl⟩, v37, rfl⟩
    refine W.nil ?_
    refine W.then ?_
    refine W.seq ?_
    refine W.region ?_
    refine W.q (Ev.move (.t rfl)) rfl ?_
    refine W.q (Ev.move (.t rfl)) rfl ?_
    first | refine W.q (Ev.add (.t rfl) (.t rfl) (fun _ => by omega)) rfl ?_ | refine W.q (Ev.addw (.t rfl) (.t rfl)) rfl ?_
    refine W.q (Ev.assign (.t rfl)) rfl ?_
    refine W.nil ?_
    refine W.then ?_
    refine W.exit ?_
    refine W.then_exit ?_
    refine W.blk_hit ?_
    refine W.then ?_
    refine W.region ?_
    refine W.q (Ev.move (.t rfl)) rfl ?_
    first | refine W.q (Ev.add (.t rfl) .k (fun _ => by omega)) rfl ?_ | refine W.q (Ev.addw (.t rfl) .k) rfl ?_
    refine W.q (Ev.assign (.t rfl)) rfl ?_
    refine W.nil ?_
    refine W.then ?_
    refine W.is (t := 4) (g := true) (av' := .int (((Pc.flat (e0.take (k + 1))).length : Nat) : Int)) rfl (congrArg AV.int (by rw [hsn, List.length_append, htl]; omega)) ?_
    refine W.reach (D := []) (k + 1, out ++ [c0], v37, some ⟨b3, 0, none⟩) ⟨rfl, rfl, rfl, trivial⟩ (.refl _) ⟨⟨by show k + 1 ≤ _; omega, by rw [take_getDG Pc.dfl e0 k hlt, List.map_append, hi2, hg]; rfl, .inr (by simp), .inr rfl⟩, by show _ - (k + 1) < _; omega⟩
  · have hol : out.length ≤ k := by rw [← hi2, List.length_map, List.length_take]; omega
    have hfe : e0.take k = e0 := List.take_of_length_le (by omega)
    rw [hfe] at hi2 ⊢
    refine W.seq ?_
    refine W.seq ?_
    refine W.region ?_
    refine W.q (Ev.move (.t rfl)) rfl ?_
    refine W.q (Ev.move (.t rfl)) rfl ?_
    refine W.q (Ev.lens (.t rfl) Tryd.underlying9) rfl ?_
    refine W.q (Ev.lti (.t rfl) (.t rfl)) rfl ?_
    refine W.nil ?_
    refine W.then ?_
    refine W.is (t := 11) (g := true) (av' := .lit (.bool false)) rfl (congrArg (fun b => AV.lit (.bool b)) (by exact decide_eq_false (by omega))) ?_
    refine W.condF (.t rfl) ?_
    refine W.exit ?_
    refine W.then_exit ?_
    refine W.then_exit ?_
    refine W.blk_hit ?_
    refine W.then ?_
    refine W.seq ?_
    refine W.region ?_
    refine W.call (WBld.c_String b3 p v out hi5 (by omega) hi4) ⟨(.t rfl), trivial⟩ (.refl _) rfl ?_
    rintro _ _ ⟨rfl, rfl⟩
    refine W.q (Ev.assign (.t rfl)) rfl ?_
    refine W.nil ?_
    refine W.then ?_
    refine W.ret ?_
    refine W.retn (M' := []) (rs := [.tmp 2]) (avs := [_]) Tryd.results16 ⟨rfl, trivial⟩ rfl (.refl _) ?_
    exact ⟨congrArg AV.str hi2.symm, rfl⟩

end WUnesc

end Go.Proofs.YtnkacoidhcokjaaDoor
