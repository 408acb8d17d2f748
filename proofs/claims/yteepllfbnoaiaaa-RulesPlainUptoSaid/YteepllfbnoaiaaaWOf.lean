/-
  Nodes by rules.
-/
import Derived.Test.YteepllfbnoaiaaaWJoined
import Derived.Test.YteepllfbnoaiaaaWRules
set_option linter.unusedVariables false
set_option linter.unusedSimpArgs false
set_option maxRecDepth 100000
namespace Go.Proofs.Yteepllfbnoaiaaa
open Go.Vl

namespace WOf
theorem ty3 : Ty Try.prog 3 1 8 (.int .i64 0) := Ty.of (by kernel_rfl)
theorem ty9 : Ty Try.prog 9 1 16 (.string ⟨#[]⟩) := Ty.of (by kernel_rfl)
theorem ty25 : Ty Try.prog 25 1 24 (.slice none 0 0) := Ty.of (by kernel_rfl)
theorem ty33 : Ty Try.prog 33 1 24 (.slice none 0 0) := Ty.of (by kernel_rfl)
theorem ty35 : Ty Try.prog 35 4 80 (.agg #[.string ⟨#[]⟩, .slice none 0 0, .string ⟨#[]⟩, .slice none 0 0]) := Ty.of (by kernel_rfl)
theorem ty51 : Ty Try.prog 51 3 40 (.agg #[.string ⟨#[]⟩, .int .i64 0, .string ⟨#[]⟩]) := Ty.of (by kernel_rfl)
theorem ty78 : Ty Try.prog 78 2 32 (.agg #[.string ⟨#[]⟩, .string ⟨#[]⟩]) := Ty.of (by kernel_rfl)
theorem ag3 : IsAgg Try.prog 3 false := ⟨_, Try.underlying3, rfl⟩
theorem ag9 : IsAgg Try.prog 9 false := ⟨_, Try.underlying9, rfl⟩
theorem ag25 : IsAgg Try.prog 25 false := ⟨_, Try.underlying25, rfl⟩
theorem ag33 : IsAgg Try.prog 33 false := ⟨_, Try.underlying33, rfl⟩
theorem ag35 : IsAgg Try.prog 35 true := ⟨_, Try.underlying35, rfl⟩
theorem ag51 : IsAgg Try.prog 51 true := ⟨_, Try.underlying51, rfl⟩
theorem fa35_0 : FieldAt Try.prog 35 0 0 1 false := ⟨_, _, Try.underlying35, rfl, rfl, ty9.size, ag9, by decide⟩
theorem fa35_1 : FieldAt Try.prog 35 1 1 1 false := ⟨_, _, Try.underlying35, rfl, rfl, ty33.size, ag33, by decide⟩
theorem fa35_2 : FieldAt Try.prog 35 2 2 1 false := ⟨_, _, Try.underlying35, rfl, rfl, ty9.size, ag9, by decide⟩
theorem fa35_3 : FieldAt Try.prog 35 3 3 1 false := ⟨_, _, Try.underlying35, rfl, rfl, ty25.size, ag25, by decide⟩
theorem fa51_0 : FieldAt Try.prog 51 0 0 1 false := ⟨_, _, Try.underlying51, rfl, rfl, ty9.size, ag9, by decide⟩
theorem fa51_1 : FieldAt Try.prog 51 1 1 1 false := ⟨_, _, Try.underlying51, rfl, rfl, ty3.size, ag3, by decide⟩
theorem fa51_2 : FieldAt Try.prog 51 2 2 1 false := ⟨_, _, Try.underlying51, rfl, rfl, ty9.size, ag9, by decide⟩
theorem st35 : StructAt Try.prog 35 [(0, 1), (1, 1), (2, 1), (3, 1)] := ⟨_, Try.underlying35, rfl, ty9.size, rfl, ty33.size, rfl, ty9.size, rfl, ty25.size, trivial⟩
theorem st51 : StructAt Try.prog 51 [(0, 1), (1, 1), (2, 1)] := ⟨_, Try.underlying51, rfl, ty9.size, rfl, ty3.size, rfl, ty9.size, trivial⟩
theorem ni25 : NotInt Try.prog 25 := .inl ⟨_, Try.underlying25⟩
theorem ni33 : NotInt Try.prog 33 := .inl ⟨_, Try.underlying33⟩
theorem c_CloneA (a : List Dc) (ha : a.length ≤ 16777216) : FnP Try.prog 55 [.sl 2 (a.map dav)] (.sl 2 (a.map dav)) :=  by
  refine FnC.mk Try.func55 (by kernel_rfl) rfl Try.ntmps55 rfl (fun w0 F => ?_)
  have hal : (a.map dav).length = a.length := List.length_map ..
  refine W.seq ?_
  refine W.region ?_
  refine W.q (Ev.assign .k) rfl ?_
  refine W.nil ?_
  refine W.then ?_
  refine W.seq ?_
  refine W.seq ?_
  refine W.region ?_
  refine W.q (Ev.move (.t rfl)) rfl ?_
  refine W.slnil (.t rfl) Try.underlying33 rfl (fun q hq => ?_)
  refine W.nil ?_
  refine W.then ?_
  refine W.cond (.t rfl) (fun hc_t4 => ?_) (fun hc_t4 => ?_)
  · refine W.seq ?_
    refine W.region ?_
    refine W.q (Ev.assign .k) rfl ?_
    refine W.nil ?_
    refine W.own_nil 78 2 ?_
    refine W.freezeA (M1 := []) (M2 := []) (D := []) (v := .slice none 0 0) (L' := [(2, true, .sl 2 [])]) (.refl _) ⟨⟨_, rfl, .one .hit⟩, trivial⟩ (FrzMs.refl _) ?_
    refine W.then ?_
    refine W.ret ?_
    refine W.then_ret ?_
    refine W.retn (M' := []) (rs := [.tmp 2]) (avs := [_]) Try.results55 ⟨rfl, trivial⟩ rfl (.refl _) ?_
    first | exact ⟨rfl, rfl⟩ | exact ⟨by rw [hq hc_t4]; rfl, rfl⟩
  · refine W.skip ?_
    refine W.then ?_
    refine W.seq ?_
    refine W.region ?_
    refine W.bso (es := []) Try.underlying33 ty78 trivial rfl (by decide) rfl rfl ?_
    intro v5
    refine W.q (Ev.move (.t rfl)) rfl ?_
    first | refine W.app 0 (.t rfl) rfl (.sl (.t rfl) (okc_davs a)) Try.underlying33 ni33 ty78 rfl rfl (by simp; omega) rfl ?_ | refine W.app 1 (.t rfl) rfl (.sl (.t rfl) (okc_davs a)) Try.underlying33 ni33 ty78 rfl rfl (by simp; omega) rfl ?_ | refine W.app 2 (.t rfl) rfl (.sl (.t rfl) (okc_davs a)) Try.underlying33 ni33 ty78 rfl rfl (by simp; omega) rfl ?_ | refine W.app 3 (.t rfl) rfl (.sl (.t rfl) (okc_davs a)) Try.underlying33 ni33 ty78 rfl rfl (by simp; omega) rfl ?_ | refine W.app 0 (.t rfl) rfl (.arr 0 (.t rfl) rfl (okc_davs a)) Try.underlying33 ni33 ty78 rfl rfl (by simp; omega) rfl ?_ | refine W.app 0 (.t rfl) rfl (.arr 1 (.t rfl) rfl (okc_davs a)) Try.underlying33 ni33 ty78 rfl rfl (by simp; omega) rfl ?_ | refine W.app 0 (.t rfl) rfl (.arr 2 (.t rfl) rfl (okc_davs a)) Try.underlying33 ni33 ty78 rfl rfl (by simp; omega) rfl ?_ | refine W.app 0 (.t rfl) rfl (.arr 3 (.t rfl) rfl (okc_davs a)) Try.underlying33 ni33 ty78 rfl rfl (by simp; omega) rfl ?_ | refine W.app 1 (.t rfl) rfl (.arr 0 (.t rfl) rfl (okc_davs a)) Try.underlying33 ni33 ty78 rfl rfl (by simp; omega) rfl ?_ | refine W.app 1 (.t rfl) rfl (.arr 1 (.t rfl) rfl (okc_davs a)) Try.underlying33 ni33 ty78 rfl rfl (by simp; omega) rfl ?_ | refine W.app 1 (.t rfl) rfl (.arr 2 (.t rfl) rfl (okc_davs a)) Try.underlying33 ni33 ty78 rfl rfl (by simp; omega) rfl ?_ | refine W.app 1 (.t rfl) rfl (.arr 3 (.t rfl) rfl (okc_davs a)) Try.underlying33 ni33 ty78 rfl rfl (by simp; omega) rfl ?_ | refine W.app 2 (.t rfl) rfl (.arr 0 (.t rfl) rfl (okc_davs a)) Try.underlying33 ni33 ty78 rfl rfl (by simp; omega) rfl ?_ | refine W.app 2 (.t rfl) rfl (.arr 1 (.t rfl) rfl (okc_davs a)) Try.underlying33 ni33 ty78 rfl rfl (by simp; omega) rfl ?_ | refine W.app 2 (.t rfl) rfl (.arr 2 (.t rfl) rfl (okc_davs a)) Try.underlying33 ni33 ty78 rfl rfl (by simp; omega) rfl ?_ | refine W.app 2 (.t rfl) rfl (.arr 3 (.t rfl) rfl (okc_davs a)) Try.underlying33 ni33 ty78 rfl rfl (by simp; omega) rfl ?_ | refine W.app 3 (.t rfl) rfl (.arr 0 (.t rfl) rfl (okc_davs a)) Try.underlying33 ni33 ty78 rfl rfl (by simp; omega) rfl ?_ | refine W.app 3 (.t rfl) rfl (.arr 1 (.t rfl) rfl (okc_davs a)) Try.underlying33 ni33 ty78 rfl rfl (by simp; omega) rfl ?_ | refine W.app 3 (.t rfl) rfl (.arr 2 (.t rfl) rfl (okc_davs a)) Try.underlying33 ni33 ty78 rfl rfl (by simp; omega) rfl ?_ | refine W.app 3 (.t rfl) rfl (.arr 3 (.t rfl) rfl (okc_davs a)) Try.underlying33 ni33 ty78 rfl rfl (by simp; omega) rfl ?_
    intro v7
    refine W.q (Ev.assign (.t rfl)) rfl ?_
    refine W.nil ?_
    refine W.freezeA (M1 := []) (M2 := []) (D := []) (v := v7) (L' := [(2, true, .sl 2 ([] ++ a.map dav))]) (.refl _) ⟨⟨_, rfl, .one .hit⟩, trivial⟩ (FrzMs.refl _) ?_
    refine W.then ?_
    refine W.ret ?_
    refine W.retn (M' := []) (rs := [.tmp 2]) (avs := [_]) Try.results55 ⟨rfl, trivial⟩ rfl (.refl _) ?_
    first | exact ⟨rfl, rfl⟩ | exact ⟨by rw [hq hc_t4]; rfl, rfl⟩

theorem c_Of1 (q : Rl) (d : Nd) (b : Nat) : FnC Try.prog 76 [rav q, .lit (.pointer (some ⟨b, 0, none⟩))] [.box b 35 [.str d.name, .sl 2 (d.attrs.map dav), .str d.text, .sl 4 (d.parts.map Nd.av)]] (fun x M => x = .bool (q.name == d.name) ∧ M = [.box b 35 [.str d.name, .sl 2 (d.attrs.map dav), .str d.text, .sl 4 (d.parts.map Nd.av)]]) :=  by
  refine FnC.mk Try.func76 (by kernel_rfl) rfl Try.ntmps76 rfl (fun w0 F => ?_)
  refine W.seq ?_
  refine W.region ?_
  refine W.box (.t rfl) rfl rfl ?_
  intro b2
  refine W.q (Ev.assign .k) rfl ?_
  refine W.nil ?_
  refine W.then ?_
  refine W.seq ?_
  refine W.region ?_
  first | refine W.q (Ev.fae (.t rfl) fa51_0 rfl) rfl ?_ | refine W.q (Ev.fab (.t rfl) fa51_0) rfl ?_ | refine W.q (Ev.faa (.t rfl) fa51_0) rfl ?_
  first | refine W.q (Ev.lde1 (.t rfl) ag9) rfl ?_ | refine W.q (Ev.ldb1 0 (.t rfl) rfl ag9 rfl) rfl ?_ | refine W.q (Ev.ldb1 1 (.t rfl) rfl ag9 rfl) rfl ?_ | refine W.q (Ev.ldb1 2 (.t rfl) rfl ag9 rfl) rfl ?_ | refine W.q (Ev.ldb1 3 (.t rfl) rfl ag9 rfl) rfl ?_
  first | refine W.q (Ev.fae (.t rfl) fa35_0 rfl) rfl ?_ | refine W.q (Ev.fab (.t rfl) fa35_0) rfl ?_ | refine W.q (Ev.faa (.t rfl) fa35_0) rfl ?_
  first | refine W.q (Ev.lde1 (.t rfl) ag9) rfl ?_ | refine W.q (Ev.ldb1 0 (.t rfl) rfl ag9 rfl) rfl ?_ | refine W.q (Ev.ldb1 1 (.t rfl) rfl ag9 rfl) rfl ?_ | refine W.q (Ev.ldb1 2 (.t rfl) rfl ag9 rfl) rfl ?_ | refine W.q (Ev.ldb1 3 (.t rfl) rfl ag9 rfl) rfl ?_
  refine W.q (Ev.eqs (.t rfl) (.t rfl)) rfl ?_
  refine W.q (Ev.assign (.t rfl)) rfl ?_
  refine W.nil ?_
  refine W.then ?_
  refine W.ret ?_
  refine W.retn (M' := [.box b 35 _]) (D := [_]) (rs := [.tmp 3]) (avs := [_]) Try.results76 ⟨rfl, trivial⟩ rfl (List.Perm.swap _ _ []) ?_
  exact ⟨rfl, rfl⟩

theorem c_Of_step (rs : List Rl) (hrs : rs.length ≤ 1000) (n : Nat) (hn : n ≤ 16777216) (ih : ∀ l, Nd.szs l < n → Nd.tszs l ≤ 1073741824 → FnP Try.prog 54 [.sl 3 (rs.map rav), .sl 4 (l.map Nd.av)] (.sl 4 ((Rl.run rs [] l).map Nd.av))) (l : List Nd) (hl : Nd.szs l = n) (ht : Nd.tszs l ≤ 1073741824) : FnP Try.prog 54 [.sl 3 (rs.map rav), .sl 4 (l.map Nd.av)] (.sl 4 ((Rl.run rs [] l).map Nd.av)) :=  by
  refine FnC.mk Try.func54 (by kernel_rfl) rfl Try.ntmps54 rfl (fun w0 F => ?_)
  have hll : (l.map Nd.av).length = l.length := List.length_map ..
  have hsl := Nd.szs_len l
  have hrl : (rs.map rav).length = rs.length := List.length_map ..
  refine W.seq ?_
  refine W.region ?_
  refine W.q (Ev.assign .k) rfl ?_
  refine W.nil ?_
  refine W.then ?_
  refine W.seq ?_
  refine W.region ?_
  refine W.q (Ev.assign .k) rfl ?_
  refine W.nil ?_
  refine W.then ?_
  refine W.seq ?_
  refine W.seq ?_
  refine W.region ?_
  refine W.q (Ev.move (.t rfl)) rfl ?_
  first | refine W.q (Ev.lensl (.t rfl) Try.underlying25) rfl ?_ | refine W.q (Ev.lenar (i := 0) (.t rfl) rfl Try.underlying25) rfl ?_ | refine W.q (Ev.lenar (i := 1) (.t rfl) rfl Try.underlying25) rfl ?_ | refine W.q (Ev.lenar (i := 2) (.t rfl) rfl Try.underlying25) rfl ?_ | refine W.q (Ev.lenar (i := 3) (.t rfl) rfl Try.underlying25) rfl ?_
  refine W.q (Ev.move .k) rfl ?_
  refine W.nil ?_
  refine W.then ?_
  refine W.block ?_
  refine W.own_nil 35 4 ?_
  refine W.loop (D := []) (ι := Nat × Value) (fun z => [(12, true, .int (z.1 : Int)), (11, true, .int ((l.map Nd.av).length : Int)), (10, true, .sl 4 (l.map Nd.av)), (0, true, .sl 3 (rs.map rav)), (5, true, .lit z.2)]) (fun z => [.arr z.2 35 4 ((Rl.run rs [] (l.take z.1)).map Nd.av)]) (fun z => z.1 ≤ l.length) (fun z => l.length - z.1) (0, .slice none 0 0) ⟨rfl, rfl, rfl, rfl, rfl, trivial⟩ (.refl _) (Nat.zero_le _) ?_
  rintro ⟨i, v⟩ hi
  dsimp only at hi ⊢
  rcases (show i < l.length ∨ i = l.length from by omega) with hlt | hend
  · have hga := Nd.at_av l i hlt
    have hsz := Nd.at_sz l i hlt
    generalize hd : l.getD i Nd.dflt = d at hga hsz
    have hse := Nd.sz_eq d
    have hsp := Nd.szs_len d.parts
    have hat : (d.attrs.map dav).length = d.attrs.length := List.length_map ..
    have hsn := Rl.run_snoc rs [] l i hlt
    have htm := Nd.at_tsz l i hlt
    rw [hd] at hsn htm
    have htd := Nd.tsz_eq d
    have hq1 := Rl.run_szs rs _ (l.take i) [] (Nat.le_refl _)
    have hq2 := Rl.run_tszs rs _ (l.take i) [] (Nat.le_refl _)
    have hq3 := Rl.run_szs rs _ d.parts [] (Nat.le_refl _)
    have hq4 := Rl.run_tszs rs _ d.parts [] (Nat.le_refl _)
    have hq5 := Nd.szs_take l i
    have hq6 := Nd.tszs_take l i
    have hq7 := Nd.szs_len (Rl.run rs [] (l.take i))
    have hq8 := Nd.szs_len (Rl.run rs [] d.parts)
    have z1 : Nd.szs ([] : List Nd) = 0 := rfl
    have z2 : Nd.tszs ([] : List Nd) = 0 := rfl
    have hcl : ((Rl.run rs [] (l.take i)).map Nd.av).length = (Rl.run rs [] (l.take i)).length := List.length_map ..
    refine W.seq ?_
    refine W.region ?_
    refine W.q (Ev.lti (.t rfl) (.t rfl)) rfl ?_
    refine W.nil ?_
    refine W.then ?_
    refine W.seq ?_
    refine W.is (t := 13) (g := true) (av' := .lit (.bool true)) rfl (congrArg (fun b => AV.lit (.bool b)) (by exact decide_eq_true (by omega))) ?_
    refine W.condT (.t rfl) ?_
    refine W.skip ?_
    refine W.then ?_
    refine W.seq ?_
    refine W.block ?_
    refine W.seq ?_
    refine W.region ?_
    refine W.q (Ev.at (E := 35) (.t rfl) (.t rfl) Try.underlying25 ty35 (fun _ => ⟨by omega, hga⟩) rfl rfl) rfl ?_
    first | refine W.q (Ev.lden (.t rfl) ag35 ty35 rfl rfl) rfl ?_ | refine W.q (Ev.ldbn 0 (.t rfl) rfl ag35 ty35 rfl) rfl ?_ | refine W.q (Ev.ldbn 1 (.t rfl) rfl ag35 ty35 rfl) rfl ?_ | refine W.q (Ev.ldbn 2 (.t rfl) rfl ag35 ty35 rfl) rfl ?_ | refine W.q (Ev.ldbn 3 (.t rfl) rfl ag35 ty35 rfl) rfl ?_
    refine W.alloc ty35 rfl rfl ?_
    intro b7
    first | refine W.stb 0 (.t rfl) (.t rfl) rfl ty35 rfl rfl rfl ?_ | refine W.stb 1 (.t rfl) (.t rfl) rfl ty35 rfl rfl rfl ?_ | refine W.stb 2 (.t rfl) (.t rfl) rfl ty35 rfl rfl rfl ?_ | refine W.stb 3 (.t rfl) (.t rfl) rfl ty35 rfl rfl rfl ?_
    refine W.nil ?_
    refine W.then ?_
    refine W.seq ?_
    refine W.seq ?_
    refine W.region ?_
    first | refine W.q (Ev.fae (.t rfl) fa35_0 rfl) rfl ?_ | refine W.q (Ev.fab (.t rfl) fa35_0) rfl ?_ | refine W.q (Ev.faa (.t rfl) fa35_0) rfl ?_
    first | refine W.q (Ev.lde1 (.t rfl) ag9) rfl ?_ | refine W.q (Ev.ldb1 0 (.t rfl) rfl ag9 rfl) rfl ?_ | refine W.q (Ev.ldb1 1 (.t rfl) rfl ag9 rfl) rfl ?_ | refine W.q (Ev.ldb1 2 (.t rfl) rfl ag9 rfl) rfl ?_ | refine W.q (Ev.ldb1 3 (.t rfl) rfl ag9 rfl) rfl ?_
    refine W.q (Ev.eqs (.t rfl) .k) rfl ?_
    refine W.nil ?_
    refine W.then ?_
    refine W.cond (.t rfl) (fun hc_t18 => ?_) (fun hc_t18 => ?_)
    · have hnm : d.name = [] := beq_iff_eq.1 hc_t18
      rw [Rl.step, if_pos hnm] at hsn
      refine W.seq ?_
      refine W.seq ?_
      refine W.region ?_
      first | refine W.q (Ev.fae (.t rfl) fa35_2 rfl) rfl ?_ | refine W.q (Ev.fab (.t rfl) fa35_2) rfl ?_ | refine W.q (Ev.faa (.t rfl) fa35_2) rfl ?_
      first | refine W.q (Ev.lde1 (.t rfl) ag9) rfl ?_ | refine W.q (Ev.ldb1 0 (.t rfl) rfl ag9 rfl) rfl ?_ | refine W.q (Ev.ldb1 1 (.t rfl) rfl ag9 rfl) rfl ?_ | refine W.q (Ev.ldb1 2 (.t rfl) rfl ag9 rfl) rfl ?_ | refine W.q (Ev.ldb1 3 (.t rfl) rfl ag9 rfl) rfl ?_
      refine W.q (Ev.nes (.t rfl) .k) rfl ?_
      refine W.nil ?_
      refine W.then ?_
      refine W.cond (.t rfl) (fun hc_t21 => ?_) (fun hc_t21 => ?_)
      · have htx : d.text ≠ [] := by simpa using hc_t21
        rw [if_neg htx] at hsn
        refine W.region ?_
        refine W.q (Ev.move (.t rfl)) rfl ?_
        first | refine W.q (Ev.fae (.t rfl) fa35_2 rfl) rfl ?_ | refine W.q (Ev.fab (.t rfl) fa35_2) rfl ?_ | refine W.q (Ev.faa (.t rfl) fa35_2) rfl ?_
        first | refine W.q (Ev.lde1 (.t rfl) ag9) rfl ?_ | refine W.q (Ev.ldb1 0 (.t rfl) rfl ag9 rfl) rfl ?_ | refine W.q (Ev.ldb1 1 (.t rfl) rfl ag9 rfl) rfl ?_ | refine W.q (Ev.ldb1 2 (.t rfl) rfl ag9 rfl) rfl ?_ | refine W.q (Ev.ldb1 3 (.t rfl) rfl ag9 rfl) rfl ?_
        refine W.q (Ev.build ty35 st35 rfl (fun hg => ⟨_, _, _, rfl, (.t rfl), rfl, rfl, rfl, rfl⟩)) rfl ?_
        refine W.nils (t := 25) (g := true) (cs' := [.str [], .sl 2 [], .str d.text, .sl 4 []]) rfl ⟨.inl rfl, .inr ⟨rfl, 2, rfl⟩, .inl rfl, .inr ⟨rfl, 4, rfl⟩, trivial⟩ ?_
        refine W.bs (es := [_]) Try.underlying25 ty35 ⟨rfl, (.t rfl), rfl, rfl, trivial⟩ rfl (by decide) rfl rfl ?_
        refine W.call (WJoined.c_Joined (Rl.run rs [] (l.take i)) [Nd.mk [] [] d.text []] v (by simp only [List.length_cons, List.length_nil]; omega) (by rw [Nd.tszs_one, Nd.tsz_eq]; simp only [Nd.text_mk, Nd.parts_mk, Nd.tszs]; omega)) ⟨(.t rfl), (.t rfl), trivial⟩ (List.perm_append_comm (l₁ := [_])) rfl ?_
        rintro _ _ ⟨v27, rfl, rfl⟩
        refine W.q (Ev.assign (.t rfl)) rfl ?_
        refine W.nil ?_
        refine W.then ?_
        refine W.exit ?_
        refine W.then_exit ?_
        refine W.blk_hit ?_
        refine W.then ?_
        refine W.region ?_
        first | refine W.q (Ev.add (.t rfl) .k (fun _ => by omega)) rfl ?_ | refine W.q (Ev.addw (.t rfl) .k) rfl ?_
        refine W.q (Ev.move (.t rfl)) rfl ?_
        refine W.nil ?_
        refine W.then ?_
        first
        | (refine W.reach (D := _) (i + 1, v27) ⟨rfl, rfl, rfl, rfl, rfl, trivial⟩ (by rw [hsn] <;> exact .refl _) ⟨by show i + 1 ≤ _; omega, by show _ - (i + 1) < _; omega⟩)
        | (refine W.reach (D := _) (i + 1, v) ⟨rfl, rfl, rfl, rfl, rfl, trivial⟩ (by rw [hsn] <;> exact List.perm_append_comm (l₁ := [_])) ⟨by show i + 1 ≤ _; omega, by show _ - (i + 1) < _; omega⟩)
        | (refine W.reach (D := _) (i + 1, v62) ⟨rfl, rfl, rfl, rfl, rfl, trivial⟩ (by rw [hsn] <;> exact .refl _) ⟨by show i + 1 ≤ _; omega, by show _ - (i + 1) < _; omega⟩)
        | (refine W.reach (D := _) (i + 1, v) ⟨rfl, rfl, rfl, rfl, rfl, trivial⟩ (by rw [hsn] <;> exact List.perm_append_comm (l₁ := [_, _])) ⟨by show i + 1 ≤ _; omega, by show _ - (i + 1) < _; omega⟩)
        | (refine W.reach (D := _) (i + 1, v54) ⟨rfl, rfl, rfl, rfl, rfl, trivial⟩ (by rw [hsn, Nd.map_snoc] <;> exact List.perm_append_comm (l₁ := [_, _])) ⟨by show i + 1 ≤ _; omega, by show _ - (i + 1) < _; omega⟩)
      · have htx : d.text = [] := by simpa using hc_t21
        rw [if_pos htx] at hsn
        refine W.skip ?_
        refine W.then ?_
        refine W.exit ?_
        refine W.then_exit ?_
        refine W.blk_hit ?_
        refine W.then ?_
        refine W.region ?_
        first | refine W.q (Ev.add (.t rfl) .k (fun _ => by omega)) rfl ?_ | refine W.q (Ev.addw (.t rfl) .k) rfl ?_
        refine W.q (Ev.move (.t rfl)) rfl ?_
        refine W.nil ?_
        refine W.then ?_
        first
        | (refine W.reach (D := _) (i + 1, v27) ⟨rfl, rfl, rfl, rfl, rfl, trivial⟩ (by rw [hsn] <;> exact .refl _) ⟨by show i + 1 ≤ _; omega, by show _ - (i + 1) < _; omega⟩)
        | (refine W.reach (D := _) (i + 1, v) ⟨rfl, rfl, rfl, rfl, rfl, trivial⟩ (by rw [hsn] <;> exact List.perm_append_comm (l₁ := [_])) ⟨by show i + 1 ≤ _; omega, by show _ - (i + 1) < _; omega⟩)
        | (refine W.reach (D := _) (i + 1, v62) ⟨rfl, rfl, rfl, rfl, rfl, trivial⟩ (by rw [hsn] <;> exact .refl _) ⟨by show i + 1 ≤ _; omega, by show _ - (i + 1) < _; omega⟩)
        | (refine W.reach (D := _) (i + 1, v) ⟨rfl, rfl, rfl, rfl, rfl, trivial⟩ (by rw [hsn] <;> exact List.perm_append_comm (l₁ := [_, _])) ⟨by show i + 1 ≤ _; omega, by show _ - (i + 1) < _; omega⟩)
        | (refine W.reach (D := _) (i + 1, v54) ⟨rfl, rfl, rfl, rfl, rfl, trivial⟩ (by rw [hsn, Nd.map_snoc] <;> exact List.perm_append_comm (l₁ := [_, _])) ⟨by show i + 1 ≤ _; omega, by show _ - (i + 1) < _; omega⟩)
    · have hnm : d.name ≠ [] := by simpa using hc_t18
      rw [Rl.step, if_neg hnm] at hsn
      refine W.skip ?_
      refine W.then ?_
      refine W.seq ?_
      refine W.region ?_
      refine W.q (Ev.build ty51 st51 rfl (fun hg => ⟨_, _, _, rfl, .k, rfl, rfl, rfl, rfl⟩)) rfl ?_
      refine W.alloc ty51 rfl rfl ?_
      intro b8
      first | refine W.stb 0 (.t rfl) (.t rfl) rfl ty51 rfl rfl rfl ?_ | refine W.stb 1 (.t rfl) (.t rfl) rfl ty51 rfl rfl rfl ?_ | refine W.stb 2 (.t rfl) (.t rfl) rfl ty51 rfl rfl rfl ?_ | refine W.stb 3 (.t rfl) (.t rfl) rfl ty51 rfl rfl rfl ?_
      refine W.nil ?_
      refine W.then ?_
      refine W.seq ?_
      refine W.seq ?_
      refine W.region ?_
      refine W.q (Ev.move (.t rfl)) rfl ?_
      refine W.q (Ev.mkfn (caps := [.tmp 7]) (vs := [_]) ⟨(.t rfl), trivial⟩) rfl ?_
      refine W.call (WRules.c_IndexFuncR rs 76 [.pointer (some ⟨b7, 0, none⟩)] [.box b7 35 [.str d.name, .sl 2 (d.attrs.map dav), .str d.text, .sl 4 (d.parts.map Nd.av)]] (fun q => q.name == d.name) (fun q _ => c_Of1 q d b7) (by omega)) ⟨(.t rfl), (.t rfl), trivial⟩ (List.Perm.swap _ _ _) rfl ?_
      rintro _ _ ⟨rfl, rfl⟩
      refine W.q (Ev.assign (.t rfl)) rfl ?_
      refine W.nil ?_
      refine W.then ?_
      refine W.seq ?_
      refine W.region ?_
      refine W.q (Ev.move (.t rfl)) rfl ?_
      refine W.q (Ev.gei (.t rfl) .k) rfl ?_
      refine W.nil ?_
      refine W.then ?_
      refine W.cond (.t rfl) (fun hc_t33 => ?_) (fun hc_t33 => ?_)
      · have hof : Rl.of rs d.name = rs.getD (idxI (fun q => q.name == d.name) rs).toNat Rl.dfl := if_pos (of_decide_eq_true hc_t33)
        have hgr := getD_mapG rav Rl.dfl rs (idxI (fun q => q.name == d.name) rs).toNat (by have := idxI_lt (fun q : Rl => q.name == d.name) rs; have := of_decide_eq_true hc_t33; omega)
        rw [hof] at hsn
        generalize rs.getD (idxI (fun q => q.name == d.name) rs).toNat Rl.dfl = r at hgr hsn
        refine W.region ?_
        refine W.q (Ev.move (.t rfl)) rfl ?_
        refine W.q (Ev.move (.t rfl)) rfl ?_
        refine W.q (Ev.at (E := 51) (.t rfl) (.t rfl) Try.underlying46 ty51 (fun _ => ⟨of_decide_eq_true hc_t33, hgr⟩) rfl rfl) rfl ?_
        first | refine W.q (Ev.lden (.t rfl) ag51 ty51 rfl rfl) rfl ?_ | refine W.q (Ev.ldbn 0 (.t rfl) rfl ag51 ty51 rfl) rfl ?_ | refine W.q (Ev.ldbn 1 (.t rfl) rfl ag51 ty51 rfl) rfl ?_ | refine W.q (Ev.ldbn 2 (.t rfl) rfl ag51 ty51 rfl) rfl ?_ | refine W.q (Ev.ldbn 3 (.t rfl) rfl ag51 ty51 rfl) rfl ?_
        first | refine W.stb 0 (.t rfl) (.t rfl) rfl ty51 rfl rfl rfl ?_ | refine W.stb 1 (.t rfl) (.t rfl) rfl ty51 rfl rfl rfl ?_ | refine W.stb 2 (.t rfl) (.t rfl) rfl ty51 rfl rfl rfl ?_ | refine W.stb 3 (.t rfl) (.t rfl) rfl ty51 rfl rfl rfl ?_
        refine W.nil ?_
        refine W.then ?_
        refine W.seq ?_
        refine W.region ?_
        first | refine W.q (Ev.fae (.t rfl) fa51_1 rfl) rfl ?_ | refine W.q (Ev.fab (.t rfl) fa51_1) rfl ?_ | refine W.q (Ev.faa (.t rfl) fa51_1) rfl ?_
        first | refine W.q (Ev.lde1 (.t rfl) ag3) rfl ?_ | refine W.q (Ev.ldb1 0 (.t rfl) rfl ag3 rfl) rfl ?_ | refine W.q (Ev.ldb1 1 (.t rfl) rfl ag3 rfl) rfl ?_ | refine W.q (Ev.ldb1 2 (.t rfl) rfl ag3 rfl) rfl ?_ | refine W.q (Ev.ldb1 3 (.t rfl) rfl ag3 rfl) rfl ?_
        refine W.nil ?_
        refine W.then ?_
        refine W.block ?_
        refine W.seq ?_
        refine W.region ?_
        refine W.q (Ev.eqi (.t rfl) .k) rfl ?_
        refine W.q (Ev.assign (.t rfl)) rfl ?_
        refine W.nil ?_
        refine W.then ?_
        refine W.cond (.t rfl) (fun hc_t40 => ?_) (fun hc_t40 => ?_)
        · have h40 := beq_iff_eq.1 hc_t40
          rw [if_pos h40] at hsn
          refine W.drawnE (ι := Value) (fun ee c => [.box b7 35 [.str d.name, .sl 2 (d.attrs.map dav), .str d.text, .sl 4 (d.parts.map Nd.av)], .box b8 51 [.str r.name, .int r.act, .str r.to], bif ee 12 then ME.arr c 35 4 (((Rl.run rs [] (l.take i)).map Nd.av) ++ [.agg [.str r.to, .sl 2 (d.attrs.map dav), .str [], .sl 4 ((Rl.run rs [] d.parts).map Nd.av)]]) else ME.arr v 35 4 ((Rl.run rs [] (l.take i)).map Nd.av)]) 12 v (by kernel_rfl) (by kernel_rfl) rfl ?_
          refine DE.q (fun e c hk => (Ev.move (.t rfl))) rfl (fun _ _ => rfl) (by first | exact .inr (fun _ _ => rfl) | exact .inl (by kernel_rfl)) ?_
          first | refine DE.q (fun e c hk => (Ev.fae (.t rfl) fa51_2 rfl)) rfl (fun _ _ => rfl) (by first | exact .inr (fun _ _ => rfl) | exact .inl (by kernel_rfl)) ?_ | refine DE.q (fun e c hk => (Ev.fab (.t rfl) fa51_2)) rfl (fun _ _ => rfl) (by first | exact .inr (fun _ _ => rfl) | exact .inl (by kernel_rfl)) ?_ | refine DE.q (fun e c hk => (Ev.faa (.t rfl) fa51_2)) rfl (fun _ _ => rfl) (by first | exact .inr (fun _ _ => rfl) | exact .inl (by kernel_rfl)) ?_
          first | refine DE.q (fun e c hk => (Ev.lde1 (.t rfl) ag9)) rfl (fun _ _ => rfl) (by first | exact .inr (fun _ _ => rfl) | exact .inl (by kernel_rfl)) ?_ | refine DE.q (fun e c hk => (Ev.ldb1 0 (.t rfl) rfl ag9 rfl)) rfl (fun _ _ => rfl) (by first | exact .inr (fun _ _ => rfl) | exact .inl (by kernel_rfl)) ?_ | refine DE.q (fun e c hk => (Ev.ldb1 1 (.t rfl) rfl ag9 rfl)) rfl (fun _ _ => rfl) (by first | exact .inr (fun _ _ => rfl) | exact .inl (by kernel_rfl)) ?_ | refine DE.q (fun e c hk => (Ev.ldb1 2 (.t rfl) rfl ag9 rfl)) rfl (fun _ _ => rfl) (by first | exact .inr (fun _ _ => rfl) | exact .inl (by kernel_rfl)) ?_ | refine DE.q (fun e c hk => (Ev.ldb1 3 (.t rfl) rfl ag9 rfl)) rfl (fun _ _ => rfl) (by first | exact .inr (fun _ _ => rfl) | exact .inl (by kernel_rfl)) ?_
          first | refine DE.q (fun e c hk => (Ev.fae (.t rfl) fa35_1 rfl)) rfl (fun _ _ => rfl) (by first | exact .inr (fun _ _ => rfl) | exact .inl (by kernel_rfl)) ?_ | refine DE.q (fun e c hk => (Ev.fab (.t rfl) fa35_1)) rfl (fun _ _ => rfl) (by first | exact .inr (fun _ _ => rfl) | exact .inl (by kernel_rfl)) ?_ | refine DE.q (fun e c hk => (Ev.faa (.t rfl) fa35_1)) rfl (fun _ _ => rfl) (by first | exact .inr (fun _ _ => rfl) | exact .inl (by kernel_rfl)) ?_
          first | refine DE.q (fun e c hk => (Ev.lde1 (.t rfl) ag33)) rfl (fun _ _ => rfl) (by first | exact .inr (fun _ _ => rfl) | exact .inl (by kernel_rfl)) ?_ | refine DE.q (fun e c hk => (Ev.ldb1 0 (.t rfl) rfl ag33 rfl)) rfl (fun _ _ => rfl) (by first | exact .inr (fun _ _ => rfl) | exact .inl (by kernel_rfl)) ?_ | refine DE.q (fun e c hk => (Ev.ldb1 1 (.t rfl) rfl ag33 rfl)) rfl (fun _ _ => rfl) (by first | exact .inr (fun _ _ => rfl) | exact .inl (by kernel_rfl)) ?_ | refine DE.q (fun e c hk => (Ev.ldb1 2 (.t rfl) rfl ag33 rfl)) rfl (fun _ _ => rfl) (by first | exact .inr (fun _ _ => rfl) | exact .inl (by kernel_rfl)) ?_ | refine DE.q (fun e c hk => (Ev.ldb1 3 (.t rfl) rfl ag33 rfl)) rfl (fun _ _ => rfl) (by first | exact .inr (fun _ _ => rfl) | exact .inl (by kernel_rfl)) ?_
          refine DE.callp (fun c => c_CloneA d.attrs (by omega)) (fun c => ⟨(.t rfl), trivial⟩) rfl (fun _ _ => rfl) (by first | exact .inr (fun _ _ => rfl) | exact .inl (by kernel_rfl)) ?_
          refine DE.q (fun e c hk => (Ev.move (.t rfl))) rfl (fun _ _ => rfl) (by first | exact .inr (fun _ _ => rfl) | exact .inl (by kernel_rfl)) ?_
          first | refine DE.q (fun e c hk => (Ev.fae (.t rfl) fa35_3 rfl)) rfl (fun _ _ => rfl) (by first | exact .inr (fun _ _ => rfl) | exact .inl (by kernel_rfl)) ?_ | refine DE.q (fun e c hk => (Ev.fab (.t rfl) fa35_3)) rfl (fun _ _ => rfl) (by first | exact .inr (fun _ _ => rfl) | exact .inl (by kernel_rfl)) ?_ | refine DE.q (fun e c hk => (Ev.faa (.t rfl) fa35_3)) rfl (fun _ _ => rfl) (by first | exact .inr (fun _ _ => rfl) | exact .inl (by kernel_rfl)) ?_
          first | refine DE.q (fun e c hk => (Ev.lde1 (.t rfl) ag25)) rfl (fun _ _ => rfl) (by first | exact .inr (fun _ _ => rfl) | exact .inl (by kernel_rfl)) ?_ | refine DE.q (fun e c hk => (Ev.ldb1 0 (.t rfl) rfl ag25 rfl)) rfl (fun _ _ => rfl) (by first | exact .inr (fun _ _ => rfl) | exact .inl (by kernel_rfl)) ?_ | refine DE.q (fun e c hk => (Ev.ldb1 1 (.t rfl) rfl ag25 rfl)) rfl (fun _ _ => rfl) (by first | exact .inr (fun _ _ => rfl) | exact .inl (by kernel_rfl)) ?_ | refine DE.q (fun e c hk => (Ev.ldb1 2 (.t rfl) rfl ag25 rfl)) rfl (fun _ _ => rfl) (by first | exact .inr (fun _ _ => rfl) | exact .inl (by kernel_rfl)) ?_ | refine DE.q (fun e c hk => (Ev.ldb1 3 (.t rfl) rfl ag25 rfl)) rfl (fun _ _ => rfl) (by first | exact .inr (fun _ _ => rfl) | exact .inl (by kernel_rfl)) ?_
          refine DE.callp (fun c => ih d.parts (by omega) (by omega)) (fun c => ⟨(.t rfl), (.t rfl), trivial⟩) rfl (fun _ _ => rfl) (by first | exact .inr (fun _ _ => rfl) | exact .inl (by kernel_rfl)) ?_
          refine DE.q (fun e c hk => (Ev.build ty35 st35 rfl (fun hg => ⟨_, _, _, rfl, (.t rfl), rfl, rfl, rfl, _, _, _, rfl, (.t rfl), rfl, rfl, rfl, _, _, _, rfl, (.t rfl), rfl, rfl, rfl, rfl⟩))) rfl (fun _ _ => rfl) (by first | exact .inr (fun _ _ => rfl) | exact .inl (by kernel_rfl)) ?_
          refine DE.bs (es := fun _ => [_]) Try.underlying25 ty35 (fun c => ⟨rfl, (.t rfl), rfl, rfl, trivial⟩) (fun _ => rfl) (by decide) rfl rfl (fun _ _ => rfl) (by first | exact .inr (fun _ _ => rfl) | exact .inl (by kernel_rfl)) ?_
          refine DE.eff1 (av := fun v => .lit v) rfl rfl (fun e c hk L_ hs Q h => ?_) ?_
          · have hk_12 := hk.not
            simp only [addE, hk_12, Nat.reduceAdd, Nat.reduceEqDiff, ↓reduceIte, cond_true, cond_false] at h ⊢
            first | (refine W.app 0 (.t (hs _ _ rfl)) rfl (.sl (.t (hs _ _ rfl)) (by first | (simp [AV.okc, shV]; done) | (intro e he; rw [List.mem_singleton.1 he]; rfl))) Try.underlying25 ni25 ty35 rfl rfl (by simp only [List.length_map, List.length_cons, List.length_nil]; omega) rfl ?_; exact h) | (refine W.app 1 (.t (hs _ _ rfl)) rfl (.sl (.t (hs _ _ rfl)) (by first | (simp [AV.okc, shV]; done) | (intro e he; rw [List.mem_singleton.1 he]; rfl))) Try.underlying25 ni25 ty35 rfl rfl (by simp only [List.length_map, List.length_cons, List.length_nil]; omega) rfl ?_; exact h) | (refine W.app 2 (.t (hs _ _ rfl)) rfl (.sl (.t (hs _ _ rfl)) (by first | (simp [AV.okc, shV]; done) | (intro e he; rw [List.mem_singleton.1 he]; rfl))) Try.underlying25 ni25 ty35 rfl rfl (by simp only [List.length_map, List.length_cons, List.length_nil]; omega) rfl ?_; exact h) | (refine W.app 3 (.t (hs _ _ rfl)) rfl (.sl (.t (hs _ _ rfl)) (by first | (simp [AV.okc, shV]; done) | (intro e he; rw [List.mem_singleton.1 he]; rfl))) Try.underlying25 ni25 ty35 rfl rfl (by simp only [List.length_map, List.length_cons, List.length_nil]; omega) rfl ?_; exact h) | (refine W.app 0 (.t (hs _ _ rfl)) rfl (.arr 0 (.t (hs _ _ rfl)) rfl (by first | (simp [AV.okc, shV]; done) | (intro e he; rw [List.mem_singleton.1 he]; rfl))) Try.underlying25 ni25 ty35 rfl rfl (by simp only [List.length_map, List.length_cons, List.length_nil]; omega) rfl ?_; exact h) | (refine W.app 1 (.t (hs _ _ rfl)) rfl (.arr 0 (.t (hs _ _ rfl)) rfl (by first | (simp [AV.okc, shV]; done) | (intro e he; rw [List.mem_singleton.1 he]; rfl))) Try.underlying25 ni25 ty35 rfl rfl (by simp only [List.length_map, List.length_cons, List.length_nil]; omega) rfl ?_; exact h) | (refine W.app 2 (.t (hs _ _ rfl)) rfl (.arr 0 (.t (hs _ _ rfl)) rfl (by first | (simp [AV.okc, shV]; done) | (intro e he; rw [List.mem_singleton.1 he]; rfl))) Try.underlying25 ni25 ty35 rfl rfl (by simp only [List.length_map, List.length_cons, List.length_nil]; omega) rfl ?_; exact h) | (refine W.app 3 (.t (hs _ _ rfl)) rfl (.arr 0 (.t (hs _ _ rfl)) rfl (by first | (simp [AV.okc, shV]; done) | (intro e he; rw [List.mem_singleton.1 he]; rfl))) Try.underlying25 ni25 ty35 rfl rfl (by simp only [List.length_map, List.length_cons, List.length_nil]; omega) rfl ?_; exact h) | (refine W.app 0 (.t (hs _ _ rfl)) rfl (.arr 1 (.t (hs _ _ rfl)) rfl (by first | (simp [AV.okc, shV]; done) | (intro e he; rw [List.mem_singleton.1 he]; rfl))) Try.underlying25 ni25 ty35 rfl rfl (by simp only [List.length_map, List.length_cons, List.length_nil]; omega) rfl ?_; exact h) | (refine W.app 1 (.t (hs _ _ rfl)) rfl (.arr 1 (.t (hs _ _ rfl)) rfl (by first | (simp [AV.okc, shV]; done) | (intro e he; rw [List.mem_singleton.1 he]; rfl))) Try.underlying25 ni25 ty35 rfl rfl (by simp only [List.length_map, List.length_cons, List.length_nil]; omega) rfl ?_; exact h) | (refine W.app 2 (.t (hs _ _ rfl)) rfl (.arr 1 (.t (hs _ _ rfl)) rfl (by first | (simp [AV.okc, shV]; done) | (intro e he; rw [List.mem_singleton.1 he]; rfl))) Try.underlying25 ni25 ty35 rfl rfl (by simp only [List.length_map, List.length_cons, List.length_nil]; omega) rfl ?_; exact h) | (refine W.app 3 (.t (hs _ _ rfl)) rfl (.arr 1 (.t (hs _ _ rfl)) rfl (by first | (simp [AV.okc, shV]; done) | (intro e he; rw [List.mem_singleton.1 he]; rfl))) Try.underlying25 ni25 ty35 rfl rfl (by simp only [List.length_map, List.length_cons, List.length_nil]; omega) rfl ?_; exact h) | (refine W.app 0 (.t (hs _ _ rfl)) rfl (.arr 2 (.t (hs _ _ rfl)) rfl (by first | (simp [AV.okc, shV]; done) | (intro e he; rw [List.mem_singleton.1 he]; rfl))) Try.underlying25 ni25 ty35 rfl rfl (by simp only [List.length_map, List.length_cons, List.length_nil]; omega) rfl ?_; exact h) | (refine W.app 1 (.t (hs _ _ rfl)) rfl (.arr 2 (.t (hs _ _ rfl)) rfl (by first | (simp [AV.okc, shV]; done) | (intro e he; rw [List.mem_singleton.1 he]; rfl))) Try.underlying25 ni25 ty35 rfl rfl (by simp only [List.length_map, List.length_cons, List.length_nil]; omega) rfl ?_; exact h) | (refine W.app 2 (.t (hs _ _ rfl)) rfl (.arr 2 (.t (hs _ _ rfl)) rfl (by first | (simp [AV.okc, shV]; done) | (intro e he; rw [List.mem_singleton.1 he]; rfl))) Try.underlying25 ni25 ty35 rfl rfl (by simp only [List.length_map, List.length_cons, List.length_nil]; omega) rfl ?_; exact h) | (refine W.app 3 (.t (hs _ _ rfl)) rfl (.arr 2 (.t (hs _ _ rfl)) rfl (by first | (simp [AV.okc, shV]; done) | (intro e he; rw [List.mem_singleton.1 he]; rfl))) Try.underlying25 ni25 ty35 rfl rfl (by simp only [List.length_map, List.length_cons, List.length_nil]; omega) rfl ?_; exact h) | (refine W.app 0 (.t (hs _ _ rfl)) rfl (.arr 3 (.t (hs _ _ rfl)) rfl (by first | (simp [AV.okc, shV]; done) | (intro e he; rw [List.mem_singleton.1 he]; rfl))) Try.underlying25 ni25 ty35 rfl rfl (by simp only [List.length_map, List.length_cons, List.length_nil]; omega) rfl ?_; exact h) | (refine W.app 1 (.t (hs _ _ rfl)) rfl (.arr 3 (.t (hs _ _ rfl)) rfl (by first | (simp [AV.okc, shV]; done) | (intro e he; rw [List.mem_singleton.1 he]; rfl))) Try.underlying25 ni25 ty35 rfl rfl (by simp only [List.length_map, List.length_cons, List.length_nil]; omega) rfl ?_; exact h) | (refine W.app 2 (.t (hs _ _ rfl)) rfl (.arr 3 (.t (hs _ _ rfl)) rfl (by first | (simp [AV.okc, shV]; done) | (intro e he; rw [List.mem_singleton.1 he]; rfl))) Try.underlying25 ni25 ty35 rfl rfl (by simp only [List.length_map, List.length_cons, List.length_nil]; omega) rfl ?_; exact h) | (refine W.app 3 (.t (hs _ _ rfl)) rfl (.arr 3 (.t (hs _ _ rfl)) rfl (by first | (simp [AV.okc, shV]; done) | (intro e he; rw [List.mem_singleton.1 he]; rfl))) Try.underlying25 ni25 ty35 rfl rfl (by simp only [List.length_map, List.length_cons, List.length_nil]; omega) rfl ?_; exact h)
          refine DE.q (fun e c hk => (Ev.assign (.t rfl))) rfl (fun _ _ => rfl) (by first | exact .inr (fun _ _ => rfl) | exact .inl (by kernel_rfl)) ?_
          refine DE.nil (fun v54 e_ he_ => ?_)
          simp only [he_ 12 (by decide), cond_true, cond_false]
          refine W.blk_normal ?_
          refine W.blk_normal ?_
          refine W.then ?_
          refine W.region ?_
          first | refine W.q (Ev.add (.t rfl) .k (fun _ => by omega)) rfl ?_ | refine W.q (Ev.addw (.t rfl) .k) rfl ?_
          refine W.q (Ev.move (.t rfl)) rfl ?_
          refine W.nil ?_
          refine W.then ?_
          first
          | (refine W.reach (D := _) (i + 1, v27) ⟨rfl, rfl, rfl, rfl, rfl, trivial⟩ (by rw [hsn] <;> exact .refl _) ⟨by show i + 1 ≤ _; omega, by show _ - (i + 1) < _; omega⟩)
          | (refine W.reach (D := _) (i + 1, v) ⟨rfl, rfl, rfl, rfl, rfl, trivial⟩ (by rw [hsn] <;> exact List.perm_append_comm (l₁ := [_])) ⟨by show i + 1 ≤ _; omega, by show _ - (i + 1) < _; omega⟩)
          | (refine W.reach (D := _) (i + 1, v62) ⟨rfl, rfl, rfl, rfl, rfl, trivial⟩ (by rw [hsn] <;> exact .refl _) ⟨by show i + 1 ≤ _; omega, by show _ - (i + 1) < _; omega⟩)
          | (refine W.reach (D := _) (i + 1, v) ⟨rfl, rfl, rfl, rfl, rfl, trivial⟩ (by rw [hsn] <;> exact List.perm_append_comm (l₁ := [_, _])) ⟨by show i + 1 ≤ _; omega, by show _ - (i + 1) < _; omega⟩)
          | (refine W.reach (D := _) (i + 1, v54) ⟨rfl, rfl, rfl, rfl, rfl, trivial⟩ (by rw [hsn, Nd.map_snoc] <;> exact List.perm_append_comm (l₁ := [_, _])) ⟨by show i + 1 ≤ _; omega, by show _ - (i + 1) < _; omega⟩)
        · have h40 := beq_eq_false_iff_ne.1 hc_t40
          rw [if_neg h40] at hsn
          refine W.seq ?_
          refine W.region ?_
          refine W.q (Ev.eqi (.t rfl) .k) rfl ?_
          refine W.q (Ev.assign (.t rfl)) rfl ?_
          refine W.nil ?_
          refine W.then ?_
          refine W.cond (.t rfl) (fun hc_t55 => ?_) (fun hc_t55 => ?_)
          · have h55 := beq_iff_eq.1 hc_t55
            rw [if_pos h55] at hsn
            refine W.region ?_
            refine W.q (Ev.move (.t rfl)) rfl ?_
            refine W.q (Ev.move (.t rfl)) rfl ?_
            first | refine W.q (Ev.fae (.t rfl) fa35_3 rfl) rfl ?_ | refine W.q (Ev.fab (.t rfl) fa35_3) rfl ?_ | refine W.q (Ev.faa (.t rfl) fa35_3) rfl ?_
            first | refine W.q (Ev.lde1 (.t rfl) ag25) rfl ?_ | refine W.q (Ev.ldb1 0 (.t rfl) rfl ag25 rfl) rfl ?_ | refine W.q (Ev.ldb1 1 (.t rfl) rfl ag25 rfl) rfl ?_ | refine W.q (Ev.ldb1 2 (.t rfl) rfl ag25 rfl) rfl ?_ | refine W.q (Ev.ldb1 3 (.t rfl) rfl ag25 rfl) rfl ?_
            refine W.callp (ih d.parts (by omega) (by omega)) ⟨(.t rfl), (.t rfl), trivial⟩ rfl ?_
            refine W.call (WJoined.c_Joined (Rl.run rs [] (l.take i)) (Rl.run rs [] d.parts) v (by omega) (by omega)) ⟨(.t rfl), (.t rfl), trivial⟩ (List.perm_append_comm (l₁ := [_, _])) rfl ?_
            rintro _ _ ⟨v62, rfl, rfl⟩
            refine W.q (Ev.assign (.t rfl)) rfl ?_
            refine W.nil ?_
            refine W.blk_normal ?_
            refine W.blk_normal ?_
            refine W.then ?_
            refine W.region ?_
            first | refine W.q (Ev.add (.t rfl) .k (fun _ => by omega)) rfl ?_ | refine W.q (Ev.addw (.t rfl) .k) rfl ?_
            refine W.q (Ev.move (.t rfl)) rfl ?_
            refine W.nil ?_
            refine W.then ?_
            first
            | (refine W.reach (D := _) (i + 1, v27) ⟨rfl, rfl, rfl, rfl, rfl, trivial⟩ (by rw [hsn] <;> exact .refl _) ⟨by show i + 1 ≤ _; omega, by show _ - (i + 1) < _; omega⟩)
            | (refine W.reach (D := _) (i + 1, v) ⟨rfl, rfl, rfl, rfl, rfl, trivial⟩ (by rw [hsn] <;> exact List.perm_append_comm (l₁ := [_])) ⟨by show i + 1 ≤ _; omega, by show _ - (i + 1) < _; omega⟩)
            | (refine W.reach (D := _) (i + 1, v62) ⟨rfl, rfl, rfl, rfl, rfl, trivial⟩ (by rw [hsn] <;> exact .refl _) ⟨by show i + 1 ≤ _; omega, by show _ - (i + 1) < _; omega⟩)
            | (refine W.reach (D := _) (i + 1, v) ⟨rfl, rfl, rfl, rfl, rfl, trivial⟩ (by rw [hsn] <;> exact List.perm_append_comm (l₁ := [_, _])) ⟨by show i + 1 ≤ _; omega, by show _ - (i + 1) < _; omega⟩)
            | (refine W.reach (D := _) (i + 1, v54) ⟨rfl, rfl, rfl, rfl, rfl, trivial⟩ (by rw [hsn, Nd.map_snoc] <;> exact List.perm_append_comm (l₁ := [_, _])) ⟨by show i + 1 ≤ _; omega, by show _ - (i + 1) < _; omega⟩)
          · have h55 := beq_eq_false_iff_ne.1 hc_t55
            rw [if_neg h55] at hsn
            refine W.skip ?_
            refine W.blk_normal ?_
            refine W.blk_normal ?_
            refine W.then ?_
            refine W.region ?_
            first | refine W.q (Ev.add (.t rfl) .k (fun _ => by omega)) rfl ?_ | refine W.q (Ev.addw (.t rfl) .k) rfl ?_
            refine W.q (Ev.move (.t rfl)) rfl ?_
            refine W.nil ?_
            refine W.then ?_
            first
            | (refine W.reach (D := _) (i + 1, v27) ⟨rfl, rfl, rfl, rfl, rfl, trivial⟩ (by rw [hsn] <;> exact .refl _) ⟨by show i + 1 ≤ _; omega, by show _ - (i + 1) < _; omega⟩)
            | (refine W.reach (D := _) (i + 1, v) ⟨rfl, rfl, rfl, rfl, rfl, trivial⟩ (by rw [hsn] <;> exact List.perm_append_comm (l₁ := [_])) ⟨by show i + 1 ≤ _; omega, by show _ - (i + 1) < _; omega⟩)
            | (refine W.reach (D := _) (i + 1, v62) ⟨rfl, rfl, rfl, rfl, rfl, trivial⟩ (by rw [hsn] <;> exact .refl _) ⟨by show i + 1 ≤ _; omega, by show _ - (i + 1) < _; omega⟩)
            | (refine W.reach (D := _) (i + 1, v) ⟨rfl, rfl, rfl, rfl, rfl, trivial⟩ (by rw [hsn] <;> exact List.perm_append_comm (l₁ := [_, _])) ⟨by show i + 1 ≤ _; omega, by show _ - (i + 1) < _; omega⟩)
            | (refine W.reach (D := _) (i + 1, v54) ⟨rfl, rfl, rfl, rfl, rfl, trivial⟩ (by rw [hsn, Nd.map_snoc] <;> exact List.perm_append_comm (l₁ := [_, _])) ⟨by show i + 1 ≤ _; omega, by show _ - (i + 1) < _; omega⟩)
      · have hof : Rl.of rs d.name = Rl.dfl := if_neg (of_decide_eq_false hc_t33)
        rw [hof] at hsn
        obtain ⟨r, hr⟩ : ∃ r, r = Rl.dfl := ⟨_, rfl⟩
        rw [← hr] at hsn
        refine W.perm (M' := [.box b7 35 [.str d.name, .sl 2 (d.attrs.map dav), .str d.text, .sl 4 (d.parts.map Nd.av)], .box b8 51 [.str r.name, .int r.act, .str r.to], .arr v 35 4 ((Rl.run rs [] (l.take i)).map Nd.av)]) (List.Perm.of_eq (by subst hr; rfl)) ?_
        refine W.skip ?_
        refine W.then ?_
        refine W.seq ?_
        refine W.region ?_
        first | refine W.q (Ev.fae (.t rfl) fa51_1 rfl) rfl ?_ | refine W.q (Ev.fab (.t rfl) fa51_1) rfl ?_ | refine W.q (Ev.faa (.t rfl) fa51_1) rfl ?_
        first | refine W.q (Ev.lde1 (.t rfl) ag3) rfl ?_ | refine W.q (Ev.ldb1 0 (.t rfl) rfl ag3 rfl) rfl ?_ | refine W.q (Ev.ldb1 1 (.t rfl) rfl ag3 rfl) rfl ?_ | refine W.q (Ev.ldb1 2 (.t rfl) rfl ag3 rfl) rfl ?_ | refine W.q (Ev.ldb1 3 (.t rfl) rfl ag3 rfl) rfl ?_
        refine W.nil ?_
        refine W.then ?_
        refine W.block ?_
        refine W.seq ?_
        refine W.region ?_
        refine W.q (Ev.eqi (.t rfl) .k) rfl ?_
        refine W.q (Ev.assign (.t rfl)) rfl ?_
        refine W.nil ?_
        refine W.then ?_
        refine W.cond (.t rfl) (fun hc_t40 => ?_) (fun hc_t40 => ?_)
        · have h40 := beq_iff_eq.1 hc_t40
          rw [if_pos h40] at hsn
          refine W.drawnE (ι := Value) (fun ee c => [.box b7 35 [.str d.name, .sl 2 (d.attrs.map dav), .str d.text, .sl 4 (d.parts.map Nd.av)], .box b8 51 [.str r.name, .int r.act, .str r.to], bif ee 12 then ME.arr c 35 4 (((Rl.run rs [] (l.take i)).map Nd.av) ++ [.agg [.str r.to, .sl 2 (d.attrs.map dav), .str [], .sl 4 ((Rl.run rs [] d.parts).map Nd.av)]]) else ME.arr v 35 4 ((Rl.run rs [] (l.take i)).map Nd.av)]) 12 v (by kernel_rfl) (by kernel_rfl) rfl ?_
          refine DE.q (fun e c hk => (Ev.move (.t rfl))) rfl (fun _ _ => rfl) (by first | exact .inr (fun _ _ => rfl) | exact .inl (by kernel_rfl)) ?_
          first | refine DE.q (fun e c hk => (Ev.fae (.t rfl) fa51_2 rfl)) rfl (fun _ _ => rfl) (by first | exact .inr (fun _ _ => rfl) | exact .inl (by kernel_rfl)) ?_ | refine DE.q (fun e c hk => (Ev.fab (.t rfl) fa51_2)) rfl (fun _ _ => rfl) (by first | exact .inr (fun _ _ => rfl) | exact .inl (by kernel_rfl)) ?_ | refine DE.q (fun e c hk => (Ev.faa (.t rfl) fa51_2)) rfl (fun _ _ => rfl) (by first | exact .inr (fun _ _ => rfl) | exact .inl (by kernel_rfl)) ?_
          first | refine DE.q (fun e c hk => (Ev.lde1 (.t rfl) ag9)) rfl (fun _ _ => rfl) (by first | exact .inr (fun _ _ => rfl) | exact .inl (by kernel_rfl)) ?_ | refine DE.q (fun e c hk => (Ev.ldb1 0 (.t rfl) rfl ag9 rfl)) rfl (fun _ _ => rfl) (by first | exact .inr (fun _ _ => rfl) | exact .inl (by kernel_rfl)) ?_ | refine DE.q (fun e c hk => (Ev.ldb1 1 (.t rfl) rfl ag9 rfl)) rfl (fun _ _ => rfl) (by first | exact .inr (fun _ _ => rfl) | exact .inl (by kernel_rfl)) ?_ | refine DE.q (fun e c hk => (Ev.ldb1 2 (.t rfl) rfl ag9 rfl)) rfl (fun _ _ => rfl) (by first | exact .inr (fun _ _ => rfl) | exact .inl (by kernel_rfl)) ?_ | refine DE.q (fun e c hk => (Ev.ldb1 3 (.t rfl) rfl ag9 rfl)) rfl (fun _ _ => rfl) (by first | exact .inr (fun _ _ => rfl) | exact .inl (by kernel_rfl)) ?_
          first | refine DE.q (fun e c hk => (Ev.fae (.t rfl) fa35_1 rfl)) rfl (fun _ _ => rfl) (by first | exact .inr (fun _ _ => rfl) | exact .inl (by kernel_rfl)) ?_ | refine DE.q (fun e c hk => (Ev.fab (.t rfl) fa35_1)) rfl (fun _ _ => rfl) (by first | exact .inr (fun _ _ => rfl) | exact .inl (by kernel_rfl)) ?_ | refine DE.q (fun e c hk => (Ev.faa (.t rfl) fa35_1)) rfl (fun _ _ => rfl) (by first | exact .inr (fun _ _ => rfl) | exact .inl (by kernel_rfl)) ?_
          first | refine DE.q (fun e c hk => (Ev.lde1 (.t rfl) ag33)) rfl (fun _ _ => rfl) (by first | exact .inr (fun _ _ => rfl) | exact .inl (by kernel_rfl)) ?_ | refine DE.q (fun e c hk => (Ev.ldb1 0 (.t rfl) rfl ag33 rfl)) rfl (fun _ _ => rfl) (by first | exact .inr (fun _ _ => rfl) | exact .inl (by kernel_rfl)) ?_ | refine DE.q (fun e c hk => (Ev.ldb1 1 (.t rfl) rfl ag33 rfl)) rfl (fun _ _ => rfl) (by first | exact .inr (fun _ _ => rfl) | exact .inl (by kernel_rfl)) ?_ | refine DE.q (fun e c hk => (Ev.ldb1 2 (.t rfl) rfl ag33 rfl)) rfl (fun _ _ => rfl) (by first | exact .inr (fun _ _ => rfl) | exact .inl (by kernel_rfl)) ?_ | refine DE.q (fun e c hk => (Ev.ldb1 3 (.t rfl) rfl ag33 rfl)) rfl (fun _ _ => rfl) (by first | exact .inr (fun _ _ => rfl) | exact .inl (by kernel_rfl)) ?_
          refine DE.callp (fun c => c_CloneA d.attrs (by omega)) (fun c => ⟨(.t rfl), trivial⟩) rfl (fun _ _ => rfl) (by first | exact .inr (fun _ _ => rfl) | exact .inl (by kernel_rfl)) ?_
          refine DE.q (fun e c hk => (Ev.move (.t rfl))) rfl (fun _ _ => rfl) (by first | exact .inr (fun _ _ => rfl) | exact .inl (by kernel_rfl)) ?_
          first | refine DE.q (fun e c hk => (Ev.fae (.t rfl) fa35_3 rfl)) rfl (fun _ _ => rfl) (by first | exact .inr (fun _ _ => rfl) | exact .inl (by kernel_rfl)) ?_ | refine DE.q (fun e c hk => (Ev.fab (.t rfl) fa35_3)) rfl (fun _ _ => rfl) (by first | exact .inr (fun _ _ => rfl) | exact .inl (by kernel_rfl)) ?_ | refine DE.q (fun e c hk => (Ev.faa (.t rfl) fa35_3)) rfl (fun _ _ => rfl) (by first | exact .inr (fun _ _ => rfl) | exact .inl (by kernel_rfl)) ?_
          first | refine DE.q (fun e c hk => (Ev.lde1 (.t rfl) ag25)) rfl (fun _ _ => rfl) (by first | exact .inr (fun _ _ => rfl) | exact .inl (by kernel_rfl)) ?_ | refine DE.q (fun e c hk => (Ev.ldb1 0 (.t rfl) rfl ag25 rfl)) rfl (fun _ _ => rfl) (by first | exact .inr (fun _ _ => rfl) | exact .inl (by kernel_rfl)) ?_ | refine DE.q (fun e c hk => (Ev.ldb1 1 (.t rfl) rfl ag25 rfl)) rfl (fun _ _ => rfl) (by first | exact .inr (fun _ _ => rfl) | exact .inl (by kernel_rfl)) ?_ | refine DE.q (fun e c hk => (Ev.ldb1 2 (.t rfl) rfl ag25 rfl)) rfl (fun _ _ => rfl) (by first | exact .inr (fun _ _ => rfl) | exact .inl (by kernel_rfl)) ?_ | refine DE.q (fun e c hk => (Ev.ldb1 3 (.t rfl) rfl ag25 rfl)) rfl (fun _ _ => rfl) (by first | exact .inr (fun _ _ => rfl) | exact .inl (by kernel_rfl)) ?_
          refine DE.callp (fun c => ih d.parts (by omega) (by omega)) (fun c => ⟨(.t rfl), (.t rfl), trivial⟩) rfl (fun _ _ => rfl) (by first | exact .inr (fun _ _ => rfl) | exact .inl (by kernel_rfl)) ?_
          refine DE.q (fun e c hk => (Ev.build ty35 st35 rfl (fun hg => ⟨_, _, _, rfl, (.t rfl), rfl, rfl, rfl, _, _, _, rfl, (.t rfl), rfl, rfl, rfl, _, _, _, rfl, (.t rfl), rfl, rfl, rfl, rfl⟩))) rfl (fun _ _ => rfl) (by first | exact .inr (fun _ _ => rfl) | exact .inl (by kernel_rfl)) ?_
          refine DE.bs (es := fun _ => [_]) Try.underlying25 ty35 (fun c => ⟨rfl, (.t rfl), rfl, rfl, trivial⟩) (fun _ => rfl) (by decide) rfl rfl (fun _ _ => rfl) (by first | exact .inr (fun _ _ => rfl) | exact .inl (by kernel_rfl)) ?_
          refine DE.eff1 (av := fun v => .lit v) rfl rfl (fun e c hk L_ hs Q h => ?_) ?_
          · have hk_12 := hk.not
            simp only [addE, hk_12, Nat.reduceAdd, Nat.reduceEqDiff, ↓reduceIte, cond_true, cond_false] at h ⊢
            first | (refine W.app 0 (.t (hs _ _ rfl)) rfl (.sl (.t (hs _ _ rfl)) (by first | (simp [AV.okc, shV]; done) | (intro e he; rw [List.mem_singleton.1 he]; rfl))) Try.underlying25 ni25 ty35 rfl rfl (by simp only [List.length_map, List.length_cons, List.length_nil]; omega) rfl ?_; exact h) | (refine W.app 1 (.t (hs _ _ rfl)) rfl (.sl (.t (hs _ _ rfl)) (by first | (simp [AV.okc, shV]; done) | (intro e he; rw [List.mem_singleton.1 he]; rfl))) Try.underlying25 ni25 ty35 rfl rfl (by simp only [List.length_map, List.length_cons, List.length_nil]; omega) rfl ?_; exact h) | (refine W.app 2 (.t (hs _ _ rfl)) rfl (.sl (.t (hs _ _ rfl)) (by first | (simp [AV.okc, shV]; done) | (intro e he; rw [List.mem_singleton.1 he]; rfl))) Try.underlying25 ni25 ty35 rfl rfl (by simp only [List.length_map, List.length_cons, List.length_nil]; omega) rfl ?_; exact h) | (refine W.app 3 (.t (hs _ _ rfl)) rfl (.sl (.t (hs _ _ rfl)) (by first | (simp [AV.okc, shV]; done) | (intro e he; rw [List.mem_singleton.1 he]; rfl))) Try.underlying25 ni25 ty35 rfl rfl (by simp only [List.length_map, List.length_cons, List.length_nil]; omega) rfl ?_; exact h) | (refine W.app 0 (.t (hs _ _ rfl)) rfl (.arr 0 (.t (hs _ _ rfl)) rfl (by first | (simp [AV.okc, shV]; done) | (intro e he; rw [List.mem_singleton.1 he]; rfl))) Try.underlying25 ni25 ty35 rfl rfl (by simp only [List.length_map, List.length_cons, List.length_nil]; omega) rfl ?_; exact h) | (refine W.app 1 (.t (hs _ _ rfl)) rfl (.arr 0 (.t (hs _ _ rfl)) rfl (by first | (simp [AV.okc, shV]; done) | (intro e he; rw [List.mem_singleton.1 he]; rfl))) Try.underlying25 ni25 ty35 rfl rfl (by simp only [List.length_map, List.length_cons, List.length_nil]; omega) rfl ?_; exact h) | (refine W.app 2 (.t (hs _ _ rfl)) rfl (.arr 0 (.t (hs _ _ rfl)) rfl (by first | (simp [AV.okc, shV]; done) | (intro e he; rw [List.mem_singleton.1 he]; rfl))) Try.underlying25 ni25 ty35 rfl rfl (by simp only [List.length_map, List.length_cons, List.length_nil]; omega) rfl ?_; exact h) | (refine W.app 3 (.t (hs _ _ rfl)) rfl (.arr 0 (.t (hs _ _ rfl)) rfl (by first | (simp [AV.okc, shV]; done) | (intro e he; rw [List.mem_singleton.1 he]; rfl))) Try.underlying25 ni25 ty35 rfl rfl (by simp only [List.length_map, List.length_cons, List.length_nil]; omega) rfl ?_; exact h) | (refine W.app 0 (.t (hs _ _ rfl)) rfl (.arr 1 (.t (hs _ _ rfl)) rfl (by first | (simp [AV.okc, shV]; done) | (intro e he; rw [List.mem_singleton.1 he]; rfl))) Try.underlying25 ni25 ty35 rfl rfl (by simp only [List.length_map, List.length_cons, List.length_nil]; omega) rfl ?_; exact h) | (refine W.app 1 (.t (hs _ _ rfl)) rfl (.arr 1 (.t (hs _ _ rfl)) rfl (by first | (simp [AV.okc, shV]; done) | (intro e he; rw [List.mem_singleton.1 he]; rfl))) Try.underlying25 ni25 ty35 rfl rfl (by simp only [List.length_map, List.length_cons, List.length_nil]; omega) rfl ?_; exact h) | (refine W.app 2 (.t (hs _ _ rfl)) rfl (.arr 1 (.t (hs _ _ rfl)) rfl (by first | (simp [AV.okc, shV]; done) | (intro e he; rw [List.mem_singleton.1 he]; rfl))) Try.underlying25 ni25 ty35 rfl rfl (by simp only [List.length_map, List.length_cons, List.length_nil]; omega) rfl ?_; exact h) | (refine W.app 3 (.t (hs _ _ rfl)) rfl (.arr 1 (.t (hs _ _ rfl)) rfl (by first | (simp [AV.okc, shV]; done) | (intro e he; rw [List.mem_singleton.1 he]; rfl))) Try.underlying25 ni25 ty35 rfl rfl (by simp only [List.length_map, List.length_cons, List.length_nil]; omega) rfl ?_; exact h) | (refine W.app 0 (.t (hs _ _ rfl)) rfl (.arr 2 (.t (hs _ _ rfl)) rfl (by first | (simp [AV.okc, shV]; done) | (intro e he; rw [List.mem_singleton.1 he]; rfl))) Try.underlying25 ni25 ty35 rfl rfl (by simp only [List.length_map, List.length_cons, List.length_nil]; omega) rfl ?_; exact h) | (refine W.app 1 (.t (hs _ _ rfl)) rfl (.arr 2 (.t (hs _ _ rfl)) rfl (by first | (simp [AV.okc, shV]; done) | (intro e he; rw [List.mem_singleton.1 he]; rfl))) Try.underlying25 ni25 ty35 rfl rfl (by simp only [List.length_map, List.length_cons, List.length_nil]; omega) rfl ?_; exact h) | (refine W.app 2 (.t (hs _ _ rfl)) rfl (.arr 2 (.t (hs _ _ rfl)) rfl (by first | (simp [AV.okc, shV]; done) | (intro e he; rw [List.mem_singleton.1 he]; rfl))) Try.underlying25 ni25 ty35 rfl rfl (by simp only [List.length_map, List.length_cons, List.length_nil]; omega) rfl ?_; exact h) | (refine W.app 3 (.t (hs _ _ rfl)) rfl (.arr 2 (.t (hs _ _ rfl)) rfl (by first | (simp [AV.okc, shV]; done) | (intro e he; rw [List.mem_singleton.1 he]; rfl))) Try.underlying25 ni25 ty35 rfl rfl (by simp only [List.length_map, List.length_cons, List.length_nil]; omega) rfl ?_; exact h) | (refine W.app 0 (.t (hs _ _ rfl)) rfl (.arr 3 (.t (hs _ _ rfl)) rfl (by first | (simp [AV.okc, shV]; done) | (intro e he; rw [List.mem_singleton.1 he]; rfl))) Try.underlying25 ni25 ty35 rfl rfl (by simp only [List.length_map, List.length_cons, List.length_nil]; omega) rfl ?_; exact h) | (refine W.app 1 (.t (hs _ _ rfl)) rfl (.arr 3 (.t (hs _ _ rfl)) rfl (by first | (simp [AV.okc, shV]; done) | (intro e he; rw [List.mem_singleton.1 he]; rfl))) Try.underlying25 ni25 ty35 rfl rfl (by simp only [List.length_map, List.length_cons, List.length_nil]; omega) rfl ?_; exact h) | (refine W.app 2 (.t (hs _ _ rfl)) rfl (.arr 3 (.t (hs _ _ rfl)) rfl (by first | (simp [AV.okc, shV]; done) | (intro e he; rw [List.mem_singleton.1 he]; rfl))) Try.underlying25 ni25 ty35 rfl rfl (by simp only [List.length_map, List.length_cons, List.length_nil]; omega) rfl ?_; exact h) | (refine W.app 3 (.t (hs _ _ rfl)) rfl (.arr 3 (.t (hs _ _ rfl)) rfl (by first | (simp [AV.okc, shV]; done) | (intro e he; rw [List.mem_singleton.1 he]; rfl))) Try.underlying25 ni25 ty35 rfl rfl (by simp only [List.length_map, List.length_cons, List.length_nil]; omega) rfl ?_; exact h)
          refine DE.q (fun e c hk => (Ev.assign (.t rfl))) rfl (fun _ _ => rfl) (by first | exact .inr (fun _ _ => rfl) | exact .inl (by kernel_rfl)) ?_
          refine DE.nil (fun v54 e_ he_ => ?_)
          simp only [he_ 12 (by decide), cond_true, cond_false]
          refine W.blk_normal ?_
          refine W.blk_normal ?_
          refine W.then ?_
          refine W.region ?_
          first | refine W.q (Ev.add (.t rfl) .k (fun _ => by omega)) rfl ?_ | refine W.q (Ev.addw (.t rfl) .k) rfl ?_
          refine W.q (Ev.move (.t rfl)) rfl ?_
          refine W.nil ?_
          refine W.then ?_
          first
          | (refine W.reach (D := _) (i + 1, v27) ⟨rfl, rfl, rfl, rfl, rfl, trivial⟩ (by rw [hsn] <;> exact .refl _) ⟨by show i + 1 ≤ _; omega, by show _ - (i + 1) < _; omega⟩)
          | (refine W.reach (D := _) (i + 1, v) ⟨rfl, rfl, rfl, rfl, rfl, trivial⟩ (by rw [hsn] <;> exact List.perm_append_comm (l₁ := [_])) ⟨by show i + 1 ≤ _; omega, by show _ - (i + 1) < _; omega⟩)
          | (refine W.reach (D := _) (i + 1, v62) ⟨rfl, rfl, rfl, rfl, rfl, trivial⟩ (by rw [hsn] <;> exact .refl _) ⟨by show i + 1 ≤ _; omega, by show _ - (i + 1) < _; omega⟩)
          | (refine W.reach (D := _) (i + 1, v) ⟨rfl, rfl, rfl, rfl, rfl, trivial⟩ (by rw [hsn] <;> exact List.perm_append_comm (l₁ := [_, _])) ⟨by show i + 1 ≤ _; omega, by show _ - (i + 1) < _; omega⟩)
          | (refine W.reach (D := _) (i + 1, v54) ⟨rfl, rfl, rfl, rfl, rfl, trivial⟩ (by rw [hsn, Nd.map_snoc] <;> exact List.perm_append_comm (l₁ := [_, _])) ⟨by show i + 1 ≤ _; omega, by show _ - (i + 1) < _; omega⟩)
        · have h40 := beq_eq_false_iff_ne.1 hc_t40
          rw [if_neg h40] at hsn
          refine W.seq ?_
          refine W.region ?_
          refine W.q (Ev.eqi (.t rfl) .k) rfl ?_
          refine W.q (Ev.assign (.t rfl)) rfl ?_
          refine W.nil ?_
          refine W.then ?_
          refine W.cond (.t rfl) (fun hc_t55 => ?_) (fun hc_t55 => ?_)
          · have h55 := beq_iff_eq.1 hc_t55
            rw [if_pos h55] at hsn
            refine W.region ?_
            refine W.q (Ev.move (.t rfl)) rfl ?_
            refine W.q (Ev.move (.t rfl)) rfl ?_
            first | refine W.q (Ev.fae (.t rfl) fa35_3 rfl) rfl ?_ | refine W.q (Ev.fab (.t rfl) fa35_3) rfl ?_ | refine W.q (Ev.faa (.t rfl) fa35_3) rfl ?_
            first | refine W.q (Ev.lde1 (.t rfl) ag25) rfl ?_ | refine W.q (Ev.ldb1 0 (.t rfl) rfl ag25 rfl) rfl ?_ | refine W.q (Ev.ldb1 1 (.t rfl) rfl ag25 rfl) rfl ?_ | refine W.q (Ev.ldb1 2 (.t rfl) rfl ag25 rfl) rfl ?_ | refine W.q (Ev.ldb1 3 (.t rfl) rfl ag25 rfl) rfl ?_
            refine W.callp (ih d.parts (by omega) (by omega)) ⟨(.t rfl), (.t rfl), trivial⟩ rfl ?_
            refine W.call (WJoined.c_Joined (Rl.run rs [] (l.take i)) (Rl.run rs [] d.parts) v (by omega) (by omega)) ⟨(.t rfl), (.t rfl), trivial⟩ (List.perm_append_comm (l₁ := [_, _])) rfl ?_
            rintro _ _ ⟨v62, rfl, rfl⟩
            refine W.q (Ev.assign (.t rfl)) rfl ?_
            refine W.nil ?_
            refine W.blk_normal ?_
            refine W.blk_normal ?_
            refine W.then ?_
            refine W.region ?_
            first | refine W.q (Ev.add (.t rfl) .k (fun _ => by omega)) rfl ?_ | refine W.q (Ev.addw (.t rfl) .k) rfl ?_
            refine W.q (Ev.move (.t rfl)) rfl ?_
            refine W.nil ?_
            refine W.then ?_
            first
            | (refine W.reach (D := _) (i + 1, v27) ⟨rfl, rfl, rfl, rfl, rfl, trivial⟩ (by rw [hsn] <;> exact .refl _) ⟨by show i + 1 ≤ _; omega, by show _ - (i + 1) < _; omega⟩)
            | (refine W.reach (D := _) (i + 1, v) ⟨rfl, rfl, rfl, rfl, rfl, trivial⟩ (by rw [hsn] <;> exact List.perm_append_comm (l₁ := [_])) ⟨by show i + 1 ≤ _; omega, by show _ - (i + 1) < _; omega⟩)
            | (refine W.reach (D := _) (i + 1, v62) ⟨rfl, rfl, rfl, rfl, rfl, trivial⟩ (by rw [hsn] <;> exact .refl _) ⟨by show i + 1 ≤ _; omega, by show _ - (i + 1) < _; omega⟩)
            | (refine W.reach (D := _) (i + 1, v) ⟨rfl, rfl, rfl, rfl, rfl, trivial⟩ (by rw [hsn] <;> exact List.perm_append_comm (l₁ := [_, _])) ⟨by show i + 1 ≤ _; omega, by show _ - (i + 1) < _; omega⟩)
            | (refine W.reach (D := _) (i + 1, v54) ⟨rfl, rfl, rfl, rfl, rfl, trivial⟩ (by rw [hsn, Nd.map_snoc] <;> exact List.perm_append_comm (l₁ := [_, _])) ⟨by show i + 1 ≤ _; omega, by show _ - (i + 1) < _; omega⟩)
          · have h55 := beq_eq_false_iff_ne.1 hc_t55
            rw [if_neg h55] at hsn
            refine W.skip ?_
            refine W.blk_normal ?_
            refine W.blk_normal ?_
            refine W.then ?_
            refine W.region ?_
            first | refine W.q (Ev.add (.t rfl) .k (fun _ => by omega)) rfl ?_ | refine W.q (Ev.addw (.t rfl) .k) rfl ?_
            refine W.q (Ev.move (.t rfl)) rfl ?_
            refine W.nil ?_
            refine W.then ?_
            first
            | (refine W.reach (D := _) (i + 1, v27) ⟨rfl, rfl, rfl, rfl, rfl, trivial⟩ (by rw [hsn] <;> exact .refl _) ⟨by show i + 1 ≤ _; omega, by show _ - (i + 1) < _; omega⟩)
            | (refine W.reach (D := _) (i + 1, v) ⟨rfl, rfl, rfl, rfl, rfl, trivial⟩ (by rw [hsn] <;> exact List.perm_append_comm (l₁ := [_])) ⟨by show i + 1 ≤ _; omega, by show _ - (i + 1) < _; omega⟩)
            | (refine W.reach (D := _) (i + 1, v62) ⟨rfl, rfl, rfl, rfl, rfl, trivial⟩ (by rw [hsn] <;> exact .refl _) ⟨by show i + 1 ≤ _; omega, by show _ - (i + 1) < _; omega⟩)
            | (refine W.reach (D := _) (i + 1, v) ⟨rfl, rfl, rfl, rfl, rfl, trivial⟩ (by rw [hsn] <;> exact List.perm_append_comm (l₁ := [_, _])) ⟨by show i + 1 ≤ _; omega, by show _ - (i + 1) < _; omega⟩)
            | (refine W.reach (D := _) (i + 1, v54) ⟨rfl, rfl, rfl, rfl, rfl, trivial⟩ (by rw [hsn, Nd.map_snoc] <;> exact List.perm_append_comm (l₁ := [_, _])) ⟨by show i + 1 ≤ _; omega, by show _ - (i + 1) < _; omega⟩)
  · have he : l.take i = l := List.take_of_length_le (by omega)
    rw [he]
    refine W.seq ?_
    refine W.region ?_
    refine W.q (Ev.lti (.t rfl) (.t rfl)) rfl ?_
    refine W.nil ?_
    refine W.then ?_
    refine W.seq ?_
    refine W.is (t := 13) (g := true) (av' := .lit (.bool false)) rfl (congrArg (fun b => AV.lit (.bool b)) (by exact decide_eq_false (by omega))) ?_
    refine W.condF (.t rfl) ?_
    refine W.exit ?_
    refine W.then_exit ?_
    refine W.then_exit ?_
    refine W.blk_hit ?_
    refine W.then ?_
    refine W.seq ?_
    refine W.region ?_
    refine W.q (Ev.move (.t rfl)) rfl ?_
    refine W.q (Ev.assign (.t rfl)) rfl ?_
    refine W.nil ?_
    refine W.then ?_
    refine W.ret ?_
    refine W.freezeA (M1 := []) (M2 := []) (D := []) (v := v) (L' := [(4, true, .sl 4 ((Rl.run rs [] l).map Nd.av))]) (.refl _) ⟨⟨_, rfl, .one .hit⟩, trivial⟩ (FrzMs.refl _) ?_
    refine W.retn (M' := []) (rs := [.tmp 4]) (avs := [_]) Try.results54 ⟨rfl, trivial⟩ rfl (.refl _) ?_
    exact ⟨rfl, rfl⟩

theorem c_Of (rs : List Rl) (hrs : rs.length ≤ 1000) (l : List Nd) (hl : Nd.szs l ≤ 16777216) (ht : Nd.tszs l ≤ 1073741824) : FnP Try.prog 54 [.sl 3 (rs.map rav), .sl 4 (l.map Nd.av)] (.sl 4 ((Rl.run rs [] l).map Nd.av)) := by
  suffices H : ∀ n, n ≤ 16777216 → ∀ l, Nd.szs l = n → Nd.tszs l ≤ 1073741824 → FnP Try.prog 54 [.sl 3 (rs.map rav), .sl 4 (l.map Nd.av)] (.sl 4 ((Rl.run rs [] l).map Nd.av)) from H _ hl l rfl ht
  intro n
  induction n using Nat.strongRecOn with
  | _ n ih => exact fun hn l hl ht => c_Of_step rs hrs n hn (fun l' h' ht' => ih _ h' (by omega) l' rfl ht') l hl ht

end WOf

end Go.Proofs.Yteepllfbnoaiaaa
