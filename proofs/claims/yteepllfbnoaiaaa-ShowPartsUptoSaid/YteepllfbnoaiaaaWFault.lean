/-
  Trees that may be.
-/
import Derived.Test.YteepllfbnoaiaaaWVoid
import Derived.Test.YteepllfbnoaiaaaWEAttrs
import Derived.Test.YteepllfbnoaiaaaWCount
set_option linter.unusedVariables false
set_option linter.unusedSimpArgs false
set_option maxRecDepth 100000
namespace Go.Proofs.Yteepllfbnoaiaaa
open Go.Vl

namespace WFault
theorem ty9 : Ty Try.prog 9 1 16 (.string ⟨#[]⟩) := Ty.of (by kernel_rfl)
theorem ty25 : Ty Try.prog 25 1 24 (.slice none 0 0) := Ty.of (by kernel_rfl)
theorem ty33 : Ty Try.prog 33 1 24 (.slice none 0 0) := Ty.of (by kernel_rfl)
theorem ty35 : Ty Try.prog 35 4 80 (.agg #[.string ⟨#[]⟩, .slice none 0 0, .string ⟨#[]⟩, .slice none 0 0]) := Ty.of (by kernel_rfl)
theorem ag9 : IsAgg Try.prog 9 false := ⟨_, Try.underlying9, rfl⟩
theorem ag25 : IsAgg Try.prog 25 false := ⟨_, Try.underlying25, rfl⟩
theorem ag33 : IsAgg Try.prog 33 false := ⟨_, Try.underlying33, rfl⟩
theorem ag35 : IsAgg Try.prog 35 true := ⟨_, Try.underlying35, rfl⟩
theorem fa35_0 : FieldAt Try.prog 35 0 0 1 false := ⟨_, _, Try.underlying35, rfl, rfl, ty9.size, ag9, by decide⟩
theorem fa35_1 : FieldAt Try.prog 35 1 1 1 false := ⟨_, _, Try.underlying35, rfl, rfl, ty33.size, ag33, by decide⟩
theorem fa35_2 : FieldAt Try.prog 35 2 2 1 false := ⟨_, _, Try.underlying35, rfl, rfl, ty9.size, ag9, by decide⟩
theorem fa35_3 : FieldAt Try.prog 35 3 3 1 false := ⟨_, _, Try.underlying35, rfl, rfl, ty25.size, ag25, by decide⟩
theorem c_fault_step (n : Nat) (hn : n ≤ 16777216) (ih : ∀ l, Nd.szs l < n → ∀ (k : Nat) (dp : Int), dp + (k : Int) ≤ 10 → 0 ≤ dp → Nd.sks k false l → FnP Try.prog 50 [.sl 4 (l.map Nd.av), .int dp] (.int 0)) (l : List Nd) (hl : Nd.szs l = n) (k : Nat) (dp : Int) (hk : dp + (k : Int) ≤ 10) (h0 : 0 ≤ dp) (hs : Nd.sks k false l) : FnP Try.prog 50 [.sl 4 (l.map Nd.av), .int dp] (.int 0) :=  by
  refine FnC.mk Try.func50 (by kernel_rfl) rfl Try.ntmps50 rfl (fun w0 F => ?_)
  have hll : (l.map Nd.av).length = l.length := List.length_map ..
  have hsl := Nd.szs_len l
  refine W.seq ?_
  refine W.region ?_
  refine W.q (Ev.assign .k) rfl ?_
  refine W.nil ?_
  refine W.then ?_
  refine W.seq ?_
  refine W.seq ?_
  refine W.region ?_
  refine W.q (Ev.move (.t rfl)) rfl ?_
  first | refine W.q (Ev.lensl (.t rfl) Try.underlying25) rfl ?_ | refine W.q (Ev.lenar (i := 0) (.t rfl) rfl Try.underlying25) rfl ?_ | refine W.q (Ev.lenar (i := 1) (.t rfl) rfl Try.underlying25) rfl ?_ | refine W.q (Ev.lenar (i := 2) (.t rfl) rfl Try.underlying25) rfl ?_ | refine W.q (Ev.lenar (i := 3) (.t rfl) rfl Try.underlying25) rfl ?_
  refine W.q (Ev.move .k) rfl ?_
  refine W.nil ?_
  refine W.then ?_
  refine W.block ?_
  refine W.loop (D := []) (ι := Nat) (fun i => [(11, true, .int (i : Int)), (10, true, .int ((l.map Nd.av).length : Int)), (9, true, .sl 4 (l.map Nd.av)), (0, true, .sl 4 (l.map Nd.av)), (1, true, .int dp)]) (fun _ => []) (fun i => i ≤ l.length) (fun i => l.length - i) 0 ⟨rfl, rfl, rfl, rfl, rfl, trivial⟩ (.refl _) (Nat.zero_le _) ?_
  intro i hi
  dsimp only at hi ⊢
  rcases (show i < l.length ∨ i = l.length from by omega) with hlt | hend
  · obtain ⟨hs1, hs2⟩ := Nd.sks_at hs i hlt
    have hge0 : 0 < i → (l.map Nd.av)[i - 1]? = some (Nd.avx (l.getD (i - 1) Nd.dflt)) := fun h => Nd.at_av l (i - 1) (by omega)
    generalize l.getD (i - 1) Nd.dflt = e at hge0 hs2
    have hge : 0 < i → 0 ≤ (i : Int) - 1 ∧ (l.map Nd.av)[((i : Int) - 1).toNat]? = some (Nd.avx e) := fun h => ⟨by omega, by rw [show ((i : Int) - 1).toNat = i - 1 from by omega]; exact hge0 h⟩
    have hga := Nd.at_av l i hlt
    have hsz := Nd.at_sz l i hlt
    generalize hd : l.getD i Nd.dflt = d at hga hsz
    have hse := Nd.sz_eq d
    have hsp := Nd.szs_len d.parts
    have hat : (d.attrs.map dav).length = d.attrs.length := List.length_map ..
    rw [hd] at hs1 hs2
    rw [Nd.sk_eq] at hs1
    obtain ⟨hk1, hdd⟩ := hs1
    have hd1 : d.name = [] → d.attrs = [] ∧ d.parts = [] ∧ d.text ≠ [] := fun h => by rcases hdd with ⟨_, b2, b3, b4, _⟩ | ⟨b1, _⟩; exact ⟨b2, b3, b4⟩; exact absurd h b1
    have hd2 : d.name ≠ [] → nameOk d.name = true ∧ d.name.length ≤ 1000 ∧ okAt d.attrs ∧ (∀ x ∈ d.attrs, x.2.length ≤ 1000) ∧ d.text = [] ∧ (Nd.voidB d.name = true → d.parts = []) ∧ Nd.shutB d.name = false ∧ Nd.sks (k - 1) false d.parts := fun h => by rcases hdd with ⟨b1, _⟩ | ⟨_, b⟩; exact absurd b1 h; exact b
    refine W.seq ?_
    refine W.region ?_
    refine W.q (Ev.lti (.t rfl) (.t rfl)) rfl ?_
    refine W.nil ?_
    refine W.then ?_
    refine W.seq ?_
    refine W.is (t := 12) (g := true) (av' := .lit (.bool true)) rfl (congrArg (fun b => AV.lit (.bool b)) (by exact decide_eq_true (by omega))) ?_
    refine W.condT (.t rfl) ?_
    refine W.skip ?_
    refine W.then ?_
    refine W.seq ?_
    refine W.block ?_
    refine W.seq ?_
    refine W.region ?_
    refine W.q (Ev.move (.t rfl)) rfl ?_
    refine W.q (Ev.at (E := 35) (.t rfl) (.t rfl) Try.underlying25 ty35 (fun _ => ⟨by omega, hga⟩) rfl rfl) rfl ?_
    first | refine W.q (Ev.lden (.t rfl) ag35 ty35 rfl rfl) rfl ?_ | refine W.q (Ev.ldbn 0 (.t rfl) rfl ag35 ty35 rfl) rfl ?_ | refine W.q (Ev.ldbn 1 (.t rfl) rfl ag35 ty35 rfl) rfl ?_ | refine W.q (Ev.ldbn 2 (.t rfl) rfl ag35 ty35 rfl) rfl ?_ | refine W.q (Ev.ldbn 3 (.t rfl) rfl ag35 ty35 rfl) rfl ?_
    refine W.alloc ty35 rfl rfl ?_
    intro b6
    refine W.q (Ev.assign (.t rfl)) rfl ?_
    first | refine W.stb 0 (.t rfl) (.t rfl) rfl ty35 rfl rfl rfl ?_ | refine W.stb 1 (.t rfl) (.t rfl) rfl ty35 rfl rfl rfl ?_ | refine W.stb 2 (.t rfl) (.t rfl) rfl ty35 rfl rfl rfl ?_ | refine W.stb 3 (.t rfl) (.t rfl) rfl ty35 rfl rfl rfl ?_
    refine W.nil ?_
    refine W.then ?_
    refine W.seq ?_
    refine W.seq ?_
    refine W.region ?_
    refine W.q (Ev.move (.t rfl)) rfl ?_
    refine W.q (Ev.gei (.t rfl) .k) rfl ?_
    refine W.nil ?_
    refine W.then ?_
    refine W.is (t := 17) (g := true) (av' := .lit (.bool false)) rfl (congrArg (fun b => AV.lit (.bool b)) (by exact decide_eq_false (by omega))) ?_
    refine W.condF (.t rfl) ?_
    refine W.skip ?_
    refine W.then ?_
    refine W.seq ?_
    refine W.seq ?_
    refine W.region ?_
    first | refine W.q (Ev.fae (.t rfl) fa35_0 rfl) rfl ?_ | refine W.q (Ev.fab (.t rfl) fa35_0) rfl ?_ | refine W.q (Ev.faa (.t rfl) fa35_0) rfl ?_
    first | refine W.q (Ev.lde1 (.t rfl) ag9) rfl ?_ | refine W.q (Ev.ldb1 0 (.t rfl) rfl ag9 rfl) rfl ?_ | refine W.q (Ev.ldb1 1 (.t rfl) rfl ag9 rfl) rfl ?_ | refine W.q (Ev.ldb1 2 (.t rfl) rfl ag9 rfl) rfl ?_ | refine W.q (Ev.ldb1 3 (.t rfl) rfl ag9 rfl) rfl ?_
    refine W.q (Ev.eqs (.t rfl) .k) rfl ?_
    refine W.nil ?_
    refine W.then ?_
    refine W.cond (.t rfl) (fun hc_t20 => ?_) (fun hc_t20 => ?_)
    · have hnm : d.name = [] := beq_iff_eq.1 hc_t20
      obtain ⟨r2, r3, r4⟩ := hd1 hnm
      have r5 := hs2 hnm
      refine W.seq ?_
      refine W.seq ?_
      refine W.region ?_
      first | refine W.q (Ev.fae (.t rfl) fa35_1 rfl) rfl ?_ | refine W.q (Ev.fab (.t rfl) fa35_1) rfl ?_ | refine W.q (Ev.faa (.t rfl) fa35_1) rfl ?_
      first | refine W.q (Ev.lde1 (.t rfl) ag33) rfl ?_ | refine W.q (Ev.ldb1 0 (.t rfl) rfl ag33 rfl) rfl ?_ | refine W.q (Ev.ldb1 1 (.t rfl) rfl ag33 rfl) rfl ?_ | refine W.q (Ev.ldb1 2 (.t rfl) rfl ag33 rfl) rfl ?_ | refine W.q (Ev.ldb1 3 (.t rfl) rfl ag33 rfl) rfl ?_
      first | refine W.q (Ev.lensl (.t rfl) Try.underlying33) rfl ?_ | refine W.q (Ev.lenar (i := 0) (.t rfl) rfl Try.underlying33) rfl ?_ | refine W.q (Ev.lenar (i := 1) (.t rfl) rfl Try.underlying33) rfl ?_ | refine W.q (Ev.lenar (i := 2) (.t rfl) rfl Try.underlying33) rfl ?_ | refine W.q (Ev.lenar (i := 3) (.t rfl) rfl Try.underlying33) rfl ?_
      refine W.q (Ev.gti (.t rfl) .k) rfl ?_
      refine W.q (Ev.move (.t rfl)) rfl ?_
      first | refine W.qgF rfl rfl (Ev.fae (.t rfl) fa35_3 rfl) rfl ?_ | refine W.qgF rfl rfl (Ev.fab (.t rfl) fa35_3) rfl ?_ | refine W.qgF rfl rfl (Ev.faa (.t rfl) fa35_3) rfl ?_
      first | refine W.qgF rfl rfl (Ev.lde1 (.c rfl) ag25) rfl ?_ | refine W.qgF rfl rfl (Ev.ldb1 0 (.c rfl) rfl ag25 rfl) rfl ?_ | refine W.qgF rfl rfl (Ev.ldb1 1 (.c rfl) rfl ag25 rfl) rfl ?_ | refine W.qgF rfl rfl (Ev.ldb1 2 (.c rfl) rfl ag25 rfl) rfl ?_ | refine W.qgF rfl rfl (Ev.ldb1 3 (.c rfl) rfl ag25 rfl) rfl ?_
      first | refine W.qgF rfl rfl (Ev.lensl (.c rfl) Try.underlying25) rfl ?_ | refine W.qgF rfl rfl (Ev.lenar (i := 0) (.c rfl) rfl Try.underlying25) rfl ?_ | refine W.qgF rfl rfl (Ev.lenar (i := 1) (.c rfl) rfl Try.underlying25) rfl ?_ | refine W.qgF rfl rfl (Ev.lenar (i := 2) (.c rfl) rfl Try.underlying25) rfl ?_ | refine W.qgF rfl rfl (Ev.lenar (i := 3) (.c rfl) rfl Try.underlying25) rfl ?_
      refine W.qgF rfl rfl (Ev.gti (.c rfl) .k) rfl ?_
      refine W.q (Ev.or (.t rfl) ⟨_, _, rfl, rfl, by first | (simp; done) | (intro hg_ hp_; simp [hp_]; done) | (simp <;> omega; done) | (simp_all; done) | grind⟩) rfl ?_
      refine W.q (Ev.move (.t rfl)) rfl ?_
      first | refine W.qgF rfl rfl (Ev.fae (.t rfl) fa35_2 rfl) rfl ?_ | refine W.qgF rfl rfl (Ev.fab (.t rfl) fa35_2) rfl ?_ | refine W.qgF rfl rfl (Ev.faa (.t rfl) fa35_2) rfl ?_
      first | refine W.qgF rfl rfl (Ev.lde1 (.c rfl) ag9) rfl ?_ | refine W.qgF rfl rfl (Ev.ldb1 0 (.c rfl) rfl ag9 rfl) rfl ?_ | refine W.qgF rfl rfl (Ev.ldb1 1 (.c rfl) rfl ag9 rfl) rfl ?_ | refine W.qgF rfl rfl (Ev.ldb1 2 (.c rfl) rfl ag9 rfl) rfl ?_ | refine W.qgF rfl rfl (Ev.ldb1 3 (.c rfl) rfl ag9 rfl) rfl ?_
      refine W.qgF rfl rfl (Ev.eqs (.c rfl) .k) rfl ?_
      refine W.q (Ev.or (.t rfl) ⟨_, _, rfl, rfl, by first | (simp; done) | (intro hg_ hp_; simp [hp_]; done) | (simp <;> omega; done) | (simp_all; done) | grind⟩) rfl ?_
      refine W.q (Ev.move (.t rfl)) rfl ?_
      refine W.qgF rfl rfl (Ev.move (.t rfl)) rfl ?_
      refine W.qgF rfl rfl (Ev.gti (.c rfl) .k) rfl ?_
      refine W.qgF rfl rfl (Ev.move (.c rfl)) rfl ?_
      refine W.qgT' rfl rfl (Ev.move (.t rfl)) rfl ?_
      refine W.qgT' rfl rfl (Ev.move (.t rfl)) rfl ?_
      first | refine W.qgT' rfl rfl (Ev.sub (.c rfl) .k (fun _ => by omega)) rfl ?_ | refine W.qgT' rfl rfl (Ev.subw (.c rfl) .k) rfl ?_
      refine W.qgT' rfl rfl (Ev.at (E := 35) (e := Nd.avx e) (.c rfl) (.c rfl) Try.underlying25 ty35 (fun hg => hge (by simp at hg; omega)) rfl rfl) rfl ?_
      first | refine W.qgT' rfl rfl (Ev.fae (.c rfl) fa35_0 rfl) rfl ?_ | refine W.qgT' rfl rfl (Ev.fab (.c rfl) fa35_0) rfl ?_ | refine W.qgT' rfl rfl (Ev.faa (.c rfl) fa35_0) rfl ?_
      first | refine W.qgT' rfl rfl (Ev.lde1 (.c rfl) ag9) rfl ?_ | refine W.qgT' rfl rfl (Ev.ldb1 0 (.c rfl) rfl ag9 rfl) rfl ?_ | refine W.qgT' rfl rfl (Ev.ldb1 1 (.c rfl) rfl ag9 rfl) rfl ?_ | refine W.qgT' rfl rfl (Ev.ldb1 2 (.c rfl) rfl ag9 rfl) rfl ?_ | refine W.qgT' rfl rfl (Ev.ldb1 3 (.c rfl) rfl ag9 rfl) rfl ?_
      refine W.qgT' rfl rfl (Ev.eqs (.c rfl) .k) rfl ?_
      refine W.qgF rfl rfl (Ev.and (.c rfl) ⟨_, _, rfl, rfl, by first | (simp; done) | (intro hg_ hp_; simp [hp_]; done) | (simp <;> omega; done) | (simp_all; done) | grind⟩) rfl ?_
      refine W.q (Ev.or (.t rfl) ⟨_, _, rfl, rfl, by first | (simp; done) | (intro hg_ hp_; simp [hp_]; done) | (simp <;> omega; done) | (simp_all; done) | grind⟩) rfl ?_
      refine W.nil ?_
      refine W.then ?_
      refine W.is (t := 48) (g := true) (av' := .lit (.bool false)) rfl (congrArg (fun b => AV.lit (.bool b)) (by rw [r2, r3, r5]; simp [r4])) ?_
      refine W.condF (.t rfl) ?_
      refine W.skip ?_
      refine W.then ?_
      refine W.exit ?_
      refine W.then_exit ?_
      refine W.blk_hit ?_
      refine W.then ?_
      refine W.region ?_
      first | refine W.q (Ev.add (.t rfl) .k (fun _ => by omega)) rfl ?_ | refine W.q (Ev.addw (.t rfl) .k) rfl ?_
      refine W.q (Ev.move (.t rfl)) rfl ?_
      refine W.nil ?_
      refine W.then ?_
      refine W.reach (D := [_]) (i + 1) ⟨rfl, rfl, rfl, rfl, rfl, trivial⟩ (.refl _) ⟨by show i + 1 ≤ _; omega, by show _ - (i + 1) < _; omega⟩
    · have hnm : d.name ≠ [] := by simpa using hc_t20
      obtain ⟨s2, s3, s4, s5, s6, s7, s8, s9⟩ := hd2 hnm
      refine W.skip ?_
      refine W.then ?_
      refine W.seq ?_
      refine W.seq ?_
      refine W.region ?_
      first | refine W.q (Ev.fae (.t rfl) fa35_0 rfl) rfl ?_ | refine W.q (Ev.fab (.t rfl) fa35_0) rfl ?_ | refine W.q (Ev.faa (.t rfl) fa35_0) rfl ?_
      first | refine W.q (Ev.lde1 (.t rfl) ag9) rfl ?_ | refine W.q (Ev.ldb1 0 (.t rfl) rfl ag9 rfl) rfl ?_ | refine W.q (Ev.ldb1 1 (.t rfl) rfl ag9 rfl) rfl ?_ | refine W.q (Ev.ldb1 2 (.t rfl) rfl ag9 rfl) rfl ?_ | refine W.q (Ev.ldb1 3 (.t rfl) rfl ag9 rfl) rfl ?_
      refine W.callp (WName.c_Name d.name (by omega)) ⟨(.t rfl), trivial⟩ rfl ?_
      refine W.q (Ev.not (.t rfl)) rfl ?_
      refine W.nil ?_
      refine W.then ?_
      refine W.is (t := 52) (g := true) (av' := .lit (.bool false)) rfl (congrArg (fun b => AV.lit (.bool b)) (by rw [s2]; rfl)) ?_
      refine W.condF (.t rfl) ?_
      refine W.skip ?_
      refine W.then ?_
      refine W.seq ?_
      refine W.seq ?_
      refine W.region ?_
      first | refine W.q (Ev.fae (.t rfl) fa35_1 rfl) rfl ?_ | refine W.q (Ev.fab (.t rfl) fa35_1) rfl ?_ | refine W.q (Ev.faa (.t rfl) fa35_1) rfl ?_
      first | refine W.q (Ev.lde1 (.t rfl) ag33) rfl ?_ | refine W.q (Ev.ldb1 0 (.t rfl) rfl ag33 rfl) rfl ?_ | refine W.q (Ev.ldb1 1 (.t rfl) rfl ag33 rfl) rfl ?_ | refine W.q (Ev.ldb1 2 (.t rfl) rfl ag33 rfl) rfl ?_ | refine W.q (Ev.ldb1 3 (.t rfl) rfl ag33 rfl) rfl ?_
      refine W.callp (WEAttrs.c_Attrs d.attrs s4) ⟨(.t rfl), trivial⟩ rfl ?_
      refine W.q (Ev.assign (.t rfl)) rfl ?_
      refine W.nil ?_
      refine W.then ?_
      refine W.seq ?_
      refine W.region ?_
      refine W.q (Ev.move (.t rfl)) rfl ?_
      refine W.q (Ev.nei (.t rfl) .k) rfl ?_
      refine W.nil ?_
      refine W.then ?_
      refine W.is (t := 57) (g := true) (av' := .lit (.bool false)) rfl (congrArg (fun b => AV.lit (.bool b)) (by rfl)) ?_
      refine W.condF (.t rfl) ?_
      refine W.skip ?_
      refine W.then ?_
      refine W.seq ?_
      refine W.seq ?_
      refine W.region ?_
      first | refine W.q (Ev.fae (.t rfl) fa35_2 rfl) rfl ?_ | refine W.q (Ev.fab (.t rfl) fa35_2) rfl ?_ | refine W.q (Ev.faa (.t rfl) fa35_2) rfl ?_
      first | refine W.q (Ev.lde1 (.t rfl) ag9) rfl ?_ | refine W.q (Ev.ldb1 0 (.t rfl) rfl ag9 rfl) rfl ?_ | refine W.q (Ev.ldb1 1 (.t rfl) rfl ag9 rfl) rfl ?_ | refine W.q (Ev.ldb1 2 (.t rfl) rfl ag9 rfl) rfl ?_ | refine W.q (Ev.ldb1 3 (.t rfl) rfl ag9 rfl) rfl ?_
      refine W.q (Ev.nes (.t rfl) .k) rfl ?_
      refine W.q (Ev.move (.t rfl)) rfl ?_
      first | refine W.qgF rfl rfl (Ev.fae (.t rfl) fa35_0 rfl) rfl ?_ | refine W.qgF rfl rfl (Ev.fab (.t rfl) fa35_0) rfl ?_ | refine W.qgF rfl rfl (Ev.faa (.t rfl) fa35_0) rfl ?_
      first | refine W.qgF rfl rfl (Ev.lde1 (.c rfl) ag9) rfl ?_ | refine W.qgF rfl rfl (Ev.ldb1 0 (.c rfl) rfl ag9 rfl) rfl ?_ | refine W.qgF rfl rfl (Ev.ldb1 1 (.c rfl) rfl ag9 rfl) rfl ?_ | refine W.qgF rfl rfl (Ev.ldb1 2 (.c rfl) rfl ag9 rfl) rfl ?_ | refine W.qgF rfl rfl (Ev.ldb1 3 (.c rfl) rfl ag9 rfl) rfl ?_
      refine W.callgF (Min := []) (caps := []) (avs := [_]) rfl rfl (fun hg => WVoid.c_Void d.name) (fun hg => .f) (fun hg => ⟨(.i rfl (fun _ => hg)), trivial⟩) rfl (.refl _) rfl ?_
      refine W.qgF rfl rfl (Ev.move (.c rfl)) rfl ?_
      first | refine W.qgT' rfl rfl (Ev.fae (.t rfl) fa35_3 rfl) rfl ?_ | refine W.qgT' rfl rfl (Ev.fab (.t rfl) fa35_3) rfl ?_ | refine W.qgT' rfl rfl (Ev.faa (.t rfl) fa35_3) rfl ?_
      first | refine W.qgT' rfl rfl (Ev.lde1 (.c rfl) ag25) rfl ?_ | refine W.qgT' rfl rfl (Ev.ldb1 0 (.c rfl) rfl ag25 rfl) rfl ?_ | refine W.qgT' rfl rfl (Ev.ldb1 1 (.c rfl) rfl ag25 rfl) rfl ?_ | refine W.qgT' rfl rfl (Ev.ldb1 2 (.c rfl) rfl ag25 rfl) rfl ?_ | refine W.qgT' rfl rfl (Ev.ldb1 3 (.c rfl) rfl ag25 rfl) rfl ?_
      first | refine W.qgT' rfl rfl (Ev.lensl (.c rfl) Try.underlying25) rfl ?_ | refine W.qgT' rfl rfl (Ev.lenar (i := 0) (.c rfl) rfl Try.underlying25) rfl ?_ | refine W.qgT' rfl rfl (Ev.lenar (i := 1) (.c rfl) rfl Try.underlying25) rfl ?_ | refine W.qgT' rfl rfl (Ev.lenar (i := 2) (.c rfl) rfl Try.underlying25) rfl ?_ | refine W.qgT' rfl rfl (Ev.lenar (i := 3) (.c rfl) rfl Try.underlying25) rfl ?_
      refine W.qgT' rfl rfl (Ev.gti (.c rfl) .k) rfl ?_
      refine W.qgF rfl rfl (Ev.and (.c rfl) ⟨_, _, rfl, rfl, by first | (simp; done) | (intro hg_ hp_; simp [hp_]; done) | (simp <;> omega; done) | (simp_all; done) | grind⟩) rfl ?_
      refine W.q (Ev.or (.t rfl) ⟨_, _, rfl, rfl, by first | (simp; done) | (intro hg_ hp_; simp [hp_]; done) | (simp <;> omega; done) | (simp_all; done) | grind⟩) rfl ?_
      refine W.q (Ev.move (.t rfl)) rfl ?_
      first | refine W.qgF rfl rfl (Ev.fae (.t rfl) fa35_0 rfl) rfl ?_ | refine W.qgF rfl rfl (Ev.fab (.t rfl) fa35_0) rfl ?_ | refine W.qgF rfl rfl (Ev.faa (.t rfl) fa35_0) rfl ?_
      first | refine W.qgF rfl rfl (Ev.lde1 (.c rfl) ag9) rfl ?_ | refine W.qgF rfl rfl (Ev.ldb1 0 (.c rfl) rfl ag9 rfl) rfl ?_ | refine W.qgF rfl rfl (Ev.ldb1 1 (.c rfl) rfl ag9 rfl) rfl ?_ | refine W.qgF rfl rfl (Ev.ldb1 2 (.c rfl) rfl ag9 rfl) rfl ?_ | refine W.qgF rfl rfl (Ev.ldb1 3 (.c rfl) rfl ag9 rfl) rfl ?_
      refine W.callgF (Min := []) (caps := []) (avs := [_]) rfl rfl (fun hg => WVoid.c_shut d.name) (fun hg => .f) (fun hg => ⟨(.i rfl (fun _ => hg)), trivial⟩) rfl (.refl _) rfl ?_
      refine W.q (Ev.or (.t rfl) ⟨_, _, rfl, rfl, by first | (simp; done) | (intro hg_ hp_; simp [hp_]; done) | (simp <;> omega; done) | (simp_all; done) | grind⟩) rfl ?_
      refine W.nil ?_
      refine W.then ?_
      refine W.is (t := 77) (g := true) (av' := .lit (.bool false)) rfl (congrArg (fun b => AV.lit (.bool b)) (by rw [s6, s8]; rcases Bool.eq_false_or_eq_true (Nd.voidB d.name) with h | h; (rw [s7 h]; simp); (simp [h]))) ?_
      refine W.condF (.t rfl) ?_
      refine W.skip ?_
      refine W.then ?_
      refine W.seq ?_
      refine W.region ?_
      first | refine W.q (Ev.fae (.t rfl) fa35_3 rfl) rfl ?_ | refine W.q (Ev.fab (.t rfl) fa35_3) rfl ?_ | refine W.q (Ev.faa (.t rfl) fa35_3) rfl ?_
      first | refine W.q (Ev.lde1 (.t rfl) ag25) rfl ?_ | refine W.q (Ev.ldb1 0 (.t rfl) rfl ag25 rfl) rfl ?_ | refine W.q (Ev.ldb1 1 (.t rfl) rfl ag25 rfl) rfl ?_ | refine W.q (Ev.ldb1 2 (.t rfl) rfl ag25 rfl) rfl ?_ | refine W.q (Ev.ldb1 3 (.t rfl) rfl ag25 rfl) rfl ?_
      refine W.q (Ev.move (.t rfl)) rfl ?_
      first | refine W.q (Ev.add (.t rfl) .k (fun _ => by omega)) rfl ?_ | refine W.q (Ev.addw (.t rfl) .k) rfl ?_
      refine W.callp (ih d.parts (by omega) (k - 1) (dp + 1) (by omega) (by omega) s9) ⟨(.t rfl), (.t rfl), trivial⟩ rfl ?_
      refine W.q (Ev.assign (.t rfl)) rfl ?_
      refine W.nil ?_
      refine W.then ?_
      refine W.seq ?_
      refine W.region ?_
      refine W.q (Ev.move (.t rfl)) rfl ?_
      refine W.q (Ev.nei (.t rfl) .k) rfl ?_
      refine W.nil ?_
      refine W.then ?_
      refine W.is (t := 84) (g := true) (av' := .lit (.bool false)) rfl (congrArg (fun b => AV.lit (.bool b)) (by rfl)) ?_
      refine W.condF (.t rfl) ?_
      refine W.skip ?_
      refine W.blk_normal ?_
      refine W.then ?_
      refine W.region ?_
      first | refine W.q (Ev.add (.t rfl) .k (fun _ => by omega)) rfl ?_ | refine W.q (Ev.addw (.t rfl) .k) rfl ?_
      refine W.q (Ev.move (.t rfl)) rfl ?_
      refine W.nil ?_
      refine W.then ?_
      refine W.reach (D := [_]) (i + 1) ⟨rfl, rfl, rfl, rfl, rfl, trivial⟩ (.refl _) ⟨by show i + 1 ≤ _; omega, by show _ - (i + 1) < _; omega⟩
  · skip
    refine W.seq ?_
    refine W.region ?_
    refine W.q (Ev.lti (.t rfl) (.t rfl)) rfl ?_
    refine W.nil ?_
    refine W.then ?_
    refine W.seq ?_
    refine W.is (t := 12) (g := true) (av' := .lit (.bool false)) rfl (congrArg (fun b => AV.lit (.bool b)) (by exact decide_eq_false (by omega))) ?_
    refine W.condF (.t rfl) ?_
    refine W.exit ?_
    refine W.then_exit ?_
    refine W.then_exit ?_
    refine W.blk_hit ?_
    refine W.then ?_
    refine W.seq ?_
    refine W.region ?_
    refine W.q (Ev.assign .k) rfl ?_
    refine W.nil ?_
    refine W.then ?_
    refine W.ret ?_
    refine W.retn (M' := []) (rs := [.tmp 4]) (avs := [_]) Try.results50 ⟨rfl, trivial⟩ rfl (.refl _) ?_
    exact ⟨rfl, rfl⟩

theorem c_fault (l : List Nd) (hl : Nd.szs l ≤ 16777216) (k : Nat) (dp : Int) (hk : dp + (k : Int) ≤ 10) (h0 : 0 ≤ dp) (hs : Nd.sks k false l) : FnP Try.prog 50 [.sl 4 (l.map Nd.av), .int dp] (.int 0) := by
  suffices H : ∀ n, n ≤ 16777216 → ∀ l, Nd.szs l = n → ∀ (k : Nat) (dp : Int), dp + (k : Int) ≤ 10 → 0 ≤ dp → Nd.sks k false l → FnP Try.prog 50 [.sl 4 (l.map Nd.av), .int dp] (.int 0) from H _ hl l rfl k dp hk h0 hs
  intro n
  induction n using Nat.strongRecOn with
  | _ n ih => exact fun hn l hl k dp hk h0 hs => c_fault_step n hn (fun l' h' k dp => ih _ h' (by omega) l' rfl k dp) l hl k dp hk h0 hs

theorem c_Check (l : List Nd) (hl : Nd.szs l ≤ 16777216) (k : Nat) (hk : k ≤ 10) (hs : Nd.sks k false l) (hc : Nd.cnts l ≤ 150) : FnP Try.prog 37 [.sl 4 (l.map Nd.av)] (.int 0) :=  by
  refine FnC.mk Try.func37 (by kernel_rfl) rfl Try.ntmps37 rfl (fun w0 F => ?_)
  refine W.seq ?_
  refine W.region ?_
  refine W.q (Ev.assign .k) rfl ?_
  refine W.nil ?_
  refine W.then ?_
  refine W.seq ?_
  refine W.seq ?_
  refine W.region ?_
  refine W.q (Ev.move (.t rfl)) rfl ?_
  refine W.callp (c_fault l hl k 0 (by omega) (by omega) hs) ⟨(.t rfl), .k, trivial⟩ rfl ?_
  refine W.q (Ev.assign (.t rfl)) rfl ?_
  refine W.nil ?_
  refine W.then ?_
  refine W.seq ?_
  refine W.region ?_
  refine W.q (Ev.move (.t rfl)) rfl ?_
  refine W.q (Ev.nei (.t rfl) .k) rfl ?_
  refine W.nil ?_
  refine W.then ?_
  refine W.is (t := 9) (g := true) (av' := .lit (.bool false)) rfl (congrArg (fun b => AV.lit (.bool b)) (by rfl)) ?_
  refine W.condF (.t rfl) ?_
  refine W.skip ?_
  refine W.then ?_
  refine W.seq ?_
  refine W.seq ?_
  refine W.region ?_
  refine W.q (Ev.move (.t rfl)) rfl ?_
  refine W.call (WCount.c_Count l hl) ⟨(.t rfl), trivial⟩ (.refl _) rfl ?_
  rintro _ _ ⟨rfl, k13, rfl, hk1, hk2⟩
  refine W.q (Ev.move (.t rfl)) rfl ?_
  refine W.q (Ev.extract (.t rfl) rfl) rfl ?_
  refine W.q (Ev.extract (.t rfl) rfl) rfl ?_
  refine W.q (Ev.assign (.t rfl)) rfl ?_
  refine W.q (Ev.assign (.t rfl)) rfl ?_
  refine W.nil ?_
  refine W.then ?_
  refine W.seq ?_
  refine W.region ?_
  refine W.q (Ev.move (.t rfl)) rfl ?_
  refine W.q (Ev.gti (.t rfl) .k) rfl ?_
  refine W.nil ?_
  refine W.then ?_
  refine W.is (t := 17) (g := true) (av' := .lit (.bool false)) rfl (congrArg (fun b => AV.lit (.bool b)) (by exact decide_eq_false (by omega))) ?_
  refine W.condF (.t rfl) ?_
  refine W.skip ?_
  refine W.then ?_
  refine W.seq ?_
  refine W.region ?_
  refine W.q (Ev.assign .k) rfl ?_
  refine W.nil ?_
  refine W.then ?_
  refine W.ret ?_
  refine W.retn (M' := []) (rs := [.tmp 2]) (avs := [_]) Try.results37 ⟨rfl, trivial⟩ rfl (.refl _) ?_
  exact ⟨rfl, rfl⟩

end WFault

end Go.Proofs.Yteepllfbnoaiaaa
