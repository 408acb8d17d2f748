/-
  A node that is put in at a path.
-/
import Derived.Test.YtpjngpegkoohgaaChange
import Derived.Test.YtpjngpegkoohgaaPick
import Derived.Test.YtpjngpegkoohgaaCopy
import Derived.Test.YtpjngpegkoohgaaUndo
import Derived.Test.YtpjngpegkoohgaaBase
import Derived.Test.YtpjngpegkoohgaaWInsBox
import Derived.Test.YtpjngpegkoohgaaWDelete
import Derived.Test.YtpjngpegkoohgaaWCopyAll
import Derived.Test.YtpjngpegkoohgaaWClone
import Derived.Test.YtpjngpegkoohgaaWCopies
set_option linter.unusedVariables false
set_option linter.unusedSimpArgs false
set_option maxRecDepth 100000
namespace Go.Proofs.Ytpjngpegkoohgaa
open Go.Vl

namespace WChIns
theorem ty3 : Ty Try.prog 3 1 8 (.int .i64 0) := Ty.of (by kernel_rfl)
theorem ty9 : Ty Try.prog 9 1 16 (.string ⟨#[]⟩) := Ty.of (by kernel_rfl)
theorem ty22 : Ty Try.prog 22 1 24 (.slice none 0 0) := Ty.of (by kernel_rfl)
theorem ty24 : Ty Try.prog 24 1 24 (.slice none 0 0) := Ty.of (by kernel_rfl)
theorem ty42 : Ty Try.prog 42 4 80 (.agg #[.string ⟨#[]⟩, .slice none 0 0, .string ⟨#[]⟩, .slice none 0 0]) := Ty.of (by kernel_rfl)
theorem ty51 : Ty Try.prog 51 6 112 (.agg #[.int .i64 0, .slice none 0 0, .string ⟨#[]⟩, .slice none 0 0, .string ⟨#[]⟩, .slice none 0 0]) := Ty.of (by kernel_rfl)
theorem ag3 : IsAgg Try.prog 3 false := ⟨_, Try.underlying3, rfl⟩
theorem ag9 : IsAgg Try.prog 9 false := ⟨_, Try.underlying9, rfl⟩
theorem ag22 : IsAgg Try.prog 22 false := ⟨_, Try.underlying22, rfl⟩
theorem ag24 : IsAgg Try.prog 24 false := ⟨_, Try.underlying24, rfl⟩
theorem ag42 : IsAgg Try.prog 42 true := ⟨_, Try.underlying42, rfl⟩
theorem ag51 : IsAgg Try.prog 51 true := ⟨_, Try.underlying51, rfl⟩
theorem fa42_0 : FieldAt Try.prog 42 0 0 1 false := ⟨_, _, Try.underlying42, rfl, rfl, ty9.size, ag9, by decide⟩
theorem fa42_3 : FieldAt Try.prog 42 3 3 1 false := ⟨_, _, Try.underlying42, rfl, rfl, ty24.size, ag24, by decide⟩
theorem fa51_0 : FieldAt Try.prog 51 0 0 1 false := ⟨_, _, Try.underlying51, rfl, rfl, ty3.size, ag3, by decide⟩
theorem fa51_1 : FieldAt Try.prog 51 1 1 1 false := ⟨_, _, Try.underlying51, rfl, rfl, ty22.size, ag22, by decide⟩
theorem fa51_2 : FieldAt Try.prog 51 2 2 4 true := ⟨_, _, Try.underlying51, rfl, rfl, ty42.size, ag42, by decide⟩
theorem st51 : StructAt Try.prog 51 [(0, 1), (1, 1), (2, 4)] := ⟨_, Try.underlying51, rfl, ty3.size, rfl, ty22.size, rfl, ty42.size, trivial⟩
theorem c_Ins_step (ch : Ch) (hc : ch.kind = 1) (hcp : ch.path.length ≤ 16777216) (hcn : ch.node.sz ≤ 16777216) (p : List Int) (hpl : p.length ≤ 16777216) (ih : ∀ r : List Int, r.length < p.length → ∀ l, Nd.szs l ≤ 16777216 → Nd.plP l r → FnP Try.prog 17 [.sl 4 (l.map Nd.av), cav ch, .sl 1 (r.map AV.int)] (.tup [.sl 4 ((Nd.insP l r ch.node).map Nd.av), cav ⟨2, ch.path, Nd.dflt⟩, .int 0])) (l : List Nd) (hl : Nd.szs l ≤ 16777216) (hat : Nd.plP l p) : FnP Try.prog 17 [.sl 4 (l.map Nd.av), cav ch, .sl 1 (p.map AV.int)] (.tup [.sl 4 ((Nd.insP l p ch.node).map Nd.av), cav ⟨2, ch.path, Nd.dflt⟩, .int 0]) :=  by
  refine FnC.mk Try.func17 (by kernel_rfl) rfl Try.ntmps17 rfl (fun w0 F => ?_)
  have hll : (l.map Nd.av).length = l.length := List.length_map ..
  have hsl := Nd.szs_len l
  obtain ⟨k0, r, rfl⟩ : ∃ k0 r, p = k0 :: r := by cases p with
    | nil => exact hat.elim
    | cons k0 r => exact ⟨k0, r, rfl⟩
  obtain ⟨i, rfl, hnx⟩ := hat
  have hset : Nd.insP l ((i : Int) :: r) ch.node = if r = [] then l.take i ++ ch.node :: l.drop i else l.set i (Nd.withP (l.getD i Nd.dflt) (Nd.insP (l.getD i Nd.dflt).parts r ch.node)) := by rw [Nd.insP, Int.toNat_natCast]
  have hga0 : i < l.length → (l.map Nd.av)[i]? = some (Nd.avx (l.getD i Nd.dflt)) := fun h => Nd.at_av l i h
  have hsz0 : i < l.length → (l.getD i Nd.dflt).sz ≤ Nd.szs l := fun h => Nd.at_sz l i h
  generalize hd2 : l.getD i Nd.dflt = e at hga0 hnx hsz0 hset
  have hse := Nd.sz_eq e
  have hpm : ((((i : Nat) : Int) :: r).map AV.int).length = r.length + 1 := by simp
  have hgp : ((((i : Nat) : Int) :: r).map AV.int)[0]? = some (AV.int (i : Int)) := rfl
  refine W.seq ?_
  refine W.region ?_
  refine W.box (.t rfl) rfl rfl ?_
  intro b4
  refine W.q (Ev.assign .k) rfl ?_
  refine W.alloc ty51 rfl rfl ?_
  intro b7
  refine W.q (Ev.assign .k) rfl ?_
  refine W.nil ?_
  refine W.then ?_
  refine W.seq ?_
  refine W.drawnM (fun ee c_ => [.box b7 51 [.lit (.int .i64 0), .lit (.slice none 0 0), .lit (.string ⟨#[]⟩), .lit (.slice none 0 0), .lit (.string ⟨#[]⟩), .lit (.slice none 0 0)], .box b4 51 [.int ch.kind, .sl 1 (ch.path.map AV.int), .str ch.node.name, .sl 2 (ch.node.attrs.map dav), .str ch.node.text, .sl 4 (ch.node.parts.map Nd.av)]] ++ (bif ee 6 then [ME.box (c_ 6).1 51 (bif ee 7 then [.int ch.kind, .sl 1 (ch.path.map AV.int), .lit (.string ⟨#[]⟩), .lit (.slice none 0 0), .lit (.string ⟨#[]⟩), .lit (.slice none 0 0)] else [.lit (.int .i64 0), .lit (.slice none 0 0), .lit (.string ⟨#[]⟩), .lit (.slice none 0 0), .lit (.string ⟨#[]⟩), .lit (.slice none 0 0)])] else [])) (c0 := ks0) (by kernel_rfl) (by kernel_rfl) rfl ?_
  first | refine DM.q (fun e c hk => (Ev.fae (.t rfl) fa51_0 rfl)) rfl (fun _ _ => rfl) (fun c c_ h => by first | rfl) ?_ | refine DM.q (fun e c hk => (Ev.fab (.t rfl) fa51_0)) rfl (fun _ _ => rfl) (fun c c_ h => by first | rfl) ?_ | refine DM.q (fun e c hk => (Ev.faa (.t rfl) fa51_0)) rfl (fun _ _ => rfl) (fun c c_ h => by first | rfl) ?_
  first | refine DM.q (fun e c hk => (Ev.lde1 (.t rfl) ag3)) rfl (fun _ _ => rfl) (fun c c_ h => by first | rfl) ?_ | refine DM.q (fun e c hk => (Ev.ldb1 0 (.t rfl) rfl ag3 rfl)) rfl (fun _ _ => rfl) (fun c c_ h => by first | rfl) ?_ | refine DM.q (fun e c hk => (Ev.ldb1 1 (.t rfl) rfl ag3 rfl)) rfl (fun _ _ => rfl) (fun c c_ h => by first | rfl) ?_ | refine DM.q (fun e c hk => (Ev.ldb1 2 (.t rfl) rfl ag3 rfl)) rfl (fun _ _ => rfl) (fun c c_ h => by first | rfl) ?_ | refine DM.q (fun e c hk => (Ev.ldb1 3 (.t rfl) rfl ag3 rfl)) rfl (fun _ _ => rfl) (fun c c_ h => by first | rfl) ?_ | refine DM.q (fun e c hk => (Ev.ldb1 4 (.t rfl) rfl ag3 rfl)) rfl (fun _ _ => rfl) (fun c c_ h => by first | rfl) ?_ | refine DM.q (fun e c hk => (Ev.ldb1 5 (.t rfl) rfl ag3 rfl)) rfl (fun _ _ => rfl) (fun c c_ h => by first | rfl) ?_
  first | refine DM.q (fun e c hk => (Ev.fae (.t rfl) fa51_1 rfl)) rfl (fun _ _ => rfl) (fun c c_ h => by first | rfl) ?_ | refine DM.q (fun e c hk => (Ev.fab (.t rfl) fa51_1)) rfl (fun _ _ => rfl) (fun c c_ h => by first | rfl) ?_ | refine DM.q (fun e c hk => (Ev.faa (.t rfl) fa51_1)) rfl (fun _ _ => rfl) (fun c c_ h => by first | rfl) ?_
  first | refine DM.q (fun e c hk => (Ev.lde1 (.t rfl) ag22)) rfl (fun _ _ => rfl) (fun c c_ h => by first | rfl) ?_ | refine DM.q (fun e c hk => (Ev.ldb1 0 (.t rfl) rfl ag22 rfl)) rfl (fun _ _ => rfl) (fun c c_ h => by first | rfl) ?_ | refine DM.q (fun e c hk => (Ev.ldb1 1 (.t rfl) rfl ag22 rfl)) rfl (fun _ _ => rfl) (fun c c_ h => by first | rfl) ?_ | refine DM.q (fun e c hk => (Ev.ldb1 2 (.t rfl) rfl ag22 rfl)) rfl (fun _ _ => rfl) (fun c c_ h => by first | rfl) ?_ | refine DM.q (fun e c hk => (Ev.ldb1 3 (.t rfl) rfl ag22 rfl)) rfl (fun _ _ => rfl) (fun c c_ h => by first | rfl) ?_ | refine DM.q (fun e c hk => (Ev.ldb1 4 (.t rfl) rfl ag22 rfl)) rfl (fun _ _ => rfl) (fun c c_ h => by first | rfl) ?_ | refine DM.q (fun e c hk => (Ev.ldb1 5 (.t rfl) rfl ag22 rfl)) rfl (fun _ _ => rfl) (fun c c_ h => by first | rfl) ?_
  refine DM.callp (fun c => WCopyAll.c_CloneIntF ch.path (by omega)) (fun c => ⟨(.t rfl), trivial⟩) rfl (fun _ _ => rfl) (fun c c_ h => by first | rfl) ?_
  refine DM.q (fun e c hk => (Ev.build ty51 st51 rfl (fun hg => ⟨_, _, _, rfl, (.t rfl), rfl, rfl, rfl, _, _, _, rfl, (.t rfl), rfl, rfl, rfl, rfl⟩))) rfl (fun _ _ => rfl) (fun c c_ h => by first | rfl) ?_
  refine DM.eff1 (av := fun c => .lit (.pointer (some ⟨(c 6).1, 0, none⟩))) rfl (fun c c_ h => by first | rfl | simp only [h 6 (by first | exact .inl rfl | exact .inr (by kernel_rfl))]) (fun e c hk L_ hs Q h => ?_) ?_
  · have hk_6 := hk.not
    have hk_7 := hk.down 7 (by kernel_rfl)
    simp only [addE, upd, eq_self, List.nil_append, List.cons_append, List.append_nil, hk_6, hk_7, Nat.reduceAdd, Nat.reduceEqDiff, ↓reduceIte, cond_true, cond_false] at h ⊢
    exact W.alloc ty51 rfl rfl (fun b => h (b, undef) _ (by first | exact .refl _ | exact (List.perm_middle (l₁ := [_])).symm | exact (List.perm_middle (l₁ := [_, _])).symm | exact (List.perm_middle (l₁ := [_, _, _])).symm | exact (List.perm_middle (l₁ := [_, _, _, _])).symm | exact (List.perm_middle (l₁ := [_, _, _, _, _])).symm | exact (List.perm_middle (l₁ := [_, _, _, _, _, _])).symm | exact (List.perm_middle (l₁ := [_, _, _, _, _, _, _])).symm | exact (List.perm_middle (l₁ := [_, _, _, _, _, _, _, _])).symm))
  refine DM.eff0 (fun e c hk L_ hs Q h => ?_) ?_
  · have hk_7 := hk.not
    have hk_6 := hk.up 6 (by kernel_rfl)
    simp only [addE, upd, eq_self, List.nil_append, List.cons_append, List.append_nil, hk_7, hk_6, Nat.reduceAdd, Nat.reduceEqDiff, ↓reduceIte, cond_true, cond_false] at h ⊢
    first | (refine W.stb 0 (.t (hs _ _ rfl)) (.t (hs _ _ rfl)) rfl ty51 rfl rfl rfl ?_; exact h) | (refine W.stb 1 (.t (hs _ _ rfl)) (.t (hs _ _ rfl)) rfl ty51 rfl rfl rfl ?_; exact h) | (refine W.stb 2 (.t (hs _ _ rfl)) (.t (hs _ _ rfl)) rfl ty51 rfl rfl rfl ?_; exact h) | (refine W.stb 3 (.t (hs _ _ rfl)) (.t (hs _ _ rfl)) rfl ty51 rfl rfl rfl ?_; exact h) | (refine W.stb 4 (.t (hs _ _ rfl)) (.t (hs _ _ rfl)) rfl ty51 rfl rfl rfl ?_; exact h) | (refine W.stb 5 (.t (hs _ _ rfl)) (.t (hs _ _ rfl)) rfl ty51 rfl rfl rfl ?_; exact h)
  refine DM.nil (fun cc e_ he_ => ?_)
  simp only [he_ 6 (by decide), he_ 7 (by decide), cond_true, cond_false]
  generalize (cc 6).1 = b9
  refine W.perm (List.perm_append_comm (l₂ := [_])) ?_
  refine W.then ?_
  refine W.seq ?_
  refine W.region ?_
  refine W.q (Ev.move (.t rfl)) rfl ?_
  first | refine W.q (Ev.lensl (.t rfl) Try.underlying24) rfl ?_ | refine W.q (Ev.lenar (i := 0) (.t rfl) rfl Try.underlying24) rfl ?_ | refine W.q (Ev.lenar (i := 1) (.t rfl) rfl Try.underlying24) rfl ?_ | refine W.q (Ev.lenar (i := 2) (.t rfl) rfl Try.underlying24) rfl ?_ | refine W.q (Ev.lenar (i := 3) (.t rfl) rfl Try.underlying24) rfl ?_ | refine W.q (Ev.lenar (i := 4) (.t rfl) rfl Try.underlying24) rfl ?_ | refine W.q (Ev.lenar (i := 5) (.t rfl) rfl Try.underlying24) rfl ?_
  refine W.q (Ev.assign (.t rfl)) rfl ?_
  refine W.nil ?_
  refine W.then ?_
  refine W.seq ?_
  refine W.seq ?_
  refine W.region ?_
  first | refine W.q (Ev.fae (.t rfl) fa51_0 rfl) rfl ?_ | refine W.q (Ev.fab (.t rfl) fa51_0) rfl ?_ | refine W.q (Ev.faa (.t rfl) fa51_0) rfl ?_
  first | refine W.q (Ev.lde1 (.t rfl) ag3) rfl ?_ | refine W.q (Ev.ldb1 0 (.t rfl) rfl ag3 rfl) rfl ?_ | refine W.q (Ev.ldb1 1 (.t rfl) rfl ag3 rfl) rfl ?_ | refine W.q (Ev.ldb1 2 (.t rfl) rfl ag3 rfl) rfl ?_ | refine W.q (Ev.ldb1 3 (.t rfl) rfl ag3 rfl) rfl ?_ | refine W.q (Ev.ldb1 4 (.t rfl) rfl ag3 rfl) rfl ?_ | refine W.q (Ev.ldb1 5 (.t rfl) rfl ag3 rfl) rfl ?_
  refine W.q (Ev.eqi (.t rfl) .k) rfl ?_
  refine W.q (Ev.move (.t rfl)) rfl ?_
  refine W.qgT rfl rfl (Ev.move (.t rfl)) rfl ?_
  first | refine W.qgT rfl rfl (Ev.lensl (.c rfl) Try.underlying22) rfl ?_ | refine W.qgT rfl rfl (Ev.lenar (i := 0) (.c rfl) rfl Try.underlying22) rfl ?_ | refine W.qgT rfl rfl (Ev.lenar (i := 1) (.c rfl) rfl Try.underlying22) rfl ?_ | refine W.qgT rfl rfl (Ev.lenar (i := 2) (.c rfl) rfl Try.underlying22) rfl ?_ | refine W.qgT rfl rfl (Ev.lenar (i := 3) (.c rfl) rfl Try.underlying22) rfl ?_ | refine W.qgT rfl rfl (Ev.lenar (i := 4) (.c rfl) rfl Try.underlying22) rfl ?_ | refine W.qgT rfl rfl (Ev.lenar (i := 5) (.c rfl) rfl Try.underlying22) rfl ?_
  refine W.qgT rfl rfl (Ev.eqi (.c rfl) .k) rfl ?_
  refine W.q (Ev.and (.t rfl) ⟨_, _, rfl, rfl, by first | (simp; done) | (intro hg_ hp_; simp [hp_]; done) | (simp <;> omega; done) | (simp_all; done) | grind⟩) rfl ?_
  refine W.nil ?_
  refine W.then ?_
  refine W.cond (.t rfl) (fun hc_t31 => ?_) (fun hc_t31 => ?_)
  · have h31 : r = [] := by
      cases r with
      | nil => rfl
      | cons a b => simp [hc] at hc_t31 <;> omega
    have h49 : i ≤ l.length := by rcases hnx with ⟨_, h⟩ | ⟨h, _⟩; exact h; exact absurd h31 h
    refine W.region ?_
    refine W.q (Ev.move (.t rfl)) rfl ?_
    first | refine W.q (Ev.add (.t rfl) .k (fun _ => by omega)) rfl ?_ | refine W.q (Ev.addw (.t rfl) .k) rfl ?_
    refine W.q (Ev.assign (.t rfl)) rfl ?_
    refine W.nil ?_
    refine W.then ?_
    refine W.seq ?_
    refine W.seq ?_
    refine W.region ?_
    refine W.q (Ev.move (.t rfl)) rfl ?_
    first | refine W.q (Ev.lensl (.t rfl) Try.underlying22) rfl ?_ | refine W.q (Ev.lenar (i := 0) (.t rfl) rfl Try.underlying22) rfl ?_ | refine W.q (Ev.lenar (i := 1) (.t rfl) rfl Try.underlying22) rfl ?_ | refine W.q (Ev.lenar (i := 2) (.t rfl) rfl Try.underlying22) rfl ?_ | refine W.q (Ev.lenar (i := 3) (.t rfl) rfl Try.underlying22) rfl ?_ | refine W.q (Ev.lenar (i := 4) (.t rfl) rfl Try.underlying22) rfl ?_ | refine W.q (Ev.lenar (i := 5) (.t rfl) rfl Try.underlying22) rfl ?_
    refine W.q (Ev.eqi (.t rfl) .k) rfl ?_
    refine W.q (Ev.move (.t rfl)) rfl ?_
    refine W.qgF rfl rfl (Ev.move (.t rfl)) rfl ?_
    refine W.qgF rfl rfl (Ev.at (E := 3) (.c rfl) .k Try.underlying22 ty3 (fun _ => ⟨by omega, hgp⟩) rfl rfl) rfl ?_
    first | refine W.qgF rfl rfl (Ev.lde1 (.c rfl) ag3) rfl ?_ | refine W.qgF rfl rfl (Ev.ldb1 0 (.c rfl) rfl ag3 rfl) rfl ?_ | refine W.qgF rfl rfl (Ev.ldb1 1 (.c rfl) rfl ag3 rfl) rfl ?_ | refine W.qgF rfl rfl (Ev.ldb1 2 (.c rfl) rfl ag3 rfl) rfl ?_ | refine W.qgF rfl rfl (Ev.ldb1 3 (.c rfl) rfl ag3 rfl) rfl ?_ | refine W.qgF rfl rfl (Ev.ldb1 4 (.c rfl) rfl ag3 rfl) rfl ?_ | refine W.qgF rfl rfl (Ev.ldb1 5 (.c rfl) rfl ag3 rfl) rfl ?_
    refine W.qgF rfl rfl (Ev.lti (.c rfl) .k) rfl ?_
    refine W.q (Ev.or (.t rfl) ⟨_, _, rfl, rfl, by first | (simp; done) | (intro hg_ hp_; simp [hp_]; done) | (simp <;> omega; done) | (simp_all; done) | grind⟩) rfl ?_
    refine W.q (Ev.move (.t rfl)) rfl ?_
    refine W.qgF rfl rfl (Ev.move (.t rfl)) rfl ?_
    refine W.qgF rfl rfl (Ev.at (E := 3) (.c rfl) .k Try.underlying22 ty3 (fun _ => ⟨by omega, hgp⟩) rfl rfl) rfl ?_
    first | refine W.qgF rfl rfl (Ev.lde1 (.c rfl) ag3) rfl ?_ | refine W.qgF rfl rfl (Ev.ldb1 0 (.c rfl) rfl ag3 rfl) rfl ?_ | refine W.qgF rfl rfl (Ev.ldb1 1 (.c rfl) rfl ag3 rfl) rfl ?_ | refine W.qgF rfl rfl (Ev.ldb1 2 (.c rfl) rfl ag3 rfl) rfl ?_ | refine W.qgF rfl rfl (Ev.ldb1 3 (.c rfl) rfl ag3 rfl) rfl ?_ | refine W.qgF rfl rfl (Ev.ldb1 4 (.c rfl) rfl ag3 rfl) rfl ?_ | refine W.qgF rfl rfl (Ev.ldb1 5 (.c rfl) rfl ag3 rfl) rfl ?_
    refine W.qgF rfl rfl (Ev.move (.t rfl)) rfl ?_
    refine W.qgF rfl rfl (Ev.gei (.c rfl) (.c rfl)) rfl ?_
    refine W.q (Ev.or (.t rfl) ⟨_, _, rfl, rfl, by first | (simp; done) | (intro hg_ hp_; simp [hp_]; done) | (simp <;> omega; done) | (simp_all; done) | grind⟩) rfl ?_
    refine W.nil ?_
    refine W.then ?_
    refine W.is (t := 49) (g := true) (av' := .lit (.bool false)) rfl (congrArg (fun b => AV.lit (.bool b)) (by simp; omega)) ?_
    refine W.condF (.t rfl) ?_
    refine W.skip ?_
    refine W.then ?_
    refine W.seq ?_
    refine W.region ?_
    refine W.q (Ev.move (.t rfl)) rfl ?_
    refine W.q (Ev.at (E := 3) (.t rfl) .k Try.underlying22 ty3 (fun _ => ⟨by omega, hgp⟩) rfl rfl) rfl ?_
    first | refine W.q (Ev.lde1 (.t rfl) ag3) rfl ?_ | refine W.q (Ev.ldb1 0 (.t rfl) rfl ag3 rfl) rfl ?_ | refine W.q (Ev.ldb1 1 (.t rfl) rfl ag3 rfl) rfl ?_ | refine W.q (Ev.ldb1 2 (.t rfl) rfl ag3 rfl) rfl ?_ | refine W.q (Ev.ldb1 3 (.t rfl) rfl ag3 rfl) rfl ?_ | refine W.q (Ev.ldb1 4 (.t rfl) rfl ag3 rfl) rfl ?_ | refine W.q (Ev.ldb1 5 (.t rfl) rfl ag3 rfl) rfl ?_
    refine W.q (Ev.assign (.t rfl)) rfl ?_
    refine W.nil ?_
    refine W.then ?_
    refine W.seq ?_
    refine W.region ?_
    refine W.q (Ev.move (.t rfl)) rfl ?_
    refine W.call (WClone.c_CloneNode (l.map Nd.av) (fun e he => (Nd.okc_avs l e he).1) (by omega)) ⟨(.t rfl), trivial⟩ (.refl _) rfl ?_
    rintro _ _ ⟨v55, rfl, rfl⟩
    refine W.q (Ev.assign (.t rfl)) rfl ?_
    refine W.nil ?_
    refine W.then ?_
    refine W.seq ?_
    refine W.seq ?_
    refine W.region ?_
    refine W.q (Ev.move (.t rfl)) rfl ?_
    first | refine W.q (Ev.lensl (.t rfl) Try.underlying22) rfl ?_ | refine W.q (Ev.lenar (i := 0) (.t rfl) rfl Try.underlying22) rfl ?_ | refine W.q (Ev.lenar (i := 1) (.t rfl) rfl Try.underlying22) rfl ?_ | refine W.q (Ev.lenar (i := 2) (.t rfl) rfl Try.underlying22) rfl ?_ | refine W.q (Ev.lenar (i := 3) (.t rfl) rfl Try.underlying22) rfl ?_ | refine W.q (Ev.lenar (i := 4) (.t rfl) rfl Try.underlying22) rfl ?_ | refine W.q (Ev.lenar (i := 5) (.t rfl) rfl Try.underlying22) rfl ?_
    refine W.q (Ev.gti (.t rfl) .k) rfl ?_
    refine W.nil ?_
    refine W.then ?_
    refine W.cond (.t rfl) (fun hc_t58 => ?_) (fun hc_t58 => ?_)
    · have h58 := of_decide_eq_true hc_t58
      have hr0 : r ≠ [] := by rintro rfl; simp at h58
      rw [if_neg hr0] at hset
      obtain ⟨hlt, hnm, hnx⟩ : i < l.length ∧ e.name ≠ [] ∧ Nd.plP e.parts r := by rcases hnx with ⟨h, _⟩ | ⟨_, h⟩; exact absurd h hr0; exact h
      have hga := hga0 hlt
      have hsz := hsz0 hlt
      refine W.seq ?_
      refine W.seq ?_
      refine W.region ?_
      refine W.q (Ev.move (.t rfl)) rfl ?_
      refine W.q (Ev.move (.t rfl)) rfl ?_
      refine W.q (Ev.at (E := 42) (.t rfl) (.t rfl) Try.underlying24 ty42 (fun _ => ⟨by omega, hga⟩) rfl rfl) rfl ?_
      first | refine W.q (Ev.fae (.t rfl) fa42_0 rfl) rfl ?_ | refine W.q (Ev.fab (.t rfl) fa42_0) rfl ?_ | refine W.q (Ev.faa (.t rfl) fa42_0) rfl ?_
      first | refine W.q (Ev.lde1 (.t rfl) ag9) rfl ?_ | refine W.q (Ev.ldb1 0 (.t rfl) rfl ag9 rfl) rfl ?_ | refine W.q (Ev.ldb1 1 (.t rfl) rfl ag9 rfl) rfl ?_ | refine W.q (Ev.ldb1 2 (.t rfl) rfl ag9 rfl) rfl ?_ | refine W.q (Ev.ldb1 3 (.t rfl) rfl ag9 rfl) rfl ?_ | refine W.q (Ev.ldb1 4 (.t rfl) rfl ag9 rfl) rfl ?_ | refine W.q (Ev.ldb1 5 (.t rfl) rfl ag9 rfl) rfl ?_
      refine W.q (Ev.eqs (.t rfl) .k) rfl ?_
      refine W.nil ?_
      refine W.then ?_
      refine W.is (t := 64) (g := true) (av' := .lit (.bool false)) rfl (congrArg (fun b => AV.lit (.bool b)) (by simpa using hnm)) ?_
      refine W.condF (.t rfl) ?_
      refine W.skip ?_
      refine W.then ?_
      refine W.seq ?_
      refine W.drawnM (fun ee c_ => [.arr v55 42 4 (l.map Nd.av), .box b9 51 [.int ch.kind, .sl 1 (ch.path.map AV.int), .lit (.string ⟨#[]⟩), .lit (.slice none 0 0), .lit (.string ⟨#[]⟩), .lit (.slice none 0 0)], .box b7 51 [.lit (.int .i64 0), .lit (.slice none 0 0), .lit (.string ⟨#[]⟩), .lit (.slice none 0 0), .lit (.string ⟨#[]⟩), .lit (.slice none 0 0)], .box b4 51 [.int ch.kind, .sl 1 (ch.path.map AV.int), .str ch.node.name, .sl 2 (ch.node.attrs.map dav), .str ch.node.text, .sl 4 (ch.node.parts.map Nd.av)]] ++ (bif ee 13 then [ME.box (c_ 13).1 51 (bif ee 15 then [.int (Ch.mk 2 ch.path Nd.dflt).kind, .sl 1 ((Ch.mk 2 ch.path Nd.dflt).path.map AV.int), .str (Ch.mk 2 ch.path Nd.dflt).node.name, .sl 2 ((Ch.mk 2 ch.path Nd.dflt).node.attrs.map dav), .str (Ch.mk 2 ch.path Nd.dflt).node.text, .sl 4 ((Ch.mk 2 ch.path Nd.dflt).node.parts.map Nd.av)] else [.lit (.int .i64 0), .lit (.slice none 0 0), .lit (.string ⟨#[]⟩), .lit (.slice none 0 0), .lit (.string ⟨#[]⟩), .lit (.slice none 0 0)])] else [])) (c0 := ks0) (by kernel_rfl) (by kernel_rfl) rfl ?_
      refine DM.q (fun e c hk => (Ev.move (.t rfl))) rfl (fun _ _ => rfl) (fun c c_ h => by first | rfl) ?_
      refine DM.q (fun e c hk => (Ev.move (.t rfl))) rfl (fun _ _ => rfl) (fun c c_ h => by first | rfl) ?_
      refine DM.q (fun e c hk => Ev.at (E := 42) (.t rfl) (.t rfl) Try.underlying24 ty42 (fun _ => ⟨by omega, hga⟩) rfl rfl) rfl (fun _ _ => rfl) (fun c c_ h => rfl) ?_
      first | refine DM.q (fun e c hk => (Ev.fae (.t rfl) fa42_3 rfl)) rfl (fun _ _ => rfl) (fun c c_ h => by first | rfl) ?_ | refine DM.q (fun e c hk => (Ev.fab (.t rfl) fa42_3)) rfl (fun _ _ => rfl) (fun c c_ h => by first | rfl) ?_ | refine DM.q (fun e c hk => (Ev.faa (.t rfl) fa42_3)) rfl (fun _ _ => rfl) (fun c c_ h => by first | rfl) ?_
      first | refine DM.q (fun e c hk => (Ev.lde1 (.t rfl) ag24)) rfl (fun _ _ => rfl) (fun c c_ h => by first | rfl) ?_ | refine DM.q (fun e c hk => (Ev.ldb1 0 (.t rfl) rfl ag24 rfl)) rfl (fun _ _ => rfl) (fun c c_ h => by first | rfl) ?_ | refine DM.q (fun e c hk => (Ev.ldb1 1 (.t rfl) rfl ag24 rfl)) rfl (fun _ _ => rfl) (fun c c_ h => by first | rfl) ?_ | refine DM.q (fun e c hk => (Ev.ldb1 2 (.t rfl) rfl ag24 rfl)) rfl (fun _ _ => rfl) (fun c c_ h => by first | rfl) ?_ | refine DM.q (fun e c hk => (Ev.ldb1 3 (.t rfl) rfl ag24 rfl)) rfl (fun _ _ => rfl) (fun c c_ h => by first | rfl) ?_ | refine DM.q (fun e c hk => (Ev.ldb1 4 (.t rfl) rfl ag24 rfl)) rfl (fun _ _ => rfl) (fun c c_ h => by first | rfl) ?_ | refine DM.q (fun e c hk => (Ev.ldb1 5 (.t rfl) rfl ag24 rfl)) rfl (fun _ _ => rfl) (fun c c_ h => by first | rfl) ?_
      first | refine DM.q (fun e c hk => (Ev.lden (.t rfl) ag51 ty51 rfl rfl)) rfl (fun _ _ => rfl) (fun c c_ h => by first | rfl) ?_ | refine DM.q (fun e c hk => (Ev.ldbn 0 (.t rfl) rfl ag51 ty51 rfl)) rfl (fun _ _ => rfl) (fun c c_ h => by first | rfl) ?_ | refine DM.q (fun e c hk => (Ev.ldbn 1 (.t rfl) rfl ag51 ty51 rfl)) rfl (fun _ _ => rfl) (fun c c_ h => by first | rfl) ?_ | refine DM.q (fun e c hk => (Ev.ldbn 2 (.t rfl) rfl ag51 ty51 rfl)) rfl (fun _ _ => rfl) (fun c c_ h => by first | rfl) ?_ | refine DM.q (fun e c hk => (Ev.ldbn 3 (.t rfl) rfl ag51 ty51 rfl)) rfl (fun _ _ => rfl) (fun c c_ h => by first | rfl) ?_ | refine DM.q (fun e c hk => (Ev.ldbn 4 (.t rfl) rfl ag51 ty51 rfl)) rfl (fun _ _ => rfl) (fun c c_ h => by first | rfl) ?_ | refine DM.q (fun e c hk => (Ev.ldbn 5 (.t rfl) rfl ag51 ty51 rfl)) rfl (fun _ _ => rfl) (fun c c_ h => by first | rfl) ?_
      refine DM.q (fun e c hk => (Ev.move (.t rfl))) rfl (fun _ _ => rfl) (fun c c_ h => by first | rfl) ?_
      refine DM.q (fun e c hk => Ev.dropsl (n := 1) (f := AV.int) (l := (i : Int) :: r) (.t rfl) Try.underlying22 ty3 .k rfl (fun _ => by simp)) rfl (fun _ _ => rfl) (fun c c_ h => rfl) ?_
      refine DM.callp (fun c => ih r (by simp) e.parts (by omega) hnx) (fun c => ⟨(.t rfl), (.t rfl), (.t rfl), trivial⟩) rfl (fun _ _ => rfl) (fun c c_ h => by first | rfl) ?_
      refine DM.q (fun e c hk => (Ev.move (.t rfl))) rfl (fun _ _ => rfl) (fun c c_ h => by first | rfl) ?_
      refine DM.q (fun e c hk => (Ev.extract (.t rfl) rfl)) rfl (fun _ _ => rfl) (fun c c_ h => by first | rfl) ?_
      refine DM.q (fun e c hk => (Ev.extract (.t rfl) rfl)) rfl (fun _ _ => rfl) (fun c c_ h => by first | rfl) ?_
      refine DM.q (fun e c hk => (Ev.extract (.t rfl) rfl)) rfl (fun _ _ => rfl) (fun c c_ h => by first | rfl) ?_
      refine DM.eff1 (av := fun c => .lit (.pointer (some ⟨(c 13).1, 0, none⟩))) rfl (fun c c_ h => by first | rfl | simp only [h 13 (by first | exact .inl rfl | exact .inr (by kernel_rfl))]) (fun e c hk L_ hs Q h => ?_) ?_
      · have hk_13 := hk.not
        have hk_15 := hk.down 15 (by kernel_rfl)
        simp only [addE, upd, eq_self, List.nil_append, List.cons_append, List.append_nil, hk_13, hk_15, Nat.reduceAdd, Nat.reduceEqDiff, ↓reduceIte, cond_true, cond_false] at h ⊢
        exact W.alloc ty51 rfl rfl (fun b => h (b, undef) _ (by first | exact .refl _ | exact (List.perm_middle (l₁ := [_])).symm | exact (List.perm_middle (l₁ := [_, _])).symm | exact (List.perm_middle (l₁ := [_, _, _])).symm | exact (List.perm_middle (l₁ := [_, _, _, _])).symm | exact (List.perm_middle (l₁ := [_, _, _, _, _])).symm | exact (List.perm_middle (l₁ := [_, _, _, _, _, _])).symm | exact (List.perm_middle (l₁ := [_, _, _, _, _, _, _])).symm | exact (List.perm_middle (l₁ := [_, _, _, _, _, _, _, _])).symm))
      refine DM.q (fun e c hk => (Ev.assign (.t rfl))) rfl (fun _ _ => rfl) (fun c c_ h => by first | rfl | simp only [h 13 (by first | exact .inl rfl | exact .inr (by kernel_rfl))]) ?_
      refine DM.eff0 (fun e c hk L_ hs Q h => ?_) ?_
      · have hk_15 := hk.not
        have hk_13 := hk.up 13 (by kernel_rfl)
        simp only [addE, upd, eq_self, List.nil_append, List.cons_append, List.append_nil, hk_15, hk_13, Nat.reduceAdd, Nat.reduceEqDiff, ↓reduceIte, cond_true, cond_false] at h ⊢
        first | (refine W.stb 0 (.t (hs _ _ rfl)) (.t (hs _ _ rfl)) rfl ty51 rfl rfl rfl ?_; exact h) | (refine W.stb 1 (.t (hs _ _ rfl)) (.t (hs _ _ rfl)) rfl ty51 rfl rfl rfl ?_; exact h) | (refine W.stb 2 (.t (hs _ _ rfl)) (.t (hs _ _ rfl)) rfl ty51 rfl rfl rfl ?_; exact h) | (refine W.stb 3 (.t (hs _ _ rfl)) (.t (hs _ _ rfl)) rfl ty51 rfl rfl rfl ?_; exact h) | (refine W.stb 4 (.t (hs _ _ rfl)) (.t (hs _ _ rfl)) rfl ty51 rfl rfl rfl ?_; exact h) | (refine W.stb 5 (.t (hs _ _ rfl)) (.t (hs _ _ rfl)) rfl ty51 rfl rfl rfl ?_; exact h)
      refine DM.q (fun e c hk => (Ev.assign (.t rfl))) rfl (fun _ _ => rfl) (fun c c_ h => by first | rfl | simp only [h 13 (by first | exact .inl rfl | exact .inr (by kernel_rfl))]) ?_
      refine DM.nil (fun cc e_ he_ => ?_)
      simp only [he_ 13 (by decide), he_ 15 (by decide), cond_true, cond_false]
      generalize (cc 13).1 = b14
      refine W.perm (List.perm_append_comm (l₂ := [_])) ?_
      refine W.then ?_
      refine W.seq ?_
      refine W.region ?_
      refine W.q (Ev.move (.t rfl)) rfl ?_
      refine W.q (Ev.move (.t rfl)) rfl ?_
      refine W.q (Ev.move (.t rfl)) rfl ?_
      refine W.q (Ev.ata 1 (.t rfl) rfl (.t rfl) Try.underlying24 ty42 (fun _ => by omega)) rfl ?_
      first | refine W.q (Ev.fae (.t rfl) fa42_3 rfl) rfl ?_ | refine W.q (Ev.fab (.t rfl) fa42_3) rfl ?_ | refine W.q (Ev.faa (.t rfl) fa42_3) rfl ?_
      refine W.sta 1 i 3 (e := Nd.avx e) (e' := Nd.avx (Nd.withP e (Nd.insP e.parts r ch.node))) (.t rfl) (.t rfl) rfl hga (by omega) ty24 rfl rfl rfl rfl rfl rfl rfl ?_
      refine W.nil ?_
      rw [show (l.map Nd.av).set i (Nd.avx (Nd.withP e (Nd.insP e.parts r ch.node))) = (Nd.insP l ((i : Int) :: r) ch.node).map Nd.av from by rw [hset, List.map_set, Nd.av_eq]]
      refine W.perm (List.perm_append_comm (l₁ := [_])) ?_
      refine W.then ?_
      refine W.seq ?_
      refine W.drawnE (ι := Unit) (fun ee c_ => [.arr v55 42 4 ((Nd.insP l ((i : Int) :: r) ch.node).map Nd.av), .box b9 51 [.int ch.kind, .sl 1 (ch.path.map AV.int), .lit (.string ⟨#[]⟩), .lit (.slice none 0 0), .lit (.string ⟨#[]⟩), .lit (.slice none 0 0)], .box b7 51 (bif ee 4 then [.int (Ch.mk 2 ch.path Nd.dflt).kind, .sl 1 ((Ch.mk 2 ch.path Nd.dflt).path.map AV.int), .str (Ch.mk 2 ch.path Nd.dflt).node.name, .sl 2 ((Ch.mk 2 ch.path Nd.dflt).node.attrs.map dav), .str (Ch.mk 2 ch.path Nd.dflt).node.text, .sl 4 ((Ch.mk 2 ch.path Nd.dflt).node.parts.map Nd.av)] else [.lit (.int .i64 0), .lit (.slice none 0 0), .lit (.string ⟨#[]⟩), .lit (.slice none 0 0), .lit (.string ⟨#[]⟩), .lit (.slice none 0 0)]), .box b4 51 [.int ch.kind, .sl 1 (ch.path.map AV.int), .str ch.node.name, .sl 2 (ch.node.attrs.map dav), .str ch.node.text, .sl 4 (ch.node.parts.map Nd.av)], .box b14 51 [.int (Ch.mk 2 ch.path Nd.dflt).kind, .sl 1 ((Ch.mk 2 ch.path Nd.dflt).path.map AV.int), .str (Ch.mk 2 ch.path Nd.dflt).node.name, .sl 2 ((Ch.mk 2 ch.path Nd.dflt).node.attrs.map dav), .str (Ch.mk 2 ch.path Nd.dflt).node.text, .sl 4 ((Ch.mk 2 ch.path Nd.dflt).node.parts.map Nd.av)]]) 6 () (by kernel_rfl) (by kernel_rfl) rfl ?_
      refine DE.q (fun e c hk => (Ev.move (.t rfl))) rfl (fun _ _ => rfl) (by first | exact .inr (fun _ _ => rfl) | exact .inl (by kernel_rfl)) ?_
      first | refine DE.q (fun e c hk => (Ev.lden (.t rfl) ag51 ty51 rfl rfl)) rfl (fun _ _ => rfl) (by first | exact .inr (fun _ _ => rfl) | exact .inl (by kernel_rfl)) ?_ | refine DE.q (fun e c hk => (Ev.ldbn 0 (.t rfl) rfl ag51 ty51 rfl)) rfl (fun _ _ => rfl) (by first | exact .inr (fun _ _ => rfl) | exact .inl (by kernel_rfl)) ?_ | refine DE.q (fun e c hk => (Ev.ldbn 1 (.t rfl) rfl ag51 ty51 rfl)) rfl (fun _ _ => rfl) (by first | exact .inr (fun _ _ => rfl) | exact .inl (by kernel_rfl)) ?_ | refine DE.q (fun e c hk => (Ev.ldbn 2 (.t rfl) rfl ag51 ty51 rfl)) rfl (fun _ _ => rfl) (by first | exact .inr (fun _ _ => rfl) | exact .inl (by kernel_rfl)) ?_ | refine DE.q (fun e c hk => (Ev.ldbn 3 (.t rfl) rfl ag51 ty51 rfl)) rfl (fun _ _ => rfl) (by first | exact .inr (fun _ _ => rfl) | exact .inl (by kernel_rfl)) ?_ | refine DE.q (fun e c hk => (Ev.ldbn 4 (.t rfl) rfl ag51 ty51 rfl)) rfl (fun _ _ => rfl) (by first | exact .inr (fun _ _ => rfl) | exact .inl (by kernel_rfl)) ?_ | refine DE.q (fun e c hk => (Ev.ldbn 5 (.t rfl) rfl ag51 ty51 rfl)) rfl (fun _ _ => rfl) (by first | exact .inr (fun _ _ => rfl) | exact .inl (by kernel_rfl)) ?_
      refine DE.q (fun e c hk => (Ev.move (.t rfl))) rfl (fun _ _ => rfl) (by first | exact .inr (fun _ _ => rfl) | exact .inl (by kernel_rfl)) ?_
      refine DE.q (fun e c hk => (Ev.assign (.t rfl))) rfl (fun _ _ => rfl) (by first | exact .inr (fun _ _ => rfl) | exact .inl (by kernel_rfl)) ?_
      refine DE.eff0 (fun e c hk L_ hs Q h => ?_) ?_
      · have hk_4 := hk.not
        simp only [addE, hk_4, Nat.reduceAdd, Nat.reduceEqDiff, ↓reduceIte, cond_true, cond_false] at h ⊢
        first | (refine W.stb 0 (.t (hs _ _ rfl)) (.t (hs _ _ rfl)) rfl ty51 rfl rfl rfl ?_; exact h) | (refine W.stb 1 (.t (hs _ _ rfl)) (.t (hs _ _ rfl)) rfl ty51 rfl rfl rfl ?_; exact h) | (refine W.stb 2 (.t (hs _ _ rfl)) (.t (hs _ _ rfl)) rfl ty51 rfl rfl rfl ?_; exact h) | (refine W.stb 3 (.t (hs _ _ rfl)) (.t (hs _ _ rfl)) rfl ty51 rfl rfl rfl ?_; exact h) | (refine W.stb 4 (.t (hs _ _ rfl)) (.t (hs _ _ rfl)) rfl ty51 rfl rfl rfl ?_; exact h) | (refine W.stb 5 (.t (hs _ _ rfl)) (.t (hs _ _ rfl)) rfl ty51 rfl rfl rfl ?_; exact h)
      refine DE.q (fun e c hk => (Ev.assign (.t rfl))) rfl (fun _ _ => rfl) (by first | exact .inr (fun _ _ => rfl) | exact .inl (by kernel_rfl)) ?_
      refine DE.nil (fun c_ e_ he_ => ?_)
      simp only [he_ 4 (by decide), cond_true, cond_false]
      refine W.freezeA (M1 := [_, _, _, _]) (M2 := [_, _, _, _]) (D := []) (v := v55) (L' := [(6, true, .sl 4 ((Nd.insP l ((i : Int) :: r) ch.node).map Nd.av))]) (.refl _) ⟨⟨_, rfl, .one .hit⟩, trivial⟩ (FrzMs.refl _) ?_
      refine W.then ?_
      refine W.ret ?_
      refine W.then_ret ?_
      refine W.retn (M' := []) (D := _) (rs := [.tmp 6, .cell 7 51, .tmp 8]) (avs := [_, _, _]) Try.results17 ⟨rfl, ⟨_, _, _, rfl, by repeat (first | exact List.mem_cons_self | apply List.mem_cons_of_mem), rfl, by funext w; exact ag51.run w, by funext w; exact ty51.size w⟩, rfl, trivial⟩ rfl (.refl _) ?_
      first | exact ⟨rfl, rfl⟩ | (rw [hc]; exact ⟨rfl, rfl⟩)
    · have h58 := of_decide_eq_false hc_t58
      have hr0 : r = [] := List.eq_nil_of_length_eq_zero (by omega)
      subst hr0
      rw [if_pos rfl] at hset
      have hil : i ≤ l.length := by rcases hnx with ⟨_, h⟩ | ⟨h, _⟩; exact h; exact absurd rfl h
      have hfin : ((l.map Nd.av).take i ++ Nd.avx ch.node :: (l.map Nd.av).drop i) = (Nd.insP l [(i : Int)] ch.node).map Nd.av := by rw [hset]; simp only [List.map_append, List.map_cons, List.map_take, List.map_drop, Nd.av_eq]
      refine W.skip ?_
      refine W.then ?_
      refine W.seq ?_
      refine W.seq ?_
      refine W.region ?_
      first | refine W.q (Ev.fae (.t rfl) fa51_0 rfl) rfl ?_ | refine W.q (Ev.fab (.t rfl) fa51_0) rfl ?_ | refine W.q (Ev.faa (.t rfl) fa51_0) rfl ?_
      first | refine W.q (Ev.lde1 (.t rfl) ag3) rfl ?_ | refine W.q (Ev.ldb1 0 (.t rfl) rfl ag3 rfl) rfl ?_ | refine W.q (Ev.ldb1 1 (.t rfl) rfl ag3 rfl) rfl ?_ | refine W.q (Ev.ldb1 2 (.t rfl) rfl ag3 rfl) rfl ?_ | refine W.q (Ev.ldb1 3 (.t rfl) rfl ag3 rfl) rfl ?_ | refine W.q (Ev.ldb1 4 (.t rfl) rfl ag3 rfl) rfl ?_ | refine W.q (Ev.ldb1 5 (.t rfl) rfl ag3 rfl) rfl ?_
      refine W.nil ?_
      refine W.then ?_
      refine W.block ?_
      refine W.seq ?_
      refine W.region ?_
      refine W.q (Ev.eqi (.t rfl) .k) rfl ?_
      refine W.q (Ev.assign (.t rfl)) rfl ?_
      refine W.nil ?_
      refine W.then ?_
      refine W.is (t := 89) (g := true) (av' := .lit (.bool true)) rfl (congrArg (fun b => AV.lit (.bool b)) (by rw [hc]; rfl)) ?_
      refine W.condT (.t rfl) ?_
      refine W.seq ?_
      refine W.region ?_
      first | refine W.q (Ev.fae (.t rfl) fa51_0 rfl) rfl ?_ | refine W.q (Ev.fab (.t rfl) fa51_0) rfl ?_ | refine W.q (Ev.faa (.t rfl) fa51_0) rfl ?_
      first | refine W.stb 0 (.t rfl) .k rfl ty3 rfl rfl rfl ?_ | refine W.stb 1 (.t rfl) .k rfl ty3 rfl rfl rfl ?_ | refine W.stb 2 (.t rfl) .k rfl ty3 rfl rfl rfl ?_ | refine W.stb 3 (.t rfl) .k rfl ty3 rfl rfl rfl ?_ | refine W.stb 4 (.t rfl) .k rfl ty3 rfl rfl rfl ?_ | refine W.stb 5 (.t rfl) .k rfl ty3 rfl rfl rfl ?_
      refine W.nil ?_
      refine W.nilBox (A := [_]) (cs' := [.int (Ch.mk 2 ch.path Nd.dflt).kind, .sl 1 ((Ch.mk 2 ch.path Nd.dflt).path.map AV.int), .str (Ch.mk 2 ch.path Nd.dflt).node.name, .sl 2 ((Ch.mk 2 ch.path Nd.dflt).node.attrs.map dav), .str (Ch.mk 2 ch.path Nd.dflt).node.text, .sl 4 ((Ch.mk 2 ch.path Nd.dflt).node.parts.map Nd.av)]) rfl ⟨.inl rfl, .inl rfl, .inl rfl, .inr ⟨rfl, 2, rfl⟩, .inl rfl, .inr ⟨rfl, 4, rfl⟩, trivial⟩ ?_
      refine W.then ?_
      refine W.seq ?_
      refine W.drawnM (fun ee c_ => [bif ee 6 then ME.arr (c_ 6).2 42 4 ((l.map Nd.av).take i ++ Nd.avx ch.node :: (l.map Nd.av).drop i) else ME.arr v55 42 4 (l.map Nd.av), .box b9 51 [.int (Ch.mk 2 ch.path Nd.dflt).kind, .sl 1 ((Ch.mk 2 ch.path Nd.dflt).path.map AV.int), .str (Ch.mk 2 ch.path Nd.dflt).node.name, .sl 2 ((Ch.mk 2 ch.path Nd.dflt).node.attrs.map dav), .str (Ch.mk 2 ch.path Nd.dflt).node.text, .sl 4 ((Ch.mk 2 ch.path Nd.dflt).node.parts.map Nd.av)], .box b7 51 (bif ee 9 then [.int (Ch.mk 2 ch.path Nd.dflt).kind, .sl 1 ((Ch.mk 2 ch.path Nd.dflt).path.map AV.int), .str (Ch.mk 2 ch.path Nd.dflt).node.name, .sl 2 ((Ch.mk 2 ch.path Nd.dflt).node.attrs.map dav), .str (Ch.mk 2 ch.path Nd.dflt).node.text, .sl 4 ((Ch.mk 2 ch.path Nd.dflt).node.parts.map Nd.av)] else [.lit (.int .i64 0), .lit (.slice none 0 0), .lit (.string ⟨#[]⟩), .lit (.slice none 0 0), .lit (.string ⟨#[]⟩), .lit (.slice none 0 0)]), .box b4 51 [.int ch.kind, .sl 1 (ch.path.map AV.int), .str ch.node.name, .sl 2 (ch.node.attrs.map dav), .str ch.node.text, .sl 4 (ch.node.parts.map Nd.av)]] ++ (bif ee 6 then [] else bif ee 5 then [ME.box (c_ 5).1 42 [.str ch.node.name, .sl 2 (ch.node.attrs.map dav), .str ch.node.text, .sl 4 (ch.node.parts.map Nd.av)]] else [])) (c0 := ks0) (by kernel_rfl) (by kernel_rfl) rfl ?_
      have hoa : ∀ e ∈ l.map Nd.av, e.okc = true := fun e he => (Nd.okc_avs l e he).1
      have hmb : (l.map Nd.av).length + 1 ≤ 1099511627776 := by rw [hll]; omega
      refine DM.q (fun e c hk => (Ev.move (.t rfl))) rfl (fun _ _ => rfl) (fun c c_ h => by first | rfl) ?_
      refine DM.q (fun e c hk => (Ev.move (.t rfl))) rfl (fun _ _ => rfl) (fun c c_ h => by first | rfl) ?_
      first | refine DM.q (fun e c hk => (Ev.fae (.t rfl) fa51_2 rfl)) rfl (fun _ _ => rfl) (fun c c_ h => by first | rfl) ?_ | refine DM.q (fun e c hk => (Ev.fab (.t rfl) fa51_2)) rfl (fun _ _ => rfl) (fun c c_ h => by first | rfl) ?_ | refine DM.q (fun e c hk => (Ev.faa (.t rfl) fa51_2)) rfl (fun _ _ => rfl) (fun c c_ h => by first | rfl) ?_
      first | refine DM.q (fun e c hk => (Ev.lden (.t rfl) ag42 ty42 rfl rfl)) rfl (fun _ _ => rfl) (fun c c_ h => by first | rfl) ?_ | refine DM.q (fun e c hk => (Ev.ldbn 0 (.t rfl) rfl ag42 ty42 rfl)) rfl (fun _ _ => rfl) (fun c c_ h => by first | rfl) ?_ | refine DM.q (fun e c hk => (Ev.ldbn 1 (.t rfl) rfl ag42 ty42 rfl)) rfl (fun _ _ => rfl) (fun c c_ h => by first | rfl) ?_ | refine DM.q (fun e c hk => (Ev.ldbn 2 (.t rfl) rfl ag42 ty42 rfl)) rfl (fun _ _ => rfl) (fun c c_ h => by first | rfl) ?_ | refine DM.q (fun e c hk => (Ev.ldbn 3 (.t rfl) rfl ag42 ty42 rfl)) rfl (fun _ _ => rfl) (fun c c_ h => by first | rfl) ?_ | refine DM.q (fun e c hk => (Ev.ldbn 4 (.t rfl) rfl ag42 ty42 rfl)) rfl (fun _ _ => rfl) (fun c c_ h => by first | rfl) ?_ | refine DM.q (fun e c hk => (Ev.ldbn 5 (.t rfl) rfl ag42 ty42 rfl)) rfl (fun _ _ => rfl) (fun c c_ h => by first | rfl) ?_
      refine DM.callp (fun c => WCopies.c_Copy ch.node (by omega)) (fun c => ⟨(.t rfl), trivial⟩) rfl (fun _ _ => rfl) (fun c c_ h => by first | rfl) ?_
      refine DM.eff1 (av := fun c => .lit (.slice (some ⟨(c 5).1, 0, none⟩) 1 1)) rfl (fun c c_ h => by first | rfl | simp only [h 5 (by first | exact .inl rfl | exact .inr (by kernel_rfl))]) (fun e c hk L_ hs Q h => ?_) ?_
      · have hk_5 := hk.not
        have hk_6 := hk.down 6 (by kernel_rfl)
        have hk_9 := hk.down 9 (by kernel_rfl)
        simp only [addE, upd, eq_self, List.nil_append, List.cons_append, List.append_nil, hk_5, hk_6, hk_9, Nat.reduceAdd, Nat.reduceEqDiff, ↓reduceIte, cond_true, cond_false] at h ⊢
        refine W.bsbox Try.underlying24 ty42 ⟨rfl, (.t (hs _ _ rfl)), rfl, rfl, trivial⟩ (by decide) rfl rfl rfl rfl (fun b => ?_)
        exact h (b, undef) _ (by first | exact .refl _ | exact (List.perm_middle (l₁ := [_])).symm | exact (List.perm_middle (l₁ := [_, _])).symm | exact (List.perm_middle (l₁ := [_, _, _])).symm | exact (List.perm_middle (l₁ := [_, _, _, _])).symm | exact (List.perm_middle (l₁ := [_, _, _, _, _])).symm | exact (List.perm_middle (l₁ := [_, _, _, _, _, _])).symm | exact (List.perm_middle (l₁ := [_, _, _, _, _, _, _])).symm | exact (List.perm_middle (l₁ := [_, _, _, _, _, _, _, _])).symm)
      refine DM.eff1 (av := fun c => .lit (c 6).2) rfl (fun c c_ h => by first | rfl | simp only [h 5 (by first | exact .inl rfl | exact .inr (by kernel_rfl)), h 6 (by first | exact .inl rfl | exact .inr (by kernel_rfl))]) (fun e c hk L_ hs Q h => ?_) ?_
      · have hk_6 := hk.not
        have hk_5 := hk.up 5 (by kernel_rfl)
        have hk_9 := hk.down 9 (by kernel_rfl)
        simp only [addE, upd, eq_self, List.nil_append, List.cons_append, List.append_nil, hk_6, hk_5, hk_9, Nat.reduceAdd, Nat.reduceEqDiff, ↓reduceIte, cond_true, cond_false] at h ⊢
        refine W.call (WInsBox.c_InsertBox (l.map Nd.av) (Nd.avx ch.node) _ v55 _ i rfl rfl rfl hoa hmb (by omega)) ⟨(.t (hs _ _ rfl)), (.t (hs _ _ rfl)), (.t (hs _ _ rfl)), trivial⟩ (List.Perm.cons _ (List.perm_append_comm (l₁ := [_, _, _]) (l₂ := [_]))) rfl ?_
        rintro _ _ ⟨v98, rfl, rfl⟩
        exact h (0, v98) _ (.refl _)
      first | refine DM.q (fun e c hk => (Ev.lden (.t rfl) ag51 ty51 rfl rfl)) rfl (fun _ _ => rfl) (fun c c_ h => by first | rfl) ?_ | refine DM.q (fun e c hk => (Ev.ldbn 0 (.t rfl) rfl ag51 ty51 rfl)) rfl (fun _ _ => rfl) (fun c c_ h => by first | rfl) ?_ | refine DM.q (fun e c hk => (Ev.ldbn 1 (.t rfl) rfl ag51 ty51 rfl)) rfl (fun _ _ => rfl) (fun c c_ h => by first | rfl) ?_ | refine DM.q (fun e c hk => (Ev.ldbn 2 (.t rfl) rfl ag51 ty51 rfl)) rfl (fun _ _ => rfl) (fun c c_ h => by first | rfl) ?_ | refine DM.q (fun e c hk => (Ev.ldbn 3 (.t rfl) rfl ag51 ty51 rfl)) rfl (fun _ _ => rfl) (fun c c_ h => by first | rfl) ?_ | refine DM.q (fun e c hk => (Ev.ldbn 4 (.t rfl) rfl ag51 ty51 rfl)) rfl (fun _ _ => rfl) (fun c c_ h => by first | rfl) ?_ | refine DM.q (fun e c hk => (Ev.ldbn 5 (.t rfl) rfl ag51 ty51 rfl)) rfl (fun _ _ => rfl) (fun c c_ h => by first | rfl) ?_
      refine DM.q (fun e c hk => (Ev.assign (.t rfl))) rfl (fun _ _ => rfl) (fun c c_ h => by first | rfl | simp only [h 5 (by first | exact .inl rfl | exact .inr (by kernel_rfl)), h 6 (by first | exact .inl rfl | exact .inr (by kernel_rfl))]) ?_
      refine DM.eff0 (fun e c hk L_ hs Q h => ?_) ?_
      · have hk_9 := hk.not
        have hk_5 := hk.up 5 (by kernel_rfl)
        have hk_6 := hk.up 6 (by kernel_rfl)
        simp only [addE, upd, eq_self, List.nil_append, List.cons_append, List.append_nil, hk_9, hk_5, hk_6, Nat.reduceAdd, Nat.reduceEqDiff, ↓reduceIte, cond_true, cond_false] at h ⊢
        first | (refine W.stb 0 (.t (hs _ _ rfl)) (.t (hs _ _ rfl)) rfl ty51 rfl rfl rfl ?_; exact h) | (refine W.stb 1 (.t (hs _ _ rfl)) (.t (hs _ _ rfl)) rfl ty51 rfl rfl rfl ?_; exact h) | (refine W.stb 2 (.t (hs _ _ rfl)) (.t (hs _ _ rfl)) rfl ty51 rfl rfl rfl ?_; exact h) | (refine W.stb 3 (.t (hs _ _ rfl)) (.t (hs _ _ rfl)) rfl ty51 rfl rfl rfl ?_; exact h) | (refine W.stb 4 (.t (hs _ _ rfl)) (.t (hs _ _ rfl)) rfl ty51 rfl rfl rfl ?_; exact h) | (refine W.stb 5 (.t (hs _ _ rfl)) (.t (hs _ _ rfl)) rfl ty51 rfl rfl rfl ?_; exact h)
      refine DM.q (fun e c hk => (Ev.assign .k)) rfl (fun _ _ => rfl) (fun c c_ h => by first | rfl | simp only [h 5 (by first | exact .inl rfl | exact .inr (by kernel_rfl)), h 6 (by first | exact .inl rfl | exact .inr (by kernel_rfl))]) ?_
      refine DM.nil (fun cc e_ he_ => ?_)
      simp only [he_ 5 (by decide), he_ 6 (by decide), he_ 9 (by decide), cond_true, cond_false]
      generalize (cc 6).2 = v98
      rw [hfin]
      refine W.freezeA (M1 := [_, _, _]) (M2 := [_, _, _]) (D := []) (v := v98) (L' := [(6, true, .sl 4 ((Nd.insP l [(i : Int)] ch.node).map Nd.av))]) (.refl _) ⟨⟨_, rfl, .one .hit⟩, trivial⟩ (FrzMs.refl _) ?_
      refine W.then ?_
      refine W.ret ?_
      refine W.blk_ret ?_
      refine W.then_ret ?_
      refine W.retn (M' := []) (D := _) (rs := [.tmp 6, .cell 7 51, .tmp 8]) (avs := [_, _, _]) Try.results17 ⟨rfl, ⟨_, _, _, rfl, by repeat (first | exact List.mem_cons_self | apply List.mem_cons_of_mem), rfl, by funext w; exact ag51.run w, by funext w; exact ty51.size w⟩, rfl, trivial⟩ rfl (.refl _) ?_
      first | exact ⟨rfl, rfl⟩ | (rw [hc]; exact ⟨rfl, rfl⟩)
  · have h31 : r ≠ [] := by
      rintro rfl
      simp [hc] at hc_t31
    have h49 : i < l.length := by rcases hnx with ⟨h, _⟩ | ⟨_, h, _⟩; exact absurd h h31; exact h
    refine W.skip ?_
    refine W.then ?_
    refine W.seq ?_
    refine W.seq ?_
    refine W.region ?_
    refine W.q (Ev.move (.t rfl)) rfl ?_
    first | refine W.q (Ev.lensl (.t rfl) Try.underlying22) rfl ?_ | refine W.q (Ev.lenar (i := 0) (.t rfl) rfl Try.underlying22) rfl ?_ | refine W.q (Ev.lenar (i := 1) (.t rfl) rfl Try.underlying22) rfl ?_ | refine W.q (Ev.lenar (i := 2) (.t rfl) rfl Try.underlying22) rfl ?_ | refine W.q (Ev.lenar (i := 3) (.t rfl) rfl Try.underlying22) rfl ?_ | refine W.q (Ev.lenar (i := 4) (.t rfl) rfl Try.underlying22) rfl ?_ | refine W.q (Ev.lenar (i := 5) (.t rfl) rfl Try.underlying22) rfl ?_
    refine W.q (Ev.eqi (.t rfl) .k) rfl ?_
    refine W.q (Ev.move (.t rfl)) rfl ?_
    refine W.qgF rfl rfl (Ev.move (.t rfl)) rfl ?_
    refine W.qgF rfl rfl (Ev.at (E := 3) (.c rfl) .k Try.underlying22 ty3 (fun _ => ⟨by omega, hgp⟩) rfl rfl) rfl ?_
    first | refine W.qgF rfl rfl (Ev.lde1 (.c rfl) ag3) rfl ?_ | refine W.qgF rfl rfl (Ev.ldb1 0 (.c rfl) rfl ag3 rfl) rfl ?_ | refine W.qgF rfl rfl (Ev.ldb1 1 (.c rfl) rfl ag3 rfl) rfl ?_ | refine W.qgF rfl rfl (Ev.ldb1 2 (.c rfl) rfl ag3 rfl) rfl ?_ | refine W.qgF rfl rfl (Ev.ldb1 3 (.c rfl) rfl ag3 rfl) rfl ?_ | refine W.qgF rfl rfl (Ev.ldb1 4 (.c rfl) rfl ag3 rfl) rfl ?_ | refine W.qgF rfl rfl (Ev.ldb1 5 (.c rfl) rfl ag3 rfl) rfl ?_
    refine W.qgF rfl rfl (Ev.lti (.c rfl) .k) rfl ?_
    refine W.q (Ev.or (.t rfl) ⟨_, _, rfl, rfl, by first | (simp; done) | (intro hg_ hp_; simp [hp_]; done) | (simp <;> omega; done) | (simp_all; done) | grind⟩) rfl ?_
    refine W.q (Ev.move (.t rfl)) rfl ?_
    refine W.qgF rfl rfl (Ev.move (.t rfl)) rfl ?_
    refine W.qgF rfl rfl (Ev.at (E := 3) (.c rfl) .k Try.underlying22 ty3 (fun _ => ⟨by omega, hgp⟩) rfl rfl) rfl ?_
    first | refine W.qgF rfl rfl (Ev.lde1 (.c rfl) ag3) rfl ?_ | refine W.qgF rfl rfl (Ev.ldb1 0 (.c rfl) rfl ag3 rfl) rfl ?_ | refine W.qgF rfl rfl (Ev.ldb1 1 (.c rfl) rfl ag3 rfl) rfl ?_ | refine W.qgF rfl rfl (Ev.ldb1 2 (.c rfl) rfl ag3 rfl) rfl ?_ | refine W.qgF rfl rfl (Ev.ldb1 3 (.c rfl) rfl ag3 rfl) rfl ?_ | refine W.qgF rfl rfl (Ev.ldb1 4 (.c rfl) rfl ag3 rfl) rfl ?_ | refine W.qgF rfl rfl (Ev.ldb1 5 (.c rfl) rfl ag3 rfl) rfl ?_
    refine W.qgF rfl rfl (Ev.move (.t rfl)) rfl ?_
    refine W.qgF rfl rfl (Ev.gei (.c rfl) (.c rfl)) rfl ?_
    refine W.q (Ev.or (.t rfl) ⟨_, _, rfl, rfl, by first | (simp; done) | (intro hg_ hp_; simp [hp_]; done) | (simp <;> omega; done) | (simp_all; done) | grind⟩) rfl ?_
    refine W.nil ?_
    refine W.then ?_
    refine W.is (t := 49) (g := true) (av' := .lit (.bool false)) rfl (congrArg (fun b => AV.lit (.bool b)) (by simp; omega)) ?_
    refine W.condF (.t rfl) ?_
    refine W.skip ?_
    refine W.then ?_
    refine W.seq ?_
    refine W.region ?_
    refine W.q (Ev.move (.t rfl)) rfl ?_
    refine W.q (Ev.at (E := 3) (.t rfl) .k Try.underlying22 ty3 (fun _ => ⟨by omega, hgp⟩) rfl rfl) rfl ?_
    first | refine W.q (Ev.lde1 (.t rfl) ag3) rfl ?_ | refine W.q (Ev.ldb1 0 (.t rfl) rfl ag3 rfl) rfl ?_ | refine W.q (Ev.ldb1 1 (.t rfl) rfl ag3 rfl) rfl ?_ | refine W.q (Ev.ldb1 2 (.t rfl) rfl ag3 rfl) rfl ?_ | refine W.q (Ev.ldb1 3 (.t rfl) rfl ag3 rfl) rfl ?_ | refine W.q (Ev.ldb1 4 (.t rfl) rfl ag3 rfl) rfl ?_ | refine W.q (Ev.ldb1 5 (.t rfl) rfl ag3 rfl) rfl ?_
    refine W.q (Ev.assign (.t rfl)) rfl ?_
    refine W.nil ?_
    refine W.then ?_
    refine W.seq ?_
    refine W.region ?_
    refine W.q (Ev.move (.t rfl)) rfl ?_
    refine W.call (WClone.c_CloneNode (l.map Nd.av) (fun e he => (Nd.okc_avs l e he).1) (by omega)) ⟨(.t rfl), trivial⟩ (.refl _) rfl ?_
    rintro _ _ ⟨v55, rfl, rfl⟩
    refine W.q (Ev.assign (.t rfl)) rfl ?_
    refine W.nil ?_
    refine W.then ?_
    refine W.seq ?_
    refine W.seq ?_
    refine W.region ?_
    refine W.q (Ev.move (.t rfl)) rfl ?_
    first | refine W.q (Ev.lensl (.t rfl) Try.underlying22) rfl ?_ | refine W.q (Ev.lenar (i := 0) (.t rfl) rfl Try.underlying22) rfl ?_ | refine W.q (Ev.lenar (i := 1) (.t rfl) rfl Try.underlying22) rfl ?_ | refine W.q (Ev.lenar (i := 2) (.t rfl) rfl Try.underlying22) rfl ?_ | refine W.q (Ev.lenar (i := 3) (.t rfl) rfl Try.underlying22) rfl ?_ | refine W.q (Ev.lenar (i := 4) (.t rfl) rfl Try.underlying22) rfl ?_ | refine W.q (Ev.lenar (i := 5) (.t rfl) rfl Try.underlying22) rfl ?_
    refine W.q (Ev.gti (.t rfl) .k) rfl ?_
    refine W.nil ?_
    refine W.then ?_
    refine W.cond (.t rfl) (fun hc_t58 => ?_) (fun hc_t58 => ?_)
    · have h58 := of_decide_eq_true hc_t58
      have hr0 : r ≠ [] := by rintro rfl; simp at h58
      rw [if_neg hr0] at hset
      obtain ⟨hlt, hnm, hnx⟩ : i < l.length ∧ e.name ≠ [] ∧ Nd.plP e.parts r := by rcases hnx with ⟨h, _⟩ | ⟨_, h⟩; exact absurd h hr0; exact h
      have hga := hga0 hlt
      have hsz := hsz0 hlt
      refine W.seq ?_
      refine W.seq ?_
      refine W.region ?_
      refine W.q (Ev.move (.t rfl)) rfl ?_
      refine W.q (Ev.move (.t rfl)) rfl ?_
      refine W.q (Ev.at (E := 42) (.t rfl) (.t rfl) Try.underlying24 ty42 (fun _ => ⟨by omega, hga⟩) rfl rfl) rfl ?_
      first | refine W.q (Ev.fae (.t rfl) fa42_0 rfl) rfl ?_ | refine W.q (Ev.fab (.t rfl) fa42_0) rfl ?_ | refine W.q (Ev.faa (.t rfl) fa42_0) rfl ?_
      first | refine W.q (Ev.lde1 (.t rfl) ag9) rfl ?_ | refine W.q (Ev.ldb1 0 (.t rfl) rfl ag9 rfl) rfl ?_ | refine W.q (Ev.ldb1 1 (.t rfl) rfl ag9 rfl) rfl ?_ | refine W.q (Ev.ldb1 2 (.t rfl) rfl ag9 rfl) rfl ?_ | refine W.q (Ev.ldb1 3 (.t rfl) rfl ag9 rfl) rfl ?_ | refine W.q (Ev.ldb1 4 (.t rfl) rfl ag9 rfl) rfl ?_ | refine W.q (Ev.ldb1 5 (.t rfl) rfl ag9 rfl) rfl ?_
      refine W.q (Ev.eqs (.t rfl) .k) rfl ?_
      refine W.nil ?_
      refine W.then ?_
      refine W.is (t := 64) (g := true) (av' := .lit (.bool false)) rfl (congrArg (fun b => AV.lit (.bool b)) (by simpa using hnm)) ?_
      refine W.condF (.t rfl) ?_
      refine W.skip ?_
      refine W.then ?_
      refine W.seq ?_
      refine W.drawnM (fun ee c_ => [.arr v55 42 4 (l.map Nd.av), .box b9 51 [.int ch.kind, .sl 1 (ch.path.map AV.int), .lit (.string ⟨#[]⟩), .lit (.slice none 0 0), .lit (.string ⟨#[]⟩), .lit (.slice none 0 0)], .box b7 51 [.lit (.int .i64 0), .lit (.slice none 0 0), .lit (.string ⟨#[]⟩), .lit (.slice none 0 0), .lit (.string ⟨#[]⟩), .lit (.slice none 0 0)], .box b4 51 [.int ch.kind, .sl 1 (ch.path.map AV.int), .str ch.node.name, .sl 2 (ch.node.attrs.map dav), .str ch.node.text, .sl 4 (ch.node.parts.map Nd.av)]] ++ (bif ee 13 then [ME.box (c_ 13).1 51 (bif ee 15 then [.int (Ch.mk 2 ch.path Nd.dflt).kind, .sl 1 ((Ch.mk 2 ch.path Nd.dflt).path.map AV.int), .str (Ch.mk 2 ch.path Nd.dflt).node.name, .sl 2 ((Ch.mk 2 ch.path Nd.dflt).node.attrs.map dav), .str (Ch.mk 2 ch.path Nd.dflt).node.text, .sl 4 ((Ch.mk 2 ch.path Nd.dflt).node.parts.map Nd.av)] else [.lit (.int .i64 0), .lit (.slice none 0 0), .lit (.string ⟨#[]⟩), .lit (.slice none 0 0), .lit (.string ⟨#[]⟩), .lit (.slice none 0 0)])] else [])) (c0 := ks0) (by kernel_rfl) (by kernel_rfl) rfl ?_
      refine DM.q (fun e c hk => (Ev.move (.t rfl))) rfl (fun _ _ => rfl) (fun c c_ h => by first | rfl) ?_
      refine DM.q (fun e c hk => (Ev.move (.t rfl))) rfl (fun _ _ => rfl) (fun c c_ h => by first | rfl) ?_
      refine DM.q (fun e c hk => Ev.at (E := 42) (.t rfl) (.t rfl) Try.underlying24 ty42 (fun _ => ⟨by omega, hga⟩) rfl rfl) rfl (fun _ _ => rfl) (fun c c_ h => rfl) ?_
      first | refine DM.q (fun e c hk => (Ev.fae (.t rfl) fa42_3 rfl)) rfl (fun _ _ => rfl) (fun c c_ h => by first | rfl) ?_ | refine DM.q (fun e c hk => (Ev.fab (.t rfl) fa42_3)) rfl (fun _ _ => rfl) (fun c c_ h => by first | rfl) ?_ | refine DM.q (fun e c hk => (Ev.faa (.t rfl) fa42_3)) rfl (fun _ _ => rfl) (fun c c_ h => by first | rfl) ?_
      first | refine DM.q (fun e c hk => (Ev.lde1 (.t rfl) ag24)) rfl (fun _ _ => rfl) (fun c c_ h => by first | rfl) ?_ | refine DM.q (fun e c hk => (Ev.ldb1 0 (.t rfl) rfl ag24 rfl)) rfl (fun _ _ => rfl) (fun c c_ h => by first | rfl) ?_ | refine DM.q (fun e c hk => (Ev.ldb1 1 (.t rfl) rfl ag24 rfl)) rfl (fun _ _ => rfl) (fun c c_ h => by first | rfl) ?_ | refine DM.q (fun e c hk => (Ev.ldb1 2 (.t rfl) rfl ag24 rfl)) rfl (fun _ _ => rfl) (fun c c_ h => by first | rfl) ?_ | refine DM.q (fun e c hk => (Ev.ldb1 3 (.t rfl) rfl ag24 rfl)) rfl (fun _ _ => rfl) (fun c c_ h => by first | rfl) ?_ | refine DM.q (fun e c hk => (Ev.ldb1 4 (.t rfl) rfl ag24 rfl)) rfl (fun _ _ => rfl) (fun c c_ h => by first | rfl) ?_ | refine DM.q (fun e c hk => (Ev.ldb1 5 (.t rfl) rfl ag24 rfl)) rfl (fun _ _ => rfl) (fun c c_ h => by first | rfl) ?_
      first | refine DM.q (fun e c hk => (Ev.lden (.t rfl) ag51 ty51 rfl rfl)) rfl (fun _ _ => rfl) (fun c c_ h => by first | rfl) ?_ | refine DM.q (fun e c hk => (Ev.ldbn 0 (.t rfl) rfl ag51 ty51 rfl)) rfl (fun _ _ => rfl) (fun c c_ h => by first | rfl) ?_ | refine DM.q (fun e c hk => (Ev.ldbn 1 (.t rfl) rfl ag51 ty51 rfl)) rfl (fun _ _ => rfl) (fun c c_ h => by first | rfl) ?_ | refine DM.q (fun e c hk => (Ev.ldbn 2 (.t rfl) rfl ag51 ty51 rfl)) rfl (fun _ _ => rfl) (fun c c_ h => by first | rfl) ?_ | refine DM.q (fun e c hk => (Ev.ldbn 3 (.t rfl) rfl ag51 ty51 rfl)) rfl (fun _ _ => rfl) (fun c c_ h => by first | rfl) ?_ | refine DM.q (fun e c hk => (Ev.ldbn 4 (.t rfl) rfl ag51 ty51 rfl)) rfl (fun _ _ => rfl) (fun c c_ h => by first | rfl) ?_ | refine DM.q (fun e c hk => (Ev.ldbn 5 (.t rfl) rfl ag51 ty51 rfl)) rfl (fun _ _ => rfl) (fun c c_ h => by first | rfl) ?_
      refine DM.q (fun e c hk => (Ev.move (.t rfl))) rfl (fun _ _ => rfl) (fun c c_ h => by first | rfl) ?_
      refine DM.q (fun e c hk => Ev.dropsl (n := 1) (f := AV.int) (l := (i : Int) :: r) (.t rfl) Try.underlying22 ty3 .k rfl (fun _ => by simp)) rfl (fun _ _ => rfl) (fun c c_ h => rfl) ?_
      refine DM.callp (fun c => ih r (by simp) e.parts (by omega) hnx) (fun c => ⟨(.t rfl), (.t rfl), (.t rfl), trivial⟩) rfl (fun _ _ => rfl) (fun c c_ h => by first | rfl) ?_
      refine DM.q (fun e c hk => (Ev.move (.t rfl))) rfl (fun _ _ => rfl) (fun c c_ h => by first | rfl) ?_
      refine DM.q (fun e c hk => (Ev.extract (.t rfl) rfl)) rfl (fun _ _ => rfl) (fun c c_ h => by first | rfl) ?_
      refine DM.q (fun e c hk => (Ev.extract (.t rfl) rfl)) rfl (fun _ _ => rfl) (fun c c_ h => by first | rfl) ?_
      refine DM.q (fun e c hk => (Ev.extract (.t rfl) rfl)) rfl (fun _ _ => rfl) (fun c c_ h => by first | rfl) ?_
      refine DM.eff1 (av := fun c => .lit (.pointer (some ⟨(c 13).1, 0, none⟩))) rfl (fun c c_ h => by first | rfl | simp only [h 13 (by first | exact .inl rfl | exact .inr (by kernel_rfl))]) (fun e c hk L_ hs Q h => ?_) ?_
      · have hk_13 := hk.not
        have hk_15 := hk.down 15 (by kernel_rfl)
        simp only [addE, upd, eq_self, List.nil_append, List.cons_append, List.append_nil, hk_13, hk_15, Nat.reduceAdd, Nat.reduceEqDiff, ↓reduceIte, cond_true, cond_false] at h ⊢
        exact W.alloc ty51 rfl rfl (fun b => h (b, undef) _ (by first | exact .refl _ | exact (List.perm_middle (l₁ := [_])).symm | exact (List.perm_middle (l₁ := [_, _])).symm | exact (List.perm_middle (l₁ := [_, _, _])).symm | exact (List.perm_middle (l₁ := [_, _, _, _])).symm | exact (List.perm_middle (l₁ := [_, _, _, _, _])).symm | exact (List.perm_middle (l₁ := [_, _, _, _, _, _])).symm | exact (List.perm_middle (l₁ := [_, _, _, _, _, _, _])).symm | exact (List.perm_middle (l₁ := [_, _, _, _, _, _, _, _])).symm))
      refine DM.q (fun e c hk => (Ev.assign (.t rfl))) rfl (fun _ _ => rfl) (fun c c_ h => by first | rfl | simp only [h 13 (by first | exact .inl rfl | exact .inr (by kernel_rfl))]) ?_
      refine DM.eff0 (fun e c hk L_ hs Q h => ?_) ?_
      · have hk_15 := hk.not
        have hk_13 := hk.up 13 (by kernel_rfl)
        simp only [addE, upd, eq_self, List.nil_append, List.cons_append, List.append_nil, hk_15, hk_13, Nat.reduceAdd, Nat.reduceEqDiff, ↓reduceIte, cond_true, cond_false] at h ⊢
        first | (refine W.stb 0 (.t (hs _ _ rfl)) (.t (hs _ _ rfl)) rfl ty51 rfl rfl rfl ?_; exact h) | (refine W.stb 1 (.t (hs _ _ rfl)) (.t (hs _ _ rfl)) rfl ty51 rfl rfl rfl ?_; exact h) | (refine W.stb 2 (.t (hs _ _ rfl)) (.t (hs _ _ rfl)) rfl ty51 rfl rfl rfl ?_; exact h) | (refine W.stb 3 (.t (hs _ _ rfl)) (.t (hs _ _ rfl)) rfl ty51 rfl rfl rfl ?_; exact h) | (refine W.stb 4 (.t (hs _ _ rfl)) (.t (hs _ _ rfl)) rfl ty51 rfl rfl rfl ?_; exact h) | (refine W.stb 5 (.t (hs _ _ rfl)) (.t (hs _ _ rfl)) rfl ty51 rfl rfl rfl ?_; exact h)
      refine DM.q (fun e c hk => (Ev.assign (.t rfl))) rfl (fun _ _ => rfl) (fun c c_ h => by first | rfl | simp only [h 13 (by first | exact .inl rfl | exact .inr (by kernel_rfl))]) ?_
      refine DM.nil (fun cc e_ he_ => ?_)
      simp only [he_ 13 (by decide), he_ 15 (by decide), cond_true, cond_false]
      generalize (cc 13).1 = b14
      refine W.perm (List.perm_append_comm (l₂ := [_])) ?_
      refine W.then ?_
      refine W.seq ?_
      refine W.region ?_
      refine W.q (Ev.move (.t rfl)) rfl ?_
      refine W.q (Ev.move (.t rfl)) rfl ?_
      refine W.q (Ev.move (.t rfl)) rfl ?_
      refine W.q (Ev.ata 1 (.t rfl) rfl (.t rfl) Try.underlying24 ty42 (fun _ => by omega)) rfl ?_
      first | refine W.q (Ev.fae (.t rfl) fa42_3 rfl) rfl ?_ | refine W.q (Ev.fab (.t rfl) fa42_3) rfl ?_ | refine W.q (Ev.faa (.t rfl) fa42_3) rfl ?_
      refine W.sta 1 i 3 (e := Nd.avx e) (e' := Nd.avx (Nd.withP e (Nd.insP e.parts r ch.node))) (.t rfl) (.t rfl) rfl hga (by omega) ty24 rfl rfl rfl rfl rfl rfl rfl ?_
      refine W.nil ?_
      rw [show (l.map Nd.av).set i (Nd.avx (Nd.withP e (Nd.insP e.parts r ch.node))) = (Nd.insP l ((i : Int) :: r) ch.node).map Nd.av from by rw [hset, List.map_set, Nd.av_eq]]
      refine W.perm (List.perm_append_comm (l₁ := [_])) ?_
      refine W.then ?_
      refine W.seq ?_
      refine W.drawnE (ι := Unit) (fun ee c_ => [.arr v55 42 4 ((Nd.insP l ((i : Int) :: r) ch.node).map Nd.av), .box b9 51 [.int ch.kind, .sl 1 (ch.path.map AV.int), .lit (.string ⟨#[]⟩), .lit (.slice none 0 0), .lit (.string ⟨#[]⟩), .lit (.slice none 0 0)], .box b7 51 (bif ee 4 then [.int (Ch.mk 2 ch.path Nd.dflt).kind, .sl 1 ((Ch.mk 2 ch.path Nd.dflt).path.map AV.int), .str (Ch.mk 2 ch.path Nd.dflt).node.name, .sl 2 ((Ch.mk 2 ch.path Nd.dflt).node.attrs.map dav), .str (Ch.mk 2 ch.path Nd.dflt).node.text, .sl 4 ((Ch.mk 2 ch.path Nd.dflt).node.parts.map Nd.av)] else [.lit (.int .i64 0), .lit (.slice none 0 0), .lit (.string ⟨#[]⟩), .lit (.slice none 0 0), .lit (.string ⟨#[]⟩), .lit (.slice none 0 0)]), .box b4 51 [.int ch.kind, .sl 1 (ch.path.map AV.int), .str ch.node.name, .sl 2 (ch.node.attrs.map dav), .str ch.node.text, .sl 4 (ch.node.parts.map Nd.av)], .box b14 51 [.int (Ch.mk 2 ch.path Nd.dflt).kind, .sl 1 ((Ch.mk 2 ch.path Nd.dflt).path.map AV.int), .str (Ch.mk 2 ch.path Nd.dflt).node.name, .sl 2 ((Ch.mk 2 ch.path Nd.dflt).node.attrs.map dav), .str (Ch.mk 2 ch.path Nd.dflt).node.text, .sl 4 ((Ch.mk 2 ch.path Nd.dflt).node.parts.map Nd.av)]]) 6 () (by kernel_rfl) (by kernel_rfl) rfl ?_
      refine DE.q (fun e c hk => (Ev.move (.t rfl))) rfl (fun _ _ => rfl) (by first | exact .inr (fun _ _ => rfl) | exact .inl (by kernel_rfl)) ?_
      first | refine DE.q (fun e c hk => (Ev.lden (.t rfl) ag51 ty51 rfl rfl)) rfl (fun _ _ => rfl) (by first | exact .inr (fun _ _ => rfl) | exact .inl (by kernel_rfl)) ?_ | refine DE.q (fun e c hk => (Ev.ldbn 0 (.t rfl) rfl ag51 ty51 rfl)) rfl (fun _ _ => rfl) (by first | exact .inr (fun _ _ => rfl) | exact .inl (by kernel_rfl)) ?_ | refine DE.q (fun e c hk => (Ev.ldbn 1 (.t rfl) rfl ag51 ty51 rfl)) rfl (fun _ _ => rfl) (by first | exact .inr (fun _ _ => rfl) | exact .inl (by kernel_rfl)) ?_ | refine DE.q (fun e c hk => (Ev.ldbn 2 (.t rfl) rfl ag51 ty51 rfl)) rfl (fun _ _ => rfl) (by first | exact .inr (fun _ _ => rfl) | exact .inl (by kernel_rfl)) ?_ | refine DE.q (fun e c hk => (Ev.ldbn 3 (.t rfl) rfl ag51 ty51 rfl)) rfl (fun _ _ => rfl) (by first | exact .inr (fun _ _ => rfl) | exact .inl (by kernel_rfl)) ?_ | refine DE.q (fun e c hk => (Ev.ldbn 4 (.t rfl) rfl ag51 ty51 rfl)) rfl (fun _ _ => rfl) (by first | exact .inr (fun _ _ => rfl) | exact .inl (by kernel_rfl)) ?_ | refine DE.q (fun e c hk => (Ev.ldbn 5 (.t rfl) rfl ag51 ty51 rfl)) rfl (fun _ _ => rfl) (by first | exact .inr (fun _ _ => rfl) | exact .inl (by kernel_rfl)) ?_
      refine DE.q (fun e c hk => (Ev.move (.t rfl))) rfl (fun _ _ => rfl) (by first | exact .inr (fun _ _ => rfl) | exact .inl (by kernel_rfl)) ?_
      refine DE.q (fun e c hk => (Ev.assign (.t rfl))) rfl (fun _ _ => rfl) (by first | exact .inr (fun _ _ => rfl) | exact .inl (by kernel_rfl)) ?_
      refine DE.eff0 (fun e c hk L_ hs Q h => ?_) ?_
      · have hk_4 := hk.not
        simp only [addE, hk_4, Nat.reduceAdd, Nat.reduceEqDiff, ↓reduceIte, cond_true, cond_false] at h ⊢
        first | (refine W.stb 0 (.t (hs _ _ rfl)) (.t (hs _ _ rfl)) rfl ty51 rfl rfl rfl ?_; exact h) | (refine W.stb 1 (.t (hs _ _ rfl)) (.t (hs _ _ rfl)) rfl ty51 rfl rfl rfl ?_; exact h) | (refine W.stb 2 (.t (hs _ _ rfl)) (.t (hs _ _ rfl)) rfl ty51 rfl rfl rfl ?_; exact h) | (refine W.stb 3 (.t (hs _ _ rfl)) (.t (hs _ _ rfl)) rfl ty51 rfl rfl rfl ?_; exact h) | (refine W.stb 4 (.t (hs _ _ rfl)) (.t (hs _ _ rfl)) rfl ty51 rfl rfl rfl ?_; exact h) | (refine W.stb 5 (.t (hs _ _ rfl)) (.t (hs _ _ rfl)) rfl ty51 rfl rfl rfl ?_; exact h)
      refine DE.q (fun e c hk => (Ev.assign (.t rfl))) rfl (fun _ _ => rfl) (by first | exact .inr (fun _ _ => rfl) | exact .inl (by kernel_rfl)) ?_
      refine DE.nil (fun c_ e_ he_ => ?_)
      simp only [he_ 4 (by decide), cond_true, cond_false]
      refine W.freezeA (M1 := [_, _, _, _]) (M2 := [_, _, _, _]) (D := []) (v := v55) (L' := [(6, true, .sl 4 ((Nd.insP l ((i : Int) :: r) ch.node).map Nd.av))]) (.refl _) ⟨⟨_, rfl, .one .hit⟩, trivial⟩ (FrzMs.refl _) ?_
      refine W.then ?_
      refine W.ret ?_
      refine W.then_ret ?_
      refine W.retn (M' := []) (D := _) (rs := [.tmp 6, .cell 7 51, .tmp 8]) (avs := [_, _, _]) Try.results17 ⟨rfl, ⟨_, _, _, rfl, by repeat (first | exact List.mem_cons_self | apply List.mem_cons_of_mem), rfl, by funext w; exact ag51.run w, by funext w; exact ty51.size w⟩, rfl, trivial⟩ rfl (.refl _) ?_
      first | exact ⟨rfl, rfl⟩ | (rw [hc]; exact ⟨rfl, rfl⟩)
    · have h58 := of_decide_eq_false hc_t58
      have hr0 : r = [] := List.eq_nil_of_length_eq_zero (by omega)
      subst hr0
      rw [if_pos rfl] at hset
      have hil : i ≤ l.length := by rcases hnx with ⟨_, h⟩ | ⟨h, _⟩; exact h; exact absurd rfl h
      have hfin : ((l.map Nd.av).take i ++ Nd.avx ch.node :: (l.map Nd.av).drop i) = (Nd.insP l [(i : Int)] ch.node).map Nd.av := by rw [hset]; simp only [List.map_append, List.map_cons, List.map_take, List.map_drop, Nd.av_eq]
      refine W.skip ?_
      refine W.then ?_
      refine W.seq ?_
      refine W.seq ?_
      refine W.region ?_
      first | refine W.q (Ev.fae (.t rfl) fa51_0 rfl) rfl ?_ | refine W.q (Ev.fab (.t rfl) fa51_0) rfl ?_ | refine W.q (Ev.faa (.t rfl) fa51_0) rfl ?_
      first | refine W.q (Ev.lde1 (.t rfl) ag3) rfl ?_ | refine W.q (Ev.ldb1 0 (.t rfl) rfl ag3 rfl) rfl ?_ | refine W.q (Ev.ldb1 1 (.t rfl) rfl ag3 rfl) rfl ?_ | refine W.q (Ev.ldb1 2 (.t rfl) rfl ag3 rfl) rfl ?_ | refine W.q (Ev.ldb1 3 (.t rfl) rfl ag3 rfl) rfl ?_ | refine W.q (Ev.ldb1 4 (.t rfl) rfl ag3 rfl) rfl ?_ | refine W.q (Ev.ldb1 5 (.t rfl) rfl ag3 rfl) rfl ?_
      refine W.nil ?_
      refine W.then ?_
      refine W.block ?_
      refine W.seq ?_
      refine W.region ?_
      refine W.q (Ev.eqi (.t rfl) .k) rfl ?_
      refine W.q (Ev.assign (.t rfl)) rfl ?_
      refine W.nil ?_
      refine W.then ?_
      refine W.is (t := 89) (g := true) (av' := .lit (.bool true)) rfl (congrArg (fun b => AV.lit (.bool b)) (by rw [hc]; rfl)) ?_
      refine W.condT (.t rfl) ?_
      refine W.seq ?_
      refine W.region ?_
      first | refine W.q (Ev.fae (.t rfl) fa51_0 rfl) rfl ?_ | refine W.q (Ev.fab (.t rfl) fa51_0) rfl ?_ | refine W.q (Ev.faa (.t rfl) fa51_0) rfl ?_
      first | refine W.stb 0 (.t rfl) .k rfl ty3 rfl rfl rfl ?_ | refine W.stb 1 (.t rfl) .k rfl ty3 rfl rfl rfl ?_ | refine W.stb 2 (.t rfl) .k rfl ty3 rfl rfl rfl ?_ | refine W.stb 3 (.t rfl) .k rfl ty3 rfl rfl rfl ?_ | refine W.stb 4 (.t rfl) .k rfl ty3 rfl rfl rfl ?_ | refine W.stb 5 (.t rfl) .k rfl ty3 rfl rfl rfl ?_
      refine W.nil ?_
      refine W.nilBox (A := [_]) (cs' := [.int (Ch.mk 2 ch.path Nd.dflt).kind, .sl 1 ((Ch.mk 2 ch.path Nd.dflt).path.map AV.int), .str (Ch.mk 2 ch.path Nd.dflt).node.name, .sl 2 ((Ch.mk 2 ch.path Nd.dflt).node.attrs.map dav), .str (Ch.mk 2 ch.path Nd.dflt).node.text, .sl 4 ((Ch.mk 2 ch.path Nd.dflt).node.parts.map Nd.av)]) rfl ⟨.inl rfl, .inl rfl, .inl rfl, .inr ⟨rfl, 2, rfl⟩, .inl rfl, .inr ⟨rfl, 4, rfl⟩, trivial⟩ ?_
      refine W.then ?_
      refine W.seq ?_
      refine W.drawnM (fun ee c_ => [bif ee 6 then ME.arr (c_ 6).2 42 4 ((l.map Nd.av).take i ++ Nd.avx ch.node :: (l.map Nd.av).drop i) else ME.arr v55 42 4 (l.map Nd.av), .box b9 51 [.int (Ch.mk 2 ch.path Nd.dflt).kind, .sl 1 ((Ch.mk 2 ch.path Nd.dflt).path.map AV.int), .str (Ch.mk 2 ch.path Nd.dflt).node.name, .sl 2 ((Ch.mk 2 ch.path Nd.dflt).node.attrs.map dav), .str (Ch.mk 2 ch.path Nd.dflt).node.text, .sl 4 ((Ch.mk 2 ch.path Nd.dflt).node.parts.map Nd.av)], .box b7 51 (bif ee 9 then [.int (Ch.mk 2 ch.path Nd.dflt).kind, .sl 1 ((Ch.mk 2 ch.path Nd.dflt).path.map AV.int), .str (Ch.mk 2 ch.path Nd.dflt).node.name, .sl 2 ((Ch.mk 2 ch.path Nd.dflt).node.attrs.map dav), .str (Ch.mk 2 ch.path Nd.dflt).node.text, .sl 4 ((Ch.mk 2 ch.path Nd.dflt).node.parts.map Nd.av)] else [.lit (.int .i64 0), .lit (.slice none 0 0), .lit (.string ⟨#[]⟩), .lit (.slice none 0 0), .lit (.string ⟨#[]⟩), .lit (.slice none 0 0)]), .box b4 51 [.int ch.kind, .sl 1 (ch.path.map AV.int), .str ch.node.name, .sl 2 (ch.node.attrs.map dav), .str ch.node.text, .sl 4 (ch.node.parts.map Nd.av)]] ++ (bif ee 6 then [] else bif ee 5 then [ME.box (c_ 5).1 42 [.str ch.node.name, .sl 2 (ch.node.attrs.map dav), .str ch.node.text, .sl 4 (ch.node.parts.map Nd.av)]] else [])) (c0 := ks0) (by kernel_rfl) (by kernel_rfl) rfl ?_
      have hoa : ∀ e ∈ l.map Nd.av, e.okc = true := fun e he => (Nd.okc_avs l e he).1
      have hmb : (l.map Nd.av).length + 1 ≤ 1099511627776 := by rw [hll]; omega
      refine DM.q (fun e c hk => (Ev.move (.t rfl))) rfl (fun _ _ => rfl) (fun c c_ h => by first | rfl) ?_
      refine DM.q (fun e c hk => (Ev.move (.t rfl))) rfl (fun _ _ => rfl) (fun c c_ h => by first | rfl) ?_
      first | refine DM.q (fun e c hk => (Ev.fae (.t rfl) fa51_2 rfl)) rfl (fun _ _ => rfl) (fun c c_ h => by first | rfl) ?_ | refine DM.q (fun e c hk => (Ev.fab (.t rfl) fa51_2)) rfl (fun _ _ => rfl) (fun c c_ h => by first | rfl) ?_ | refine DM.q (fun e c hk => (Ev.faa (.t rfl) fa51_2)) rfl (fun _ _ => rfl) (fun c c_ h => by first | rfl) ?_
      first | refine DM.q (fun e c hk => (Ev.lden (.t rfl) ag42 ty42 rfl rfl)) rfl (fun _ _ => rfl) (fun c c_ h => by first | rfl) ?_ | refine DM.q (fun e c hk => (Ev.ldbn 0 (.t rfl) rfl ag42 ty42 rfl)) rfl (fun _ _ => rfl) (fun c c_ h => by first | rfl) ?_ | refine DM.q (fun e c hk => (Ev.ldbn 1 (.t rfl) rfl ag42 ty42 rfl)) rfl (fun _ _ => rfl) (fun c c_ h => by first | rfl) ?_ | refine DM.q (fun e c hk => (Ev.ldbn 2 (.t rfl) rfl ag42 ty42 rfl)) rfl (fun _ _ => rfl) (fun c c_ h => by first | rfl) ?_ | refine DM.q (fun e c hk => (Ev.ldbn 3 (.t rfl) rfl ag42 ty42 rfl)) rfl (fun _ _ => rfl) (fun c c_ h => by first | rfl) ?_ | refine DM.q (fun e c hk => (Ev.ldbn 4 (.t rfl) rfl ag42 ty42 rfl)) rfl (fun _ _ => rfl) (fun c c_ h => by first | rfl) ?_ | refine DM.q (fun e c hk => (Ev.ldbn 5 (.t rfl) rfl ag42 ty42 rfl)) rfl (fun _ _ => rfl) (fun c c_ h => by first | rfl) ?_
      refine DM.callp (fun c => WCopies.c_Copy ch.node (by omega)) (fun c => ⟨(.t rfl), trivial⟩) rfl (fun _ _ => rfl) (fun c c_ h => by first | rfl) ?_
      refine DM.eff1 (av := fun c => .lit (.slice (some ⟨(c 5).1, 0, none⟩) 1 1)) rfl (fun c c_ h => by first | rfl | simp only [h 5 (by first | exact .inl rfl | exact .inr (by kernel_rfl))]) (fun e c hk L_ hs Q h => ?_) ?_
      · have hk_5 := hk.not
        have hk_6 := hk.down 6 (by kernel_rfl)
        have hk_9 := hk.down 9 (by kernel_rfl)
        simp only [addE, upd, eq_self, List.nil_append, List.cons_append, List.append_nil, hk_5, hk_6, hk_9, Nat.reduceAdd, Nat.reduceEqDiff, ↓reduceIte, cond_true, cond_false] at h ⊢
        refine W.bsbox Try.underlying24 ty42 ⟨rfl, (.t (hs _ _ rfl)), rfl, rfl, trivial⟩ (by decide) rfl rfl rfl rfl (fun b => ?_)
        exact h (b, undef) _ (by first | exact .refl _ | exact (List.perm_middle (l₁ := [_])).symm | exact (List.perm_middle (l₁ := [_, _])).symm | exact (List.perm_middle (l₁ := [_, _, _])).symm | exact (List.perm_middle (l₁ := [_, _, _, _])).symm | exact (List.perm_middle (l₁ := [_, _, _, _, _])).symm | exact (List.perm_middle (l₁ := [_, _, _, _, _, _])).symm | exact (List.perm_middle (l₁ := [_, _, _, _, _, _, _])).symm | exact (List.perm_middle (l₁ := [_, _, _, _, _, _, _, _])).symm)
      refine DM.eff1 (av := fun c => .lit (c 6).2) rfl (fun c c_ h => by first | rfl | simp only [h 5 (by first | exact .inl rfl | exact .inr (by kernel_rfl)), h 6 (by first | exact .inl rfl | exact .inr (by kernel_rfl))]) (fun e c hk L_ hs Q h => ?_) ?_
      · have hk_6 := hk.not
        have hk_5 := hk.up 5 (by kernel_rfl)
        have hk_9 := hk.down 9 (by kernel_rfl)
        simp only [addE, upd, eq_self, List.nil_append, List.cons_append, List.append_nil, hk_6, hk_5, hk_9, Nat.reduceAdd, Nat.reduceEqDiff, ↓reduceIte, cond_true, cond_false] at h ⊢
        refine W.call (WInsBox.c_InsertBox (l.map Nd.av) (Nd.avx ch.node) _ v55 _ i rfl rfl rfl hoa hmb (by omega)) ⟨(.t (hs _ _ rfl)), (.t (hs _ _ rfl)), (.t (hs _ _ rfl)), trivial⟩ (List.Perm.cons _ (List.perm_append_comm (l₁ := [_, _, _]) (l₂ := [_]))) rfl ?_
        rintro _ _ ⟨v98, rfl, rfl⟩
        exact h (0, v98) _ (.refl _)
      first | refine DM.q (fun e c hk => (Ev.lden (.t rfl) ag51 ty51 rfl rfl)) rfl (fun _ _ => rfl) (fun c c_ h => by first | rfl) ?_ | refine DM.q (fun e c hk => (Ev.ldbn 0 (.t rfl) rfl ag51 ty51 rfl)) rfl (fun _ _ => rfl) (fun c c_ h => by first | rfl) ?_ | refine DM.q (fun e c hk => (Ev.ldbn 1 (.t rfl) rfl ag51 ty51 rfl)) rfl (fun _ _ => rfl) (fun c c_ h => by first | rfl) ?_ | refine DM.q (fun e c hk => (Ev.ldbn 2 (.t rfl) rfl ag51 ty51 rfl)) rfl (fun _ _ => rfl) (fun c c_ h => by first | rfl) ?_ | refine DM.q (fun e c hk => (Ev.ldbn 3 (.t rfl) rfl ag51 ty51 rfl)) rfl (fun _ _ => rfl) (fun c c_ h => by first | rfl) ?_ | refine DM.q (fun e c hk => (Ev.ldbn 4 (.t rfl) rfl ag51 ty51 rfl)) rfl (fun _ _ => rfl) (fun c c_ h => by first | rfl) ?_ | refine DM.q (fun e c hk => (Ev.ldbn 5 (.t rfl) rfl ag51 ty51 rfl)) rfl (fun _ _ => rfl) (fun c c_ h => by first | rfl) ?_
      refine DM.q (fun e c hk => (Ev.assign (.t rfl))) rfl (fun _ _ => rfl) (fun c c_ h => by first | rfl | simp only [h 5 (by first | exact .inl rfl | exact .inr (by kernel_rfl)), h 6 (by first | exact .inl rfl | exact .inr (by kernel_rfl))]) ?_
      refine DM.eff0 (fun e c hk L_ hs Q h => ?_) ?_
      · have hk_9 := hk.not
        have hk_5 := hk.up 5 (by kernel_rfl)
        have hk_6 := hk.up 6 (by kernel_rfl)
        simp only [addE, upd, eq_self, List.nil_append, List.cons_append, List.append_nil, hk_9, hk_5, hk_6, Nat.reduceAdd, Nat.reduceEqDiff, ↓reduceIte, cond_true, cond_false] at h ⊢
        first | (refine W.stb 0 (.t (hs _ _ rfl)) (.t (hs _ _ rfl)) rfl ty51 rfl rfl rfl ?_; exact h) | (refine W.stb 1 (.t (hs _ _ rfl)) (.t (hs _ _ rfl)) rfl ty51 rfl rfl rfl ?_; exact h) | (refine W.stb 2 (.t (hs _ _ rfl)) (.t (hs _ _ rfl)) rfl ty51 rfl rfl rfl ?_; exact h) | (refine W.stb 3 (.t (hs _ _ rfl)) (.t (hs _ _ rfl)) rfl ty51 rfl rfl rfl ?_; exact h) | (refine W.stb 4 (.t (hs _ _ rfl)) (.t (hs _ _ rfl)) rfl ty51 rfl rfl rfl ?_; exact h) | (refine W.stb 5 (.t (hs _ _ rfl)) (.t (hs _ _ rfl)) rfl ty51 rfl rfl rfl ?_; exact h)
      refine DM.q (fun e c hk => (Ev.assign .k)) rfl (fun _ _ => rfl) (fun c c_ h => by first | rfl | simp only [h 5 (by first | exact .inl rfl | exact .inr (by kernel_rfl)), h 6 (by first | exact .inl rfl | exact .inr (by kernel_rfl))]) ?_
      refine DM.nil (fun cc e_ he_ => ?_)
      simp only [he_ 5 (by decide), he_ 6 (by decide), he_ 9 (by decide), cond_true, cond_false]
      generalize (cc 6).2 = v98
      rw [hfin]
      refine W.freezeA (M1 := [_, _, _]) (M2 := [_, _, _]) (D := []) (v := v98) (L' := [(6, true, .sl 4 ((Nd.insP l [(i : Int)] ch.node).map Nd.av))]) (.refl _) ⟨⟨_, rfl, .one .hit⟩, trivial⟩ (FrzMs.refl _) ?_
      refine W.then ?_
      refine W.ret ?_
      refine W.blk_ret ?_
      refine W.then_ret ?_
      refine W.retn (M' := []) (D := _) (rs := [.tmp 6, .cell 7 51, .tmp 8]) (avs := [_, _, _]) Try.results17 ⟨rfl, ⟨_, _, _, rfl, by repeat (first | exact List.mem_cons_self | apply List.mem_cons_of_mem), rfl, by funext w; exact ag51.run w, by funext w; exact ty51.size w⟩, rfl, trivial⟩ rfl (.refl _) ?_
      first | exact ⟨rfl, rfl⟩ | (rw [hc]; exact ⟨rfl, rfl⟩)

theorem c_Ins (ch : Ch) (hc : ch.kind = 1) (hcp : ch.path.length ≤ 16777216) (hcn : ch.node.sz ≤ 16777216) (p : List Int) (hpl : p.length ≤ 16777216) (l : List Nd) (hl : Nd.szs l ≤ 16777216) (hat : Nd.plP l p) : FnP Try.prog 17 [.sl 4 (l.map Nd.av), cav ch, .sl 1 (p.map AV.int)] (.tup [.sl 4 ((Nd.insP l p ch.node).map Nd.av), cav ⟨2, ch.path, Nd.dflt⟩, .int 0]) := by
  suffices H : ∀ n, n ≤ 16777216 → ∀ p : List Int, p.length = n → ∀ l, Nd.szs l ≤ 16777216 → Nd.plP l p → FnP Try.prog 17 [.sl 4 (l.map Nd.av), cav ch, .sl 1 (p.map AV.int)] (.tup [.sl 4 ((Nd.insP l p ch.node).map Nd.av), cav ⟨2, ch.path, Nd.dflt⟩, .int 0]) from H _ hpl p rfl l hl hat
  intro n
  induction n using Nat.strongRecOn with
  | _ n ih => exact fun hn p hp l hl hat => c_Ins_step ch hc hcp hcn p (by omega) (fun r hr l hl => ih r.length (by omega) (by omega) r rfl l hl) l hl hat

end WChIns

end Go.Proofs.Ytpjngpegkoohgaa
