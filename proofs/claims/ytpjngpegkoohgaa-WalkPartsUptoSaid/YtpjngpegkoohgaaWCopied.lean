/-
  Trees that a law copies.
-/
import Derived.Test.YtpjngpegkoohgaaTree
import Derived.Test.YtpjngpegkoohgaaBase
set_option linter.unusedVariables false
set_option linter.unusedSimpArgs false
set_option maxRecDepth 100000
namespace Go.Proofs.Ytpjngpegkoohgaa
open Go.Vl

namespace WCopied
theorem ty24 : Ty Try.prog 24 1 24 (.slice none 0 0) := Ty.of (by kernel_rfl)
theorem ty40 : Ty Try.prog 40 1 24 (.slice none 0 0) := Ty.of (by kernel_rfl)
theorem ty42 : Ty Try.prog 42 4 80 (.agg #[.string ⟨#[]⟩, .slice none 0 0, .string ⟨#[]⟩, .slice none 0 0]) := Ty.of (by kernel_rfl)
theorem ty45 : Ty Try.prog 45 2 32 (.agg #[.string ⟨#[]⟩, .string ⟨#[]⟩]) := Ty.of (by kernel_rfl)
theorem ag24 : IsAgg Try.prog 24 false := ⟨_, Try.underlying24, rfl⟩
theorem ag40 : IsAgg Try.prog 40 false := ⟨_, Try.underlying40, rfl⟩
theorem ag42 : IsAgg Try.prog 42 true := ⟨_, Try.underlying42, rfl⟩
theorem fa42_1 : FieldAt Try.prog 42 1 1 1 false := ⟨_, _, Try.underlying42, rfl, rfl, ty40.size, ag40, by decide⟩
theorem fa42_3 : FieldAt Try.prog 42 3 3 1 false := ⟨_, _, Try.underlying42, rfl, rfl, ty24.size, ag24, by decide⟩
theorem ni24 : NotInt Try.prog 24 := .inl ⟨_, Try.underlying24⟩
theorem ni40 : NotInt Try.prog 40 := .inl ⟨_, Try.underlying40⟩
theorem c_copied_step (n : Nat) (hn : n ≤ 16777216) (ih : ∀ l, Nd.szs l < n → FnP Try.prog 9 [.sl 4 (l.map Nd.av)] (.sl 4 (l.map Nd.av))) (l : List Nd) (hl : Nd.szs l = n) : FnP Try.prog 9 [.sl 4 (l.map Nd.av)] (.sl 4 (l.map Nd.av)) :=  by
  refine FnC.mk Try.func9 (by kernel_rfl) rfl Try.ntmps9 rfl (fun w0 F => ?_)
  have hll : (l.map Nd.av).length = l.length := List.length_map ..
  have hsl := Nd.szs_len l
  refine W.seq ?_
  refine W.region ?_
  refine W.q (Ev.assign .k) rfl ?_
  refine W.nil ?_
  refine W.then ?_
  refine W.seq ?_
  refine W.region ?_
  refine W.q (Ev.assign .k) rfl ?_
  refine W.nil ?_
  refine W.then ?_
  refine W.seq ?_
  refine W.seq ?_
  refine W.region ?_
  refine W.q (Ev.assign .k) rfl ?_
  refine W.nil ?_
  refine W.then ?_
  refine W.block ?_
  refine W.own_nil 42 4 ?_
  refine W.loop (D := []) (ι := Nat × Value) (fun z => [(4, true, .int (z.1 : Int)), (0, true, .sl 4 (l.map Nd.av)), (3, true, .lit z.2)]) (fun z => [.arr z.2 42 4 ((l.take z.1).map Nd.av)]) (fun z => z.1 ≤ l.length) (fun z => l.length - z.1) (0, .slice none 0 0) ⟨rfl, rfl, rfl, trivial⟩ (.refl _) (Nat.zero_le _) ?_
  rintro ⟨i, v⟩ hi
  dsimp only at hi ⊢
  rcases (show i < l.length ∨ i = l.length from by omega) with hlt | hend
  · have hga := Nd.at_av l i hlt
    have hsz := Nd.at_sz l i hlt
    generalize hd : l.getD i Nd.dflt = d at hga hsz
    have hse := Nd.sz_eq d
    have hsp := Nd.szs_len d.parts
    have hat : (d.attrs.map dav).length = d.attrs.length := List.length_map ..
    have hsn := Nd.take_snoc l i hlt
    rw [hd] at hsn
    refine W.seq ?_
    refine W.seq ?_
    refine W.region ?_
    refine W.q (Ev.move (.t rfl)) rfl ?_
    refine W.q (Ev.move (.t rfl)) rfl ?_
    first | refine W.q (Ev.lensl (.t rfl) Try.underlying24) rfl ?_ | refine W.q (Ev.lenar (i := 0) (.t rfl) rfl Try.underlying24) rfl ?_ | refine W.q (Ev.lenar (i := 1) (.t rfl) rfl Try.underlying24) rfl ?_ | refine W.q (Ev.lenar (i := 2) (.t rfl) rfl Try.underlying24) rfl ?_ | refine W.q (Ev.lenar (i := 3) (.t rfl) rfl Try.underlying24) rfl ?_
    refine W.q (Ev.lti (.t rfl) (.t rfl)) rfl ?_
    refine W.nil ?_
    refine W.then ?_
    refine W.is (t := 9) (g := true) (av' := .lit (.bool true)) rfl (congrArg (fun b => AV.lit (.bool b)) (by simp; omega)) ?_
    refine W.condT (.t rfl) ?_
    refine W.skip ?_
    refine W.then ?_
    refine W.seq ?_
    refine W.block ?_
    refine W.seq ?_
    refine W.region ?_
    refine W.q (Ev.move (.t rfl)) rfl ?_
    refine W.q (Ev.move (.t rfl)) rfl ?_
    refine W.q (Ev.at (E := 42) (.t rfl) (.t rfl) Try.underlying24 ty42 (fun _ => ⟨by omega, hga⟩) rfl rfl) rfl ?_
    first | refine W.q (Ev.lden (.t rfl) ag42 ty42 rfl rfl) rfl ?_ | refine W.q (Ev.ldbn 0 (.t rfl) rfl ag42 ty42 rfl) rfl ?_ | refine W.q (Ev.ldbn 1 (.t rfl) rfl ag42 ty42 rfl) rfl ?_ | refine W.q (Ev.ldbn 2 (.t rfl) rfl ag42 ty42 rfl) rfl ?_ | refine W.q (Ev.ldbn 3 (.t rfl) rfl ag42 ty42 rfl) rfl ?_
    refine W.alloc ty42 rfl rfl ?_
    intro b5
    first | refine W.stb 0 (.t rfl) (.t rfl) rfl ty42 rfl rfl rfl ?_ | refine W.stb 1 (.t rfl) (.t rfl) rfl ty42 rfl rfl rfl ?_ | refine W.stb 2 (.t rfl) (.t rfl) rfl ty42 rfl rfl rfl ?_ | refine W.stb 3 (.t rfl) (.t rfl) rfl ty42 rfl rfl rfl ?_
    refine W.nil ?_
    refine W.then ?_
    refine W.seq ?_
    refine W.region ?_
    first | refine W.q (Ev.fae (.t rfl) fa42_1 rfl) rfl ?_ | refine W.q (Ev.fab (.t rfl) fa42_1) rfl ?_ | refine W.q (Ev.faa (.t rfl) fa42_1) rfl ?_
    first | refine W.q (Ev.lde1 (.t rfl) ag40) rfl ?_ | refine W.q (Ev.ldb1 0 (.t rfl) rfl ag40 rfl) rfl ?_ | refine W.q (Ev.ldb1 1 (.t rfl) rfl ag40 rfl) rfl ?_ | refine W.q (Ev.ldb1 2 (.t rfl) rfl ag40 rfl) rfl ?_ | refine W.q (Ev.ldb1 3 (.t rfl) rfl ag40 rfl) rfl ?_
    first | refine W.appn .k (.sl (.t rfl) (okc_davs d.attrs)) Try.underlying40 ni40 ty45 rfl rfl (by omega) rfl ?_ | refine W.appn .k (.arr 0 (.t rfl) rfl (okc_davs d.attrs)) Try.underlying40 ni40 ty45 rfl rfl (by omega) rfl ?_ | refine W.appn .k (.arr 1 (.t rfl) rfl (okc_davs d.attrs)) Try.underlying40 ni40 ty45 rfl rfl (by omega) rfl ?_ | refine W.appn .k (.arr 2 (.t rfl) rfl (okc_davs d.attrs)) Try.underlying40 ni40 ty45 rfl rfl (by omega) rfl ?_ | refine W.appn .k (.arr 3 (.t rfl) rfl (okc_davs d.attrs)) Try.underlying40 ni40 ty45 rfl rfl (by omega) rfl ?_
    intro v18
    refine W.arr_inv 0 rfl (fun a18 n18 c18 h18 => ?_)
    subst h18
    first | refine W.q (Ev.fae (.t rfl) fa42_1 rfl) rfl ?_ | refine W.q (Ev.fab (.t rfl) fa42_1) rfl ?_ | refine W.q (Ev.faa (.t rfl) fa42_1) rfl ?_
    first | refine W.stb 0 (.t rfl) (.t rfl) rfl ty40 rfl rfl rfl ?_ | refine W.stb 1 (.t rfl) (.t rfl) rfl ty40 rfl rfl rfl ?_ | refine W.stb 2 (.t rfl) (.t rfl) rfl ty40 rfl rfl rfl ?_ | refine W.stb 3 (.t rfl) (.t rfl) rfl ty40 rfl rfl rfl ?_
    refine W.nil ?_
    refine W.then ?_
    refine W.seq ?_
    refine W.region ?_
    refine W.freeze (M1 := [.box b5 42 _, .arr v 42 4 _]) (M2 := [.box b5 42 [.str d.name, .sl 2 (d.attrs.map dav), .str d.text, .sl 4 (d.parts.map Nd.av)], .arr v 42 4 ((l.take i).map Nd.av)]) (D := []) (L' := [(5, true, .lit (.pointer (some ⟨b5, 0, none⟩))), (4, true, .int (i : Int)), (0, true, .sl 4 (l.map Nd.av)), (3, true, .lit v)]) (.refl _) ⟨⟨_, rfl, .one (.refl _)⟩, ⟨_, rfl, .one (.refl _)⟩, ⟨_, rfl, .one (.refl _)⟩, ⟨_, rfl, .one (.refl _)⟩, trivial⟩ ⟨.box ⟨.refl _, .hit, .refl _, .refl _, trivial⟩, .refl _, trivial⟩ ?_
    first | refine W.q (Ev.fae (.t rfl) fa42_3 rfl) rfl ?_ | refine W.q (Ev.fab (.t rfl) fa42_3) rfl ?_ | refine W.q (Ev.faa (.t rfl) fa42_3) rfl ?_
    first | refine W.q (Ev.lde1 (.t rfl) ag24) rfl ?_ | refine W.q (Ev.ldb1 0 (.t rfl) rfl ag24 rfl) rfl ?_ | refine W.q (Ev.ldb1 1 (.t rfl) rfl ag24 rfl) rfl ?_ | refine W.q (Ev.ldb1 2 (.t rfl) rfl ag24 rfl) rfl ?_ | refine W.q (Ev.ldb1 3 (.t rfl) rfl ag24 rfl) rfl ?_
    refine W.callp (ih d.parts (by omega)) ⟨(.t rfl), trivial⟩ rfl ?_
    first | refine W.q (Ev.fae (.t rfl) fa42_3 rfl) rfl ?_ | refine W.q (Ev.fab (.t rfl) fa42_3) rfl ?_ | refine W.q (Ev.faa (.t rfl) fa42_3) rfl ?_
    first | refine W.stb 0 (.t rfl) (.t rfl) rfl ty24 rfl rfl rfl ?_ | refine W.stb 1 (.t rfl) (.t rfl) rfl ty24 rfl rfl rfl ?_ | refine W.stb 2 (.t rfl) (.t rfl) rfl ty24 rfl rfl rfl ?_ | refine W.stb 3 (.t rfl) (.t rfl) rfl ty24 rfl rfl rfl ?_
    refine W.nil ?_
    refine W.then ?_
    refine W.region ?_
    refine W.q (Ev.move (.t rfl)) rfl ?_
    first | refine W.q (Ev.lden (.t rfl) ag42 ty42 rfl rfl) rfl ?_ | refine W.q (Ev.ldbn 0 (.t rfl) rfl ag42 ty42 rfl) rfl ?_ | refine W.q (Ev.ldbn 1 (.t rfl) rfl ag42 ty42 rfl) rfl ?_ | refine W.q (Ev.ldbn 2 (.t rfl) rfl ag42 ty42 rfl) rfl ?_ | refine W.q (Ev.ldbn 3 (.t rfl) rfl ag42 ty42 rfl) rfl ?_
    refine W.bs (es := [_]) Try.underlying24 ty42 ⟨rfl, (.t rfl), rfl, rfl, trivial⟩ rfl (by decide) rfl rfl ?_
    first | refine W.app 0 (.t rfl) rfl (.sl (.t rfl) (by simp [AV.okc, shV])) Try.underlying24 ni24 ty42 rfl rfl (by simp; omega) rfl ?_ | refine W.app 1 (.t rfl) rfl (.sl (.t rfl) (by simp [AV.okc, shV])) Try.underlying24 ni24 ty42 rfl rfl (by simp; omega) rfl ?_ | refine W.app 2 (.t rfl) rfl (.sl (.t rfl) (by simp [AV.okc, shV])) Try.underlying24 ni24 ty42 rfl rfl (by simp; omega) rfl ?_ | refine W.app 3 (.t rfl) rfl (.sl (.t rfl) (by simp [AV.okc, shV])) Try.underlying24 ni24 ty42 rfl rfl (by simp; omega) rfl ?_ | refine W.app 0 (.t rfl) rfl (.arr 0 (.t rfl) rfl (by simp [AV.okc, shV])) Try.underlying24 ni24 ty42 rfl rfl (by simp; omega) rfl ?_ | refine W.app 0 (.t rfl) rfl (.arr 1 (.t rfl) rfl (by simp [AV.okc, shV])) Try.underlying24 ni24 ty42 rfl rfl (by simp; omega) rfl ?_ | refine W.app 0 (.t rfl) rfl (.arr 2 (.t rfl) rfl (by simp [AV.okc, shV])) Try.underlying24 ni24 ty42 rfl rfl (by simp; omega) rfl ?_ | refine W.app 0 (.t rfl) rfl (.arr 3 (.t rfl) rfl (by simp [AV.okc, shV])) Try.underlying24 ni24 ty42 rfl rfl (by simp; omega) rfl ?_ | refine W.app 1 (.t rfl) rfl (.arr 0 (.t rfl) rfl (by simp [AV.okc, shV])) Try.underlying24 ni24 ty42 rfl rfl (by simp; omega) rfl ?_ | refine W.app 1 (.t rfl) rfl (.arr 1 (.t rfl) rfl (by simp [AV.okc, shV])) Try.underlying24 ni24 ty42 rfl rfl (by simp; omega) rfl ?_ | refine W.app 1 (.t rfl) rfl (.arr 2 (.t rfl) rfl (by simp [AV.okc, shV])) Try.underlying24 ni24 ty42 rfl rfl (by simp; omega) rfl ?_ | refine W.app 1 (.t rfl) rfl (.arr 3 (.t rfl) rfl (by simp [AV.okc, shV])) Try.underlying24 ni24 ty42 rfl rfl (by simp; omega) rfl ?_ | refine W.app 2 (.t rfl) rfl (.arr 0 (.t rfl) rfl (by simp [AV.okc, shV])) Try.underlying24 ni24 ty42 rfl rfl (by simp; omega) rfl ?_ | refine W.app 2 (.t rfl) rfl (.arr 1 (.t rfl) rfl (by simp [AV.okc, shV])) Try.underlying24 ni24 ty42 rfl rfl (by simp; omega) rfl ?_ | refine W.app 2 (.t rfl) rfl (.arr 2 (.t rfl) rfl (by simp [AV.okc, shV])) Try.underlying24 ni24 ty42 rfl rfl (by simp; omega) rfl ?_ | refine W.app 2 (.t rfl) rfl (.arr 3 (.t rfl) rfl (by simp [AV.okc, shV])) Try.underlying24 ni24 ty42 rfl rfl (by simp; omega) rfl ?_ | refine W.app 3 (.t rfl) rfl (.arr 0 (.t rfl) rfl (by simp [AV.okc, shV])) Try.underlying24 ni24 ty42 rfl rfl (by simp; omega) rfl ?_ | refine W.app 3 (.t rfl) rfl (.arr 1 (.t rfl) rfl (by simp [AV.okc, shV])) Try.underlying24 ni24 ty42 rfl rfl (by simp; omega) rfl ?_ | refine W.app 3 (.t rfl) rfl (.arr 2 (.t rfl) rfl (by simp [AV.okc, shV])) Try.underlying24 ni24 ty42 rfl rfl (by simp; omega) rfl ?_ | refine W.app 3 (.t rfl) rfl (.arr 3 (.t rfl) rfl (by simp [AV.okc, shV])) Try.underlying24 ni24 ty42 rfl rfl (by simp; omega) rfl ?_
    intro v27
    refine W.q (Ev.assign (.t rfl)) rfl ?_
    refine W.nil ?_
    refine W.blk_normal ?_
    refine W.then ?_
    refine W.region ?_
    refine W.q (Ev.move (.t rfl)) rfl ?_
    first | refine W.q (Ev.add (.t rfl) .k (fun _ => by omega)) rfl ?_ | refine W.q (Ev.addw (.t rfl) .k) rfl ?_
    refine W.q (Ev.assign (.t rfl)) rfl ?_
    refine W.nil ?_
    refine W.then ?_
    refine W.reach (D := [_]) (i + 1, v27) ⟨rfl, rfl, rfl, trivial⟩ (by rw [hsn]; exact List.Perm.swap _ _ []) ⟨by show i + 1 ≤ _; omega, by show _ - (i + 1) < _; omega⟩
  · have he : l.take i = l := List.take_of_length_le (by omega)
    rw [he]
    refine W.seq ?_
    refine W.seq ?_
    refine W.region ?_
    refine W.q (Ev.move (.t rfl)) rfl ?_
    refine W.q (Ev.move (.t rfl)) rfl ?_
    first | refine W.q (Ev.lensl (.t rfl) Try.underlying24) rfl ?_ | refine W.q (Ev.lenar (i := 0) (.t rfl) rfl Try.underlying24) rfl ?_ | refine W.q (Ev.lenar (i := 1) (.t rfl) rfl Try.underlying24) rfl ?_ | refine W.q (Ev.lenar (i := 2) (.t rfl) rfl Try.underlying24) rfl ?_ | refine W.q (Ev.lenar (i := 3) (.t rfl) rfl Try.underlying24) rfl ?_
    refine W.q (Ev.lti (.t rfl) (.t rfl)) rfl ?_
    refine W.nil ?_
    refine W.then ?_
    refine W.is (t := 9) (g := true) (av' := .lit (.bool false)) rfl (congrArg (fun b => AV.lit (.bool b)) (by simp; omega)) ?_
    refine W.condF (.t rfl) ?_
    refine W.exit ?_
    refine W.then_exit ?_
    refine W.then_exit ?_
    refine W.blk_hit ?_
    refine W.then ?_
    refine W.seq ?_
    refine W.region ?_
    refine W.q (Ev.move (.t rfl)) rfl ?_
    refine W.q (Ev.assign (.t rfl)) rfl ?_
    refine W.nil ?_
    refine W.then ?_
    refine W.ret ?_
    refine W.freeze (M1 := []) (M2 := []) (D := _) (v := v) (L' := [(2, true, .sl 4 (l.map Nd.av))]) (.refl _) ⟨⟨_, rfl, .one .hit⟩, trivial⟩ trivial ?_
    refine W.retn (M' := []) (rs := [.tmp 2]) (avs := [_]) Try.results9 ⟨rfl, trivial⟩ rfl (.refl _) ?_
    exact ⟨rfl, rfl⟩

theorem c_copied (l : List Nd) (hl : Nd.szs l ≤ 16777216) : FnP Try.prog 9 [.sl 4 (l.map Nd.av)] (.sl 4 (l.map Nd.av)) := by
  suffices H : ∀ n, n ≤ 16777216 → ∀ l, Nd.szs l = n → FnP Try.prog 9 [.sl 4 (l.map Nd.av)] (.sl 4 (l.map Nd.av)) from H _ hl l rfl
  intro n
  induction n using Nat.strongRecOn with
  | _ n ih => exact fun hn l hl => c_copied_step n hn (fun l' h' => ih _ h' (by omega) l' rfl) l hl

end WCopied

end Go.Proofs.Ytpjngpegkoohgaa
