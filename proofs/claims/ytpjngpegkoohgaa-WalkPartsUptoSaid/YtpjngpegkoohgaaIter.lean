/-
  Iterators over strings; bytes as strings.
-/
import Derived.Test.YtpjngpegkoohgaaArr
set_option linter.unusedVariables false
set_option linter.unusedSimpArgs false
set_option linter.unusedSectionVars false
namespace Go.Vl

/-- the first letter of a text, and its width -/
def dec (l : List UInt8) : Nat × Nat := Utf8.decode ⟨l.toArray⟩ 0

theorem get!_mk (l : List UInt8) (i : Nat) : (ByteArray.mk l.toArray).get! i = l.getD i 0 := by
  simp [ByteArray.get!]
  rcases Nat.lt_or_ge i l.length with h | h
  · simp [h]
  · rw [List.getElem?_eq_none h, Option.getD_none]
    simp [getElem!_def, h]
    rfl
theorem decode_drop (l : List UInt8) (p : Nat) : Utf8.decode ⟨l.toArray⟩ p = dec (l.drop p) := by
  unfold dec Utf8.decode
  have e1 : ∀ k, (ByteArray.mk (l.drop p).toArray).get! (0 + k) = (ByteArray.mk l.toArray).get! (p + k) := fun k => by
    rw [get!_mk, get!_mk, List.getD_eq_getElem?_getD, List.getD_eq_getElem?_getD, List.getElem?_drop, Nat.zero_add]
  have e2 : ∀ k, decide (0 + k < (ByteArray.mk (l.drop p).toArray).size) = decide (p + k < (ByteArray.mk l.toArray).size) := fun k => by
    rw [size_mk, size_mk, List.length_drop]
    congr 1
    rw [eq_iff_iff]
    omega
  simp only [e1, e2]

section iter
variable {x : Cx} {L : List (Tmp × Bool × AV)} {M : List ME} {ops : Array Oper} {Q : Exit → Act → World → Prop} {rest : List Oper} {ty : TypeId} {pos : String} {aft : Array Edge}

theorem W.rng {d : Tmp} {T : TypeId} {o : Operand} {l : List UInt8} (h1 : Ov true L o (.lit (.string ⟨l.toArray⟩))) (hT : x.P.underlying T = some .string) (hd : Nat.blt d x.n = true)
    (next : ∀ b, W x ((d, true, .lit (.pointer (some ⟨b, 0, none⟩))) :: L) (ME.obj b (.stringIter ⟨l.toArray⟩ 0) :: M) (wpList x.P ops Q rest)) :
    W x L M (wpList x.P ops Q (⟨some d, .range T o, ty, pos, aft, none⟩ :: rest)) := by
  refine W.opv (ι := Nat) (fun b => ME.obj b (.stringIter ⟨l.toArray⟩ 0) :: M) (fun b => .lit (.pointer (some ⟨b, 0, none⟩))) hd ?_ next
  intro a w hs
  refine ⟨.pointer (some ⟨w.heap.size, 0, none⟩), w.alloc (.stringIter ⟨l.toArray⟩ 0), w.heap.size, ?_, ?_, Rep.lit _⟩
  · simp [execOp, h1.lit rfl hs, Instr.range, run_underlying hT]
  · refine hs.alloc _ _ rfl ?_
    intro N hN
    exact ⟨alloc_new _ _, by intro c T fr h; cases h⟩

theorem W.nxtT (i : Nat) {d : Tmp} {o : Operand} {l : List UInt8} {b p : Nat} (h1 : Ov true L o (.lit (.pointer (some ⟨b, 0, none⟩)))) (hM : M[i]? = some (ME.obj b (.stringIter ⟨l.toArray⟩ p))) (hp : p < l.length) (hd : Nat.blt d x.n = true)
    (next : W x ((d, true, .tup [.lit (.bool true), .lit (.int .i64 (p : Int)), .lit (.int .i32 ((dec (l.drop p)).1 : Int))]) :: L) (M.set i (ME.obj b (.stringIter ⟨l.toArray⟩ (p + (dec (l.drop p)).2)))) (wpList x.P ops Q rest)) :
    W x L M (wpList x.P ops Q (⟨some d, .next o true, ty, pos, aft, none⟩ :: rest)) := by
  refine W.opv (ι := Unit) (fun _ => M.set i (ME.obj b (.stringIter ⟨l.toArray⟩ (p + (dec (l.drop p)).2)))) (fun _ => .tup [.lit (.bool true), .lit (.int .i64 (p : Int)), .lit (.int .i32 ((dec (l.drop p)).1 : Int))]) hd ?_ (fun _ => next)
  intro a w hs
  obtain ⟨hh, _⟩ := hs.mem.holds _ (List.mem_of_getElem? hM)
  refine ⟨.tuple #[.bool true, .int .i64 p, .int .i32 (dec (l.drop p)).1], { w with heap := w.heap.setIfInBounds b (.stringIter ⟨l.toArray⟩ (p + (dec (l.drop p)).2)) }, (), ?_, ?_, ?_⟩
  · have hsz : p < (ByteArray.mk l.toArray).size := by rw [size_mk]; exact hp
    simp only [execOp, h1.lit rfl hs, Instr.next, getObj, setObj, Sem.run_bind, Sem.run, hh, Result.andThen_ok, if_pos hsz, decode_drop]
    simp [goInt, hh, Sem.run]
  · refine hs.write hM rfl rfl ?_
    intro w' _ hnew _
    exact ⟨hnew, by intro c T fr h; cases h⟩
  · refine ⟨rfl, ?_⟩
    simp only [RepC]
    exact ⟨_, rfl, by simp only [RepT]; exact ⟨_, _, rfl, Rep.lit _, _, _, rfl, Rep.lit _, _, _, rfl, Rep.lit _, rfl⟩⟩

theorem W.nxtF (i : Nat) {d : Tmp} {o : Operand} {l : List UInt8} {b p : Nat} (h1 : Ov true L o (.lit (.pointer (some ⟨b, 0, none⟩)))) (hM : M[i]? = some (ME.obj b (.stringIter ⟨l.toArray⟩ p))) (hp : ¬ p < l.length) (hd : Nat.blt d x.n = true)
    (next : W x ((d, true, .tup [.lit (.bool false)]) :: L) M (wpList x.P ops Q rest)) :
    W x L M (wpList x.P ops Q (⟨some d, .next o true, ty, pos, aft, none⟩ :: rest)) := by
  refine W.q (fun a w hs hg => ?_) hd next
  obtain ⟨hh, _⟩ := hs.mem.holds _ (List.mem_of_getElem? hM)
  have hsz : ¬ p < (ByteArray.mk l.toArray).size := by rw [size_mk]; exact hp
  refine ⟨.tuple #[.bool false], ?_, rfl, ?_⟩
  · simp only [execOp, h1.lit rfl hs, Instr.next, getObj, Sem.run_bind, Sem.run, hh, Result.andThen_ok, if_neg hsz]
    rfl
  · simp only [RepC]
    exact ⟨_, rfl, by simp only [RepT]; exact ⟨_, _, rfl, Rep.lit _, rfl⟩⟩

/-! ### bytes as a string -/
theorem RepE.bytes {w : World} {N : List Nat} : ∀ {l : List UInt8} {row : List Value}, RepE w N 1 (l.map AV.u8) row → row.take l.length = l.map fun b => Value.int .u8 (b.toNat : Int)
  | [], row, _ => by simp
  | b :: l, row, h => by
    simp only [List.map_cons, RepE, RepC] at h
    obtain ⟨h1, h2, h3⟩ := h
    have ih := RepE.bytes h3
    match row, h1 with
    | v :: row, _ =>
      simp [Value.cells] at h2
      subst h2
      simp only [List.drop_succ_cons, List.drop_zero] at ih
      simp [ih]

theorem bytes_loop (P : Program) (w : World) (f : Value → ByteArray → Sem (ForInStep ByteArray)) (hf : ∀ (b : UInt8) (r : ByteArray), (f (.int .u8 (b.toNat : Int)) r).run P w = .ok (.yield (r.push b)) w) :
    ∀ (l : List UInt8) (acc : ByteArray), (forIn (m := Sem) (l.map fun b => Value.int .u8 (b.toNat : Int)) acc f).run P w = .ok ⟨(acc.data.toList ++ l).toArray⟩ w
  | [], acc => by simp
  | b :: l, acc => by
    simp only [List.map_cons, List.forIn_cons, Sem.run_bind, hf, Result.andThen_ok]
    rw [bytes_loop P w f hf l]
    simp [ByteArray.push]

theorem run_b2s {P : Program} {w : World} {N : List Nat} {ad : Option Addr} {cap : Nat} {l : List UInt8} (h : Src0 P w N 1 (.slice ad l.length cap) (l.map AV.u8)) (hnil : ad = none → l = []) : (Conv.bytesToString (.slice ad l.length cap)).run P w = .ok (.string ⟨l.toArray⟩) w := by
  obtain ⟨_, news, h1, h2, h3⟩ := h
  cases ad with
  | none => have := hnil rfl; subst this; rfl
  | some a =>
    have hf := h3 w rfl
    simp only [List.length_map, Nat.mul_one] at h1 hf
    have hl : (loadCells a l.length).run P w = .ok news w := by simpa [Builtin.firstCells] using hf
    have hn : news = (l.map fun b => Value.int .u8 (b.toNat : Int)).toArray := by
      have := RepE.bytes h2
      rw [List.take_of_length_le (by simp [h1])] at this
      rw [← this]
    simp only [Conv.bytesToString, Sem.run_bind, hl, Result.andThen_ok]
    rw [hn]
    simp only [List.forIn_toArray]
    have hpush : ∀ (b : UInt8), UInt8.ofNat ((b.toNat : Int)).toNat = b := fun b => by simp
    rw [bytes_loop P w _ (fun b r => by simp [hpush])]
    simp

theorem Ev.b2s (i : Nat) {T T' E : TypeId} {o1 : Operand} {v : Value} {U : TypeId} {l : List UInt8} (h1 : Ov true L o1 (.lit v)) (hM : M[i]? = some (ME.arr v U 1 (l.map AV.u8))) (hT : x.P.underlying T = some (.slice E)) (hE : x.P.underlying E = some (.int .u8)) (hT' : x.P.underlying T' = some .string) :
    Ev x true L M (.convert T T' o1) ty (.lit (.string ⟨l.toArray⟩)) := Ev.pure fun a w hs hg => by
  obtain ⟨ad, cap, e, hlc, hcm, hcase⟩ := hs.mem.holds _ (List.mem_of_getElem? hM)
  rw [List.length_map] at e hlc
  have e1 := h1.lit rfl hs
  have hsrc : Src0 x.P w (bl M ++ x.F) 1 (.slice ad l.length cap) (l.map AV.u8) := by
    refine src0_cells (by simp) ?_
    rcases hcase with ⟨_, hc⟩ | ⟨g, off, cur, lo, hi, rfl, hc, _, _, hE⟩
    · left; have : l.length = 0 := by omega
      rw [List.eq_nil_of_length_eq_zero this]; rfl
    · exact .inr ⟨g, off, cur, U, (lo, hi), rfl, hc, hE⟩
  have hnil : ad = none → l = [] := by
    rintro rfl
    rcases hcase with ⟨_, hc⟩ | ⟨g, off, cur, lo, hi, h, _⟩
    · exact List.eq_nil_of_length_eq_zero (by omega)
    · cases h
  have hr := run_b2s hsrc hnil
  rw [e] at e1
  simp only [execOp, e1, convert, Sem.run_bind, run_underlying hT, run_underlying hT', Result.andThen_ok, run_underlying hE, hr, Sem.run_pure]
end iter
end Go.Vl
