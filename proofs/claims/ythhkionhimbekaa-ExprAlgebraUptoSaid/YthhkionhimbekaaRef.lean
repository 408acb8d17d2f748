/-
  Letters by their names, without a program.
-/
import Derived.Test.YthhkionhimbekaaEmit
import Derived.Laws.Externs
import Derived.Lib.Bytealg
set_option linter.unusedVariables false
set_option linter.unusedSimpArgs false
namespace Go.Vl
/-- a letter of an escaped text: as it is, or by its name -/
abbrev Pc := UInt8 × Bool
namespace Pc
def nm (c : UInt8) : List UInt8 := if c = 38 then [97, 109, 112] else if c = 60 then [108, 116] else if c = 62 then [103, 116] else [113, 117, 111, 116]
def txt (p : Pc) : List UInt8 := if p.2 = true then 38 :: (nm p.1 ++ [59]) else [p.1]
def ok (p : Pc) : Prop := if p.2 = true then (p.1 = 38 ∨ p.1 = 60 ∨ p.1 = 62 ∨ p.1 = 34) else p.1 ≠ 38
def flat (e : List Pc) : List UInt8 := e.flatMap txt
def of (q : Bool) (c : UInt8) : Pc := (c, decide (c = 38 ∨ c = 60 ∨ c = 62 ∨ (c = 34 ∧ q = true)))
theorem of_txt (q : Bool) (c : UInt8) : txt (of q c) = esc1 q c := by
  unfold txt of esc1 nm
  by_cases h1 : c = 38
  · simp [h1]
  · by_cases h2 : c = 60
    · simp [h2]
    · by_cases h3 : c = 62
      · simp [h3]
      · by_cases h4 : c = 34 ∧ q = true
        · simp [h4.1, h4.2]
        · simp [h1, h2, h3, h4]
theorem of_ok (q : Bool) (c : UInt8) : ok (of q c) := by
  unfold ok of
  by_cases h : c = 38 ∨ c = 60 ∨ c = 62 ∨ (c = 34 ∧ q = true)
  · simp only [h, decide_true, if_true]
    rcases h with h | h | h | h
    · exact .inl h
    · exact .inr (.inl h)
    · exact .inr (.inr (.inl h))
    · exact .inr (.inr (.inr h.1))
  · simp only [h, decide_false]
    exact fun h' => h (.inl h')
theorem esc_flat (q : Bool) (s : List UInt8) : flat (s.map (of q)) = esc q s := by
  rw [flat, esc, List.flatMap_map]
  exact congrArg (fun f => s.flatMap f) (funext (of_txt q))
theorem fst_of (q : Bool) (s : List UInt8) : (s.map (of q)).map Prod.fst = s := by
  rw [List.map_map]; exact List.map_id'' (fun _ => rfl) s
theorem ok_of (q : Bool) (s : List UInt8) : ∀ p ∈ s.map (of q), ok p := by
  intro p hp
  obtain ⟨c, _, rfl⟩ := List.mem_map.1 hp
  exact of_ok q c
/-- letters that are as they are -/
theorem raw_flat (s : List UInt8) : flat (s.map fun c => (c, false)) = s := by
  induction s with
  | nil => rfl
  | cons c s ih =>
    have : flat ((c :: s).map fun c => (c, false)) = c :: flat (s.map fun c => (c, false)) := rfl
    rw [this, ih]
theorem raw_ok (s : List UInt8) (h : ∀ c ∈ s, c ≠ 38) : ∀ p ∈ s.map (fun c => ((c, false) : Pc)), ok p := by
  intro p hp
  obtain ⟨c, hc, rfl⟩ := List.mem_map.1 hp
  exact h c hc
theorem raw_fst (s : List UInt8) : (s.map fun c => ((c, false) : Pc)).map Prod.fst = s := by
  rw [List.map_map]; exact List.map_id'' (fun _ => rfl) s
abbrev dfl : Pc := (0, false)
theorem flat_snoc (e : List Pc) (k : Nat) (h : k < e.length) : flat (e.take (k + 1)) = flat (e.take k) ++ txt (e.getD k dfl) := by
  rw [take_getDG dfl e k h, flat, List.flatMap_append]; simp [flat]
theorem flat_split (e : List Pc) (k : Nat) (h : k < e.length) : flat e = flat (e.take k) ++ (txt (e.getD k dfl) ++ flat (e.drop (k + 1))) := by
  rw [← List.append_assoc, ← flat_snoc e k h, flat, flat, flat, ← List.flatMap_append, List.take_append_drop]
theorem nm_len (c : UInt8) : 2 ≤ (nm c).length ∧ (nm c).length ≤ 4 := by
  unfold nm; split; decide; split; decide; split; decide; decide
theorem nm_no (c : UInt8) : ∀ b ∈ nm c, b ≠ 59 ∧ b ≠ 35 := by
  unfold nm; split; decide; split; decide; split; decide; decide
theorem idx_app (A B : List UInt8) (h : ∀ b ∈ A, b ≠ 59) : idxI (fun b => b == 59) (A ++ 59 :: B) = A.length := by
  induction A with
  | nil => simp [idxI]
  | cons a A ih =>
    have h1 := ih (fun b hb => h b (List.mem_cons_of_mem _ hb))
    have h2 : a ≠ 59 := h a List.mem_cons_self
    rw [List.cons_append, idxI, if_neg (by simpa using h2), h1, if_neg (by omega)]
    simp
/-- where a letter's name ends -/
theorem idx_nm (c : UInt8) (B : List UInt8) : idxI (fun b => b == 59) (38 :: (nm c ++ [59]) ++ B) = (nm c).length + 1 := by
  have := idx_app (38 :: nm c) B (fun b hb => by
    rcases List.mem_cons.1 hb with rfl | hb
    · decide
    · exact (nm_no c b hb).1)
  rw [show 38 :: (nm c ++ [59]) ++ B = (38 :: nm c) ++ 59 :: B from by simp, this]
  simp
/-- nothing in an escaped text begins a tag or ends a value -/
theorem esc_no (q : Bool) (s : List UInt8) : ∀ c ∈ esc q s, c ≠ 60 ∧ c ≠ 62 ∧ (q = true → c ≠ 34) := by
  intro c hc
  obtain ⟨b, _, hb⟩ := List.mem_flatMap.1 hc
  revert hb
  unfold esc1
  split
  · exact fun hm => have h := (by decide : ∀ c ∈ ([38, 97, 109, 112, 59] : List UInt8), c ≠ 60 ∧ c ≠ 62 ∧ c ≠ 34) c hm; ⟨h.1, h.2.1, fun _ => h.2.2⟩
  · split
    · exact fun hm => have h := (by decide : ∀ c ∈ ([38, 108, 116, 59] : List UInt8), c ≠ 60 ∧ c ≠ 62 ∧ c ≠ 34) c hm; ⟨h.1, h.2.1, fun _ => h.2.2⟩
    · split
      · exact fun hm => have h := (by decide : ∀ c ∈ ([38, 103, 116, 59] : List UInt8), c ≠ 60 ∧ c ≠ 62 ∧ c ≠ 34) c hm; ⟨h.1, h.2.1, fun _ => h.2.2⟩
      · split
        · exact fun hm => have h := (by decide : ∀ c ∈ ([38, 113, 117, 111, 116, 59] : List UInt8), c ≠ 60 ∧ c ≠ 62 ∧ c ≠ 34) c hm; ⟨h.1, h.2.1, fun _ => h.2.2⟩
        · rename_i h1 h2 h3 h4
          intro hm
          obtain rfl := List.mem_singleton.1 hm
          exact ⟨h2, h3, fun hq h => h4 ⟨h, hq⟩⟩
end Pc
open Go Go.Sem
theorem idx_lib (c : UInt8) : ∀ l : List UInt8, Lib.indexByte l c = idxI (fun b => b == c) l
  | [] => rfl
  | b :: l => by
    have ih := idx_lib c l
    have hg := idxI_ge (fun b => b == c) l
    rw [Lib.indexByte, idxI, ih]
    by_cases h : (b == c) = true
    · rw [if_pos h, if_pos h]
    · rw [if_neg h, if_neg h]
      by_cases h2 : idxI (fun b => b == c) l = -1
      · rw [h2]; rfl
      · rw [if_neg (by simpa using h2), if_neg (by omega)]
/-- the model stands in for internal/bytealg.IndexByteString -/
theorem Ev.ixb {x : Cx} {g : Bool} {L : List (Tmp × Bool × AV)} {M : List ME} {ty : TypeId} {o1 o2 : Operand} {f : FuncId} {fn : Func} {ats : Array TypeId} {l : List UInt8} {c : UInt8} (hf : x.P.funcs[f]? = some fn) (hname : (fn.name == "runtime.NumGoroutine") = false)
    (hb : fn.body.isNone = true) (hn : Extern.findNext fn = none) (he : Extern.find fn = some Extern.BytealgIndexByte.indexByte) (h1 : Ov g L o1 (.str l)) (h2 : Ov g L o2 (.lit (.int .u8 (c.toNat : Int)))) :
    Ev x g L M (.call ⟨.value (.func f), #[o1, o2], ats⟩) ty (.lit (.int .i64 (idxI (fun b => b == c) l))) :=
  Ev.pure fun a w hst hg => by
    have e1 : a.eval o1 = .string ⟨l.toArray⟩ := h1.lit hg hst
    have e2 : a.eval o2 = .int .u8 (c.toNat : Int) := h2.lit hg hst
    have hv : a.eval (.func f) = .func (.func f) #[] #[] := rfl
    have hc : ((c.toNat : Int)).toNat.toUInt8 = c := by simp
    have hr : (callFunc f #[.string ⟨l.toArray⟩, .int .u8 (c.toNat : Int)]).run x.P w = .ok (.value (.int .i64 (idxI (fun b => b == c) l))) w := by
      rw [run_callFunc_extern hf hname hb hn he, Lib.run_indexByteString, Result.andThen_ok, hc, idx_lib]
    simp only [execOp, resolve, hv, Deferred.ofValue, Sem.run_bind, Sem.run_pure, Result.andThen_ok, invoke, List.map_toArray, List.map_cons, List.map_nil, e1, e2]
    simpa using hr
theorem cut_all (A X : List UInt8) (i j : Nat) (hi : i = A.length) (hj : (A ++ X).length ≤ j) : ((A ++ X).take j).drop i = X := by
  subst hi
  rw [List.take_of_length_le hj, List.drop_left]
theorem cut_mid (A X B : List UInt8) (i j : Nat) (hi : i = A.length) (hj : j = A.length + X.length) : ((A ++ (X ++ B)).take j).drop i = X := by
  subst hi; subst hj
  rw [← List.append_assoc, List.take_append_of_le_length (by rw [List.length_append]; omega), List.take_of_length_le (by rw [List.length_append]; omega), List.drop_left]
end Go.Vl
