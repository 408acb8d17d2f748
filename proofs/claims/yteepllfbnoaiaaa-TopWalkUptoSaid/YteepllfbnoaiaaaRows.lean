/-
  No cell of these rows narrows 'for every input' (looked for: loops, veiled, ifaces, maps, wideKeys, modest, calm, conditions, laid).
  DERIVED. THE GIVEN ROWS OF THIS SEAT. 11 by the template 'for every input the law returns true; each argument reads behind the call as it read before'; 0 by the template 'total and deterministic' (their statements: YteepllfbnoaiaaaTotals.lean).
  GIVEN WITH THE SEED: the statements are not yours to turn. If you find one false, say at which input.
  Laid BY PROGRAM, IN A SANDBOX (cutbox-rows.mjs): the forced cells as the released guide's own fill.sh prints them over the translation f2d8abdbc724eae0… (all of the seat's roots in one cut). By AI agents, Wed Nov 11 2026. No macro, syntax, notation, axiom, sorry.
-/
import Derived.Test.YteepllfbnoaiaaaChecked
import GoSem.Claim
import GoSem.ClaimJoined
import GoSem.ClaimMapViews
import Derived.JoinedTies
import Derived.KernelRfl
namespace Go.Proofs.Yteepllfbnoaiaaa
/- THE CELL 'sum', in the pinned program and in every row, IS THE sha256 OF THE DUMP (.gsa) THAT YteepllfbnoaiaaaProg.lean LOADS. Nothing in Lean hashes anything: it is a label: what it is worth is what the hold of that sum in a sandbox is worth. -/
noncomputable def Try.pinned : Pinned := { name := "yteepllfbnoaiaaa", sum := "f2d8abdbc724eae061e6ed8c498debff66ef4eed2aca516073d460f109aa94ba", checked := Try.checked }
namespace Rows
def none {H : Type} : Left H := { results := [], args := [] }

/-- 'bobbinetkeep.PickLast': WHATEVER THE INPUT: true; the input reads as it did. -/
def pickLastSpec : ChangeSpec := { name := "pickLast", fn := fun _ => fun
  | [d1, d2] => { results := [.lit (.bool true)], args := [d1, d2] }
  | _ => none }
def pickLastRow : OpenClaim := { program := "yteepllfbnoaiaaa", sum := "f2d8abdbc724eae061e6ed8c498debff66ef4eed2aca516073d460f109aa94ba", func := "bobbinet/bobbinetkeep.PickLast", spec := "pickLast", unfollowed := true, recurses := true, apart := false }
def PickLastSaid : Prop := pickLastRow.holds Try.pinned (OpenSpec.ofChange pickLastSpec)

/-- ITS FALSE NEIGHBOUR: 'it returns false'. Refute it at one input. -/
def pickLastWrong : ChangeSpec := { name := "pickLast", fn := fun _ => fun
  | [d1, d2] => { results := [.lit (.bool false)], args := [d1, d2] }
  | _ => none }
def PickLastWrongFalsely : Prop := pickLastRow.holds Try.pinned (OpenSpec.ofChange pickLastWrong)

/-- 'bobbinetkeep.PickDeep': WHATEVER THE INPUT: true; the input reads as it did. -/
def pickDeepSpec : ChangeSpec := { name := "pickDeep", fn := fun _ => fun
  | [d1, d2] => { results := [.lit (.bool true)], args := [d1, d2] }
  | _ => none }
def pickDeepRow : OpenClaim := { program := "yteepllfbnoaiaaa", sum := "f2d8abdbc724eae061e6ed8c498debff66ef4eed2aca516073d460f109aa94ba", func := "bobbinet/bobbinetkeep.PickDeep", spec := "pickDeep", unfollowed := true, recurses := true, apart := false }
def PickDeepSaid : Prop := pickDeepRow.holds Try.pinned (OpenSpec.ofChange pickDeepSpec)

/-- ITS FALSE NEIGHBOUR: 'it returns false'. Refute it at one input. -/
def pickDeepWrong : ChangeSpec := { name := "pickDeep", fn := fun _ => fun
  | [d1, d2] => { results := [.lit (.bool false)], args := [d1, d2] }
  | _ => none }
def PickDeepWrongFalsely : Prop := pickDeepRow.holds Try.pinned (OpenSpec.ofChange pickDeepWrong)

/-- 'bobbinetkeep.PickCount': WHATEVER THE INPUT: true; the input reads as it did. -/
def pickCountSpec : ChangeSpec := { name := "pickCount", fn := fun _ => fun
  | [d1, d2] => { results := [.lit (.bool true)], args := [d1, d2] }
  | _ => none }
def pickCountRow : OpenClaim := { program := "yteepllfbnoaiaaa", sum := "f2d8abdbc724eae061e6ed8c498debff66ef4eed2aca516073d460f109aa94ba", func := "bobbinet/bobbinetkeep.PickCount", spec := "pickCount", unfollowed := true, recurses := true, apart := false }
def PickCountSaid : Prop := pickCountRow.holds Try.pinned (OpenSpec.ofChange pickCountSpec)

/-- ITS FALSE NEIGHBOUR: 'it returns false'. Refute it at one input. -/
def pickCountWrong : ChangeSpec := { name := "pickCount", fn := fun _ => fun
  | [d1, d2] => { results := [.lit (.bool false)], args := [d1, d2] }
  | _ => none }
def PickCountWrongFalsely : Prop := pickCountRow.holds Try.pinned (OpenSpec.ofChange pickCountWrong)

/-- 'bobbinetkeep.PickWithin': WHATEVER THE INPUT: true; the input reads as it did. -/
def pickWithinSpec : ChangeSpec := { name := "pickWithin", fn := fun _ => fun
  | [d1, d2, d3] => { results := [.lit (.bool true)], args := [d1, d2, d3] }
  | _ => none }
def pickWithinRow : OpenClaim := { program := "yteepllfbnoaiaaa", sum := "f2d8abdbc724eae061e6ed8c498debff66ef4eed2aca516073d460f109aa94ba", func := "bobbinet/bobbinetkeep.PickWithin", spec := "pickWithin", unfollowed := true, recurses := true, apart := false }
def PickWithinSaid : Prop := pickWithinRow.holds Try.pinned (OpenSpec.ofChange pickWithinSpec)

/-- ITS FALSE NEIGHBOUR: 'it returns false'. Refute it at one input. -/
def pickWithinWrong : ChangeSpec := { name := "pickWithin", fn := fun _ => fun
  | [d1, d2, d3] => { results := [.lit (.bool false)], args := [d1, d2, d3] }
  | _ => none }
def PickWithinWrongFalsely : Prop := pickWithinRow.holds Try.pinned (OpenSpec.ofChange pickWithinWrong)

/-- 'bobbinetkeep.RulesOnly': WHATEVER THE INPUT: true; the input reads as it did. -/
def rulesOnlySpec : ChangeSpec := { name := "rulesOnly", fn := fun _ => fun
  | [d1, d2] => { results := [.lit (.bool true)], args := [d1, d2] }
  | _ => none }
def rulesOnlyRow : OpenClaim := { program := "yteepllfbnoaiaaa", sum := "f2d8abdbc724eae061e6ed8c498debff66ef4eed2aca516073d460f109aa94ba", func := "bobbinet/bobbinetkeep.RulesOnly", spec := "rulesOnly", unfollowed := true, recurses := true, apart := false }
def RulesOnlySaid : Prop := rulesOnlyRow.holds Try.pinned (OpenSpec.ofChange rulesOnlySpec)

/-- ITS FALSE NEIGHBOUR: 'it returns false'. Refute it at one input. -/
def rulesOnlyWrong : ChangeSpec := { name := "rulesOnly", fn := fun _ => fun
  | [d1, d2] => { results := [.lit (.bool false)], args := [d1, d2] }
  | _ => none }
def RulesOnlyWrongFalsely : Prop := rulesOnlyRow.holds Try.pinned (OpenSpec.ofChange rulesOnlyWrong)

/-- 'bobbinettop.TopWalk': WHATEVER THE INPUT: true; the input reads as it did. -/
def topWalkSpec : ChangeSpec := { name := "topWalk", fn := fun _ => fun
  | [d] => { results := [.lit (.bool true)], args := [d] }
  | _ => none }
def topWalkRow : OpenClaim := { program := "yteepllfbnoaiaaa", sum := "f2d8abdbc724eae061e6ed8c498debff66ef4eed2aca516073d460f109aa94ba", func := "bobbinet/bobbinettop.TopWalk", spec := "topWalk", inPlace := ["slices.overlaps[bobbinet/api.Node]"], recurses := true, apart := false }
def TopWalkSaid : Prop := topWalkRow.holds Try.pinned (OpenSpec.ofChange topWalkSpec)

/-- ITS FALSE NEIGHBOUR: 'it returns false'. Refute it at one input. -/
def topWalkWrong : ChangeSpec := { name := "topWalk", fn := fun _ => fun
  | [d] => { results := [.lit (.bool false)], args := [d] }
  | _ => none }
def TopWalkWrongFalsely : Prop := topWalkRow.holds Try.pinned (OpenSpec.ofChange topWalkWrong)

/-- 'bobbinetkeep.RulesTwice': WHATEVER THE INPUT: true; the input reads as it did. -/
def rulesTwiceSpec : ChangeSpec := { name := "rulesTwice", fn := fun _ => fun
  | [d1, d2] => { results := [.lit (.bool true)], args := [d1, d2] }
  | _ => none }
def rulesTwiceRow : OpenClaim := { program := "yteepllfbnoaiaaa", sum := "f2d8abdbc724eae061e6ed8c498debff66ef4eed2aca516073d460f109aa94ba", func := "bobbinet/bobbinetkeep.RulesTwice", spec := "rulesTwice", unfollowed := true, recurses := true, apart := false }
def RulesTwiceSaid : Prop := rulesTwiceRow.holds Try.pinned (OpenSpec.ofChange rulesTwiceSpec)

/-- ITS FALSE NEIGHBOUR: 'it returns false'. Refute it at one input. -/
def rulesTwiceWrong : ChangeSpec := { name := "rulesTwice", fn := fun _ => fun
  | [d1, d2] => { results := [.lit (.bool false)], args := [d1, d2] }
  | _ => none }
def RulesTwiceWrongFalsely : Prop := rulesTwiceRow.holds Try.pinned (OpenSpec.ofChange rulesTwiceWrong)

/-- 'bobbinetkeep.RulesPlain': WHATEVER THE INPUT: true; the input reads as it did. -/
def rulesPlainSpec : ChangeSpec := { name := "rulesPlain", fn := fun _ => fun
  | [d] => { results := [.lit (.bool true)], args := [d] }
  | _ => none }
def rulesPlainRow : OpenClaim := { program := "yteepllfbnoaiaaa", sum := "f2d8abdbc724eae061e6ed8c498debff66ef4eed2aca516073d460f109aa94ba", func := "bobbinet/bobbinetkeep.RulesPlain", spec := "rulesPlain", unfollowed := true, recurses := true, apart := false }
def RulesPlainSaid : Prop := rulesPlainRow.holds Try.pinned (OpenSpec.ofChange rulesPlainSpec)

/-- ITS FALSE NEIGHBOUR: 'it returns false'. Refute it at one input. -/
def rulesPlainWrong : ChangeSpec := { name := "rulesPlain", fn := fun _ => fun
  | [d] => { results := [.lit (.bool false)], args := [d] }
  | _ => none }
def RulesPlainWrongFalsely : Prop := rulesPlainRow.holds Try.pinned (OpenSpec.ofChange rulesPlainWrong)

/-- 'bobbinetkeep.EmitParts': WHATEVER THE INPUT: true; the input reads as it did. -/
def emitPartsSpec : ChangeSpec := { name := "emitParts", fn := fun _ => fun
  | [d1, d2] => { results := [.lit (.bool true)], args := [d1, d2] }
  | _ => none }
def emitPartsRow : OpenClaim := { program := "yteepllfbnoaiaaa", sum := "f2d8abdbc724eae061e6ed8c498debff66ef4eed2aca516073d460f109aa94ba", func := "bobbinet/bobbinetkeep.EmitParts", spec := "emitParts", inPlace := ["internal/abi.NoEscape"], unfollowed := true, recurses := true, apart := false }
def EmitPartsSaid : Prop := emitPartsRow.holds Try.pinned (OpenSpec.ofChange emitPartsSpec)

/-- ITS FALSE NEIGHBOUR: 'it returns false'. Refute it at one input. -/
def emitPartsWrong : ChangeSpec := { name := "emitParts", fn := fun _ => fun
  | [d1, d2] => { results := [.lit (.bool false)], args := [d1, d2] }
  | _ => none }
def EmitPartsWrongFalsely : Prop := emitPartsRow.holds Try.pinned (OpenSpec.ofChange emitPartsWrong)

/-- 'bobbinetkeep.ShowParts': WHATEVER THE INPUT: true; the input reads as it did. -/
def showPartsSpec : ChangeSpec := { name := "showParts", fn := fun _ => fun
  | [d1, d2] => { results := [.lit (.bool true)], args := [d1, d2] }
  | _ => none }
def showPartsRow : OpenClaim := { program := "yteepllfbnoaiaaa", sum := "f2d8abdbc724eae061e6ed8c498debff66ef4eed2aca516073d460f109aa94ba", func := "bobbinet/bobbinetkeep.ShowParts", spec := "showParts", inPlace := ["internal/abi.NoEscape"], unfollowed := true, recurses := true, apart := false }
def ShowPartsSaid : Prop := showPartsRow.holds Try.pinned (OpenSpec.ofChange showPartsSpec)

/-- ITS FALSE NEIGHBOUR: 'it returns false'. Refute it at one input. -/
def showPartsWrong : ChangeSpec := { name := "showParts", fn := fun _ => fun
  | [d1, d2] => { results := [.lit (.bool false)], args := [d1, d2] }
  | _ => none }
def ShowPartsWrongFalsely : Prop := showPartsRow.holds Try.pinned (OpenSpec.ofChange showPartsWrong)

/-- 'bobbinetkeep.WalkElsewhere': WHATEVER THE INPUT: true; the input reads as it did. -/
def walkElsewhereSpec : ChangeSpec := { name := "walkElsewhere", fn := fun _ => fun
  | [d1, d2, d3] => { results := [.lit (.bool true)], args := [d1, d2, d3] }
  | _ => none }
def walkElsewhereRow : OpenClaim := { program := "yteepllfbnoaiaaa", sum := "f2d8abdbc724eae061e6ed8c498debff66ef4eed2aca516073d460f109aa94ba", func := "bobbinet/bobbinetkeep.WalkElsewhere", spec := "walkElsewhere", inPlace := ["slices.overlaps[bobbinet/api.Node]"], recurses := true, apart := false }
def WalkElsewhereSaid : Prop := walkElsewhereRow.holds Try.pinned (OpenSpec.ofChange walkElsewhereSpec)

/-- ITS FALSE NEIGHBOUR: 'it returns false'. Refute it at one input. -/
def walkElsewhereWrong : ChangeSpec := { name := "walkElsewhere", fn := fun _ => fun
  | [d1, d2, d3] => { results := [.lit (.bool false)], args := [d1, d2, d3] }
  | _ => none }
def WalkElsewhereWrongFalsely : Prop := walkElsewhereRow.holds Try.pinned (OpenSpec.ofChange walkElsewhereWrong)

/- THE SECOND FORM. 'bulk': how many values and letters a reading holds, each counted each time it is reached (what is shared counts as often as it is met; a slice's spare places count too). A statement '..UptoSaid' is the law's where the arguments, and the package variables that the reading takes, are together of bulk at most 1048576: NARROWER than '..Said'. Prove '..Said' where nothing that the law and all that it calls make is longer than what came in: it says more and counts as full. Else prove '..UptoSaid'. A law counts once. -/
mutual
def uptoBulk {H : Type} : DataW H → Nat
  | .lit (.string bytes) => bytes.length + 1
  | .lit _ => 1
  | .nil => 1
  | .ptr d => uptoBulk d + 1
  | .slice elems spare => uptoBulkAll elems + uptoBulkAll spare + 1
  | .agg parts => uptoBulkAll parts + 1
  | .iface _ d => uptoBulk d + 1
  | .map entries => uptoBulkEntries entries + 1
  | .held _ => 1
def uptoBulkAll {H : Type} : List (DataW H) → Nat
  | [] => 0
  | d :: r => uptoBulk d + uptoBulkAll r
def uptoBulkEntries {H : Type} : List (Lit × DataW H) → Nat
  | [] => 0
  | x :: r => uptoBulkEntry x + uptoBulkEntries r
def uptoBulkEntry {H : Type} : Lit × DataW H → Nat
  | (.string bytes, d) => bytes.length + uptoBulk d + 1
  | (_, d) => uptoBulk d + 1
 end
def uptoSmall : (H : Type) → List (DataW H) → Bool := fun _ ds => decide (uptoBulkAll ds ≤ 1048576)
def OpenSpec.upto (s : _root_.Go.ChangeSpec) : _root_.Go.OpenSpec := { _root_.Go.OpenSpec.ofChange s with cond := some uptoSmall }

/-- 'bobbinetkeep.PickLast', WHERE WHAT IT READS IS OF BULK AT MOST 1048576: true; the input reads as it did. -/
def pickLastUptoRow : OpenClaim := { program := "yteepllfbnoaiaaa", sum := "f2d8abdbc724eae061e6ed8c498debff66ef4eed2aca516073d460f109aa94ba", func := "bobbinet/bobbinetkeep.PickLast", spec := "pickLast", unfollowed := true, recurses := true, apart := false, narrowed := true }
def PickLastUptoSaid : Prop := pickLastUptoRow.holds Try.pinned (OpenSpec.upto pickLastSpec)

/-- 'bobbinetkeep.PickDeep', WHERE WHAT IT READS IS OF BULK AT MOST 1048576: true; the input reads as it did. -/
def pickDeepUptoRow : OpenClaim := { program := "yteepllfbnoaiaaa", sum := "f2d8abdbc724eae061e6ed8c498debff66ef4eed2aca516073d460f109aa94ba", func := "bobbinet/bobbinetkeep.PickDeep", spec := "pickDeep", unfollowed := true, recurses := true, apart := false, narrowed := true }
def PickDeepUptoSaid : Prop := pickDeepUptoRow.holds Try.pinned (OpenSpec.upto pickDeepSpec)

/-- 'bobbinetkeep.PickCount', WHERE WHAT IT READS IS OF BULK AT MOST 1048576: true; the input reads as it did. -/
def pickCountUptoRow : OpenClaim := { program := "yteepllfbnoaiaaa", sum := "f2d8abdbc724eae061e6ed8c498debff66ef4eed2aca516073d460f109aa94ba", func := "bobbinet/bobbinetkeep.PickCount", spec := "pickCount", unfollowed := true, recurses := true, apart := false, narrowed := true }
def PickCountUptoSaid : Prop := pickCountUptoRow.holds Try.pinned (OpenSpec.upto pickCountSpec)

/-- 'bobbinetkeep.PickWithin', WHERE WHAT IT READS IS OF BULK AT MOST 1048576: true; the input reads as it did. -/
def pickWithinUptoRow : OpenClaim := { program := "yteepllfbnoaiaaa", sum := "f2d8abdbc724eae061e6ed8c498debff66ef4eed2aca516073d460f109aa94ba", func := "bobbinet/bobbinetkeep.PickWithin", spec := "pickWithin", unfollowed := true, recurses := true, apart := false, narrowed := true }
def PickWithinUptoSaid : Prop := pickWithinUptoRow.holds Try.pinned (OpenSpec.upto pickWithinSpec)

/-- 'bobbinetkeep.RulesOnly', WHERE WHAT IT READS IS OF BULK AT MOST 1048576: true; the input reads as it did. -/
def rulesOnlyUptoRow : OpenClaim := { program := "yteepllfbnoaiaaa", sum := "f2d8abdbc724eae061e6ed8c498debff66ef4eed2aca516073d460f109aa94ba", func := "bobbinet/bobbinetkeep.RulesOnly", spec := "rulesOnly", unfollowed := true, recurses := true, apart := false, narrowed := true }
def RulesOnlyUptoSaid : Prop := rulesOnlyUptoRow.holds Try.pinned (OpenSpec.upto rulesOnlySpec)

/-- 'bobbinettop.TopWalk', WHERE WHAT IT READS IS OF BULK AT MOST 1048576: true; the input reads as it did. -/
def topWalkUptoRow : OpenClaim := { program := "yteepllfbnoaiaaa", sum := "f2d8abdbc724eae061e6ed8c498debff66ef4eed2aca516073d460f109aa94ba", func := "bobbinet/bobbinettop.TopWalk", spec := "topWalk", inPlace := ["slices.overlaps[bobbinet/api.Node]"], recurses := true, apart := false, narrowed := true }
def TopWalkUptoSaid : Prop := topWalkUptoRow.holds Try.pinned (OpenSpec.upto topWalkSpec)

/-- 'bobbinetkeep.RulesTwice', WHERE WHAT IT READS IS OF BULK AT MOST 1048576: true; the input reads as it did. -/
def rulesTwiceUptoRow : OpenClaim := { program := "yteepllfbnoaiaaa", sum := "f2d8abdbc724eae061e6ed8c498debff66ef4eed2aca516073d460f109aa94ba", func := "bobbinet/bobbinetkeep.RulesTwice", spec := "rulesTwice", unfollowed := true, recurses := true, apart := false, narrowed := true }
def RulesTwiceUptoSaid : Prop := rulesTwiceUptoRow.holds Try.pinned (OpenSpec.upto rulesTwiceSpec)

/-- 'bobbinetkeep.RulesPlain', WHERE WHAT IT READS IS OF BULK AT MOST 1048576: true; the input reads as it did. -/
def rulesPlainUptoRow : OpenClaim := { program := "yteepllfbnoaiaaa", sum := "f2d8abdbc724eae061e6ed8c498debff66ef4eed2aca516073d460f109aa94ba", func := "bobbinet/bobbinetkeep.RulesPlain", spec := "rulesPlain", unfollowed := true, recurses := true, apart := false, narrowed := true }
def RulesPlainUptoSaid : Prop := rulesPlainUptoRow.holds Try.pinned (OpenSpec.upto rulesPlainSpec)

/-- 'bobbinetkeep.EmitParts', WHERE WHAT IT READS IS OF BULK AT MOST 1048576: true; the input reads as it did. -/
def emitPartsUptoRow : OpenClaim := { program := "yteepllfbnoaiaaa", sum := "f2d8abdbc724eae061e6ed8c498debff66ef4eed2aca516073d460f109aa94ba", func := "bobbinet/bobbinetkeep.EmitParts", spec := "emitParts", inPlace := ["internal/abi.NoEscape"], unfollowed := true, recurses := true, apart := false, narrowed := true }
def EmitPartsUptoSaid : Prop := emitPartsUptoRow.holds Try.pinned (OpenSpec.upto emitPartsSpec)

/-- 'bobbinetkeep.ShowParts', WHERE WHAT IT READS IS OF BULK AT MOST 1048576: true; the input reads as it did. -/
def showPartsUptoRow : OpenClaim := { program := "yteepllfbnoaiaaa", sum := "f2d8abdbc724eae061e6ed8c498debff66ef4eed2aca516073d460f109aa94ba", func := "bobbinet/bobbinetkeep.ShowParts", spec := "showParts", inPlace := ["internal/abi.NoEscape"], unfollowed := true, recurses := true, apart := false, narrowed := true }
def ShowPartsUptoSaid : Prop := showPartsUptoRow.holds Try.pinned (OpenSpec.upto showPartsSpec)

/-- 'bobbinetkeep.WalkElsewhere', WHERE WHAT IT READS IS OF BULK AT MOST 1048576: true; the input reads as it did. -/
def walkElsewhereUptoRow : OpenClaim := { program := "yteepllfbnoaiaaa", sum := "f2d8abdbc724eae061e6ed8c498debff66ef4eed2aca516073d460f109aa94ba", func := "bobbinet/bobbinetkeep.WalkElsewhere", spec := "walkElsewhere", inPlace := ["slices.overlaps[bobbinet/api.Node]"], recurses := true, apart := false, narrowed := true }
def WalkElsewhereUptoSaid : Prop := walkElsewhereUptoRow.holds Try.pinned (OpenSpec.upto walkElsewhereSpec)

end Rows
end Go.Proofs.Yteepllfbnoaiaaa
