/-
  NARROWER THAN 'FOR EVERY INPUT', by the rows' own cells (each row's printed sentence says how): SchemaMore: laid · FitFewer: laid · FitBound: laid · SchemaSpoilt: laid · SchemaFill: laid · FitFixed: laid · FitOdd: laid · FitTree: laid · TopBoth: laid.
  DERIVED. THE GIVEN ROWS OF THIS SEAT. 9 by the template 'for every input the law returns true; each argument reads behind the call as it read before'; 0 by the template 'total and deterministic' (their statements: YtphlkdbglpcikaaGreatDoorTotals.lean).
  GIVEN WITH THE SEED: the statements are not yours to turn. If you find one false, say at which input.
  Laid BY PROGRAM, IN A SANDBOX (cutbox-rows.mjs): the forced cells as the released guide's own fill.sh prints them over the translation f40fa340ee40a06b… (all of the seat's roots in one cut). By AI agents, Wed Nov 11 2026. No macro, syntax, notation, axiom, sorry.
-/
import Derived.Test.YtphlkdbglpcikaaGreatDoorChecked
import GoSem.Claim
import GoSem.ClaimJoined
import GoSem.ClaimMapViews
import Derived.JoinedTies
import Derived.KernelRfl
namespace Go.Proofs.YtphlkdbglpcikaaGreatDoor
/- THE CELL 'sum', in the pinned program and in every row, IS THE sha256 OF THE DUMP (.gsa) THAT YtphlkdbglpcikaaGreatDoorProg.lean LOADS. Nothing in Lean hashes anything: it is a label: what it is worth is what the hold of that sum in a sandbox is worth. -/
noncomputable def Tryz.pinned : Pinned := { name := "ytphlkdbglpcikaagreatdoor", sum := "f40fa340ee40a06bc27fe08503752b8f0bde08d33cea1f7fedf5f5489e1ae874", checked := Tryz.checked }
namespace Rows
def none {H : Type} : Left H := { results := [], args := [] }

/- WHAT THE LISTED PACKAGE-LEVEL VARIABLES READ AS WHEN THE CALL BEGINS. Each datum BY PROGRAM (the guide's laid-datum.mjs) off the statement by which the dump's own 'gosem.cut.vars' lays the variable. In a bare row this is a premise. The card (YtphlkdbglpcikaaGreatDoorCards.lean) ties it to the program's text. -/
def laid_math_bits_deBruijn32tab {H : Type} : DataW H := .agg [.lit (.int .u8 0), .lit (.int .u8 1), .lit (.int .u8 28), .lit (.int .u8 2), .lit (.int .u8 29), .lit (.int .u8 14), .lit (.int .u8 24), .lit (.int .u8 3), .lit (.int .u8 30), .lit (.int .u8 22), .lit (.int .u8 20), .lit (.int .u8 15), .lit (.int .u8 25), .lit (.int .u8 17), .lit (.int .u8 4), .lit (.int .u8 8), .lit (.int .u8 31), .lit (.int .u8 27), .lit (.int .u8 13), .lit (.int .u8 23), .lit (.int .u8 21), .lit (.int .u8 19), .lit (.int .u8 16), .lit (.int .u8 7), .lit (.int .u8 26), .lit (.int .u8 12), .lit (.int .u8 18), .lit (.int .u8 6), .lit (.int .u8 11), .lit (.int .u8 5), .lit (.int .u8 10), .lit (.int .u8 9)]
def laid_math_bits_deBruijn64tab {H : Type} : DataW H := .agg [.lit (.int .u8 0), .lit (.int .u8 1), .lit (.int .u8 56), .lit (.int .u8 2), .lit (.int .u8 57), .lit (.int .u8 49), .lit (.int .u8 28), .lit (.int .u8 3), .lit (.int .u8 61), .lit (.int .u8 58), .lit (.int .u8 42), .lit (.int .u8 50), .lit (.int .u8 38), .lit (.int .u8 29), .lit (.int .u8 17), .lit (.int .u8 4), .lit (.int .u8 62), .lit (.int .u8 47), .lit (.int .u8 59), .lit (.int .u8 36), .lit (.int .u8 45), .lit (.int .u8 43), .lit (.int .u8 51), .lit (.int .u8 22), .lit (.int .u8 53), .lit (.int .u8 39), .lit (.int .u8 33), .lit (.int .u8 30), .lit (.int .u8 24), .lit (.int .u8 18), .lit (.int .u8 12), .lit (.int .u8 5), .lit (.int .u8 63), .lit (.int .u8 55), .lit (.int .u8 48), .lit (.int .u8 27), .lit (.int .u8 60), .lit (.int .u8 41), .lit (.int .u8 37), .lit (.int .u8 16), .lit (.int .u8 46), .lit (.int .u8 35), .lit (.int .u8 44), .lit (.int .u8 21), .lit (.int .u8 52), .lit (.int .u8 32), .lit (.int .u8 23), .lit (.int .u8 11), .lit (.int .u8 54), .lit (.int .u8 26), .lit (.int .u8 40), .lit (.int .u8 15), .lit (.int .u8 34), .lit (.int .u8 20), .lit (.int .u8 31), .lit (.int .u8 10), .lit (.int .u8 25), .lit (.int .u8 14), .lit (.int .u8 19), .lit (.int .u8 9), .lit (.int .u8 13), .lit (.int .u8 8), .lit (.int .u8 7), .lit (.int .u8 6)]
def laid_internal_strconv_uint64pow10 {H : Type} : DataW H := .agg [.lit (.int .u64 1), .lit (.int .u64 10), .lit (.int .u64 100), .lit (.int .u64 1000), .lit (.int .u64 10000), .lit (.int .u64 100000), .lit (.int .u64 1000000), .lit (.int .u64 10000000), .lit (.int .u64 100000000), .lit (.int .u64 1000000000), .lit (.int .u64 10000000000), .lit (.int .u64 100000000000), .lit (.int .u64 1000000000000), .lit (.int .u64 10000000000000), .lit (.int .u64 100000000000000), .lit (.int .u64 1000000000000000), .lit (.int .u64 10000000000000000), .lit (.int .u64 100000000000000000), .lit (.int .u64 1000000000000000000), .lit (.int .u64 10000000000000000000)]

/-- 'bobbinetkeep.SchemaMore': WHATEVER THE INPUT: true; the input reads as it did. -/
def schemaMoreSpec : ChangeSpec := { name := "schemaMore", fn := fun _ => fun
  | [d1, d2] => { results := [.lit (.bool true)], args := [d1, d2] }
  | _ => none }
def schemaMoreRow : OpenClaim := { program := "ytphlkdbglpcikaagreatdoor", sum := "f40fa340ee40a06bc27fe08503752b8f0bde08d33cea1f7fedf5f5489e1ae874", func := "bobbinet/bobbinetkeep.SchemaMore", spec := "schemaMore", inPlace := ["internal/bytealg.IndexByteString", "internal/abi.NoEscape", "internal/bytealg.MakeNoZero"], unfollowed := true, recurses := true, named := ["internal/strconv.uint64pow10", "math/bits.deBruijn32tab", "math/bits.deBruijn64tab"], plainKeys := false, apart := false, laid := [("math/bits.deBruijn32tab", laid_math_bits_deBruijn32tab), ("math/bits.deBruijn64tab", laid_math_bits_deBruijn64tab), ("internal/strconv.uint64pow10", laid_internal_strconv_uint64pow10)] }
def SchemaMoreSaid : Prop := schemaMoreRow.holds Tryz.pinned (OpenSpec.ofChange schemaMoreSpec)

/-- ITS FALSE NEIGHBOUR: 'it returns false'. Refute it at one input. -/
def schemaMoreWrong : ChangeSpec := { name := "schemaMore", fn := fun _ => fun
  | [d1, d2] => { results := [.lit (.bool false)], args := [d1, d2] }
  | _ => none }
def SchemaMoreWrongFalsely : Prop := schemaMoreRow.holds Tryz.pinned (OpenSpec.ofChange schemaMoreWrong)

/-- 'bobbinetkeep.FitFewer': WHATEVER THE INPUT: true; the input reads as it did. -/
def fitFewerSpec : ChangeSpec := { name := "fitFewer", fn := fun _ => fun
  | [d1, d2, d3, d4] => { results := [.lit (.bool true)], args := [d1, d2, d3, d4] }
  | _ => none }
def fitFewerRow : OpenClaim := { program := "ytphlkdbglpcikaagreatdoor", sum := "f40fa340ee40a06bc27fe08503752b8f0bde08d33cea1f7fedf5f5489e1ae874", func := "bobbinet/bobbinetkeep.FitFewer", spec := "fitFewer", inPlace := ["internal/bytealg.IndexByteString", "internal/abi.NoEscape", "internal/bytealg.MakeNoZero"], unfollowed := true, recurses := true, named := ["internal/strconv.uint64pow10", "math/bits.deBruijn32tab", "math/bits.deBruijn64tab"], plainKeys := false, apart := false, laid := [("math/bits.deBruijn32tab", laid_math_bits_deBruijn32tab), ("math/bits.deBruijn64tab", laid_math_bits_deBruijn64tab), ("internal/strconv.uint64pow10", laid_internal_strconv_uint64pow10)] }
def FitFewerSaid : Prop := fitFewerRow.holds Tryz.pinned (OpenSpec.ofChange fitFewerSpec)

/-- ITS FALSE NEIGHBOUR: 'it returns false'. Refute it at one input. -/
def fitFewerWrong : ChangeSpec := { name := "fitFewer", fn := fun _ => fun
  | [d1, d2, d3, d4] => { results := [.lit (.bool false)], args := [d1, d2, d3, d4] }
  | _ => none }
def FitFewerWrongFalsely : Prop := fitFewerRow.holds Tryz.pinned (OpenSpec.ofChange fitFewerWrong)

/-- 'bobbinetkeep.FitBound': WHATEVER THE INPUT: true; the input reads as it did. -/
def fitBoundSpec : ChangeSpec := { name := "fitBound", fn := fun _ => fun
  | [d1, d2, d3] => { results := [.lit (.bool true)], args := [d1, d2, d3] }
  | _ => none }
def fitBoundRow : OpenClaim := { program := "ytphlkdbglpcikaagreatdoor", sum := "f40fa340ee40a06bc27fe08503752b8f0bde08d33cea1f7fedf5f5489e1ae874", func := "bobbinet/bobbinetkeep.FitBound", spec := "fitBound", inPlace := ["internal/bytealg.IndexByteString", "internal/abi.NoEscape", "internal/bytealg.MakeNoZero"], unfollowed := true, recurses := true, named := ["internal/strconv.uint64pow10", "math/bits.deBruijn32tab", "math/bits.deBruijn64tab"], plainKeys := false, apart := false, laid := [("math/bits.deBruijn32tab", laid_math_bits_deBruijn32tab), ("math/bits.deBruijn64tab", laid_math_bits_deBruijn64tab), ("internal/strconv.uint64pow10", laid_internal_strconv_uint64pow10)] }
def FitBoundSaid : Prop := fitBoundRow.holds Tryz.pinned (OpenSpec.ofChange fitBoundSpec)

/-- ITS FALSE NEIGHBOUR: 'it returns false'. Refute it at one input. -/
def fitBoundWrong : ChangeSpec := { name := "fitBound", fn := fun _ => fun
  | [d1, d2, d3] => { results := [.lit (.bool false)], args := [d1, d2, d3] }
  | _ => none }
def FitBoundWrongFalsely : Prop := fitBoundRow.holds Tryz.pinned (OpenSpec.ofChange fitBoundWrong)

/-- 'bobbinetkeep.SchemaSpoilt': WHATEVER THE INPUT: true; the input reads as it did. -/
def schemaSpoiltSpec : ChangeSpec := { name := "schemaSpoilt", fn := fun _ => fun
  | [d1, d2] => { results := [.lit (.bool true)], args := [d1, d2] }
  | _ => none }
def schemaSpoiltRow : OpenClaim := { program := "ytphlkdbglpcikaagreatdoor", sum := "f40fa340ee40a06bc27fe08503752b8f0bde08d33cea1f7fedf5f5489e1ae874", func := "bobbinet/bobbinetkeep.SchemaSpoilt", spec := "schemaSpoilt", inPlace := ["internal/bytealg.IndexByteString", "internal/abi.NoEscape", "internal/bytealg.MakeNoZero"], unfollowed := true, recurses := true, named := ["internal/strconv.uint64pow10", "math/bits.deBruijn32tab", "math/bits.deBruijn64tab"], plainKeys := false, apart := false, laid := [("math/bits.deBruijn32tab", laid_math_bits_deBruijn32tab), ("math/bits.deBruijn64tab", laid_math_bits_deBruijn64tab), ("internal/strconv.uint64pow10", laid_internal_strconv_uint64pow10)] }
def SchemaSpoiltSaid : Prop := schemaSpoiltRow.holds Tryz.pinned (OpenSpec.ofChange schemaSpoiltSpec)

/-- ITS FALSE NEIGHBOUR: 'it returns false'. Refute it at one input. -/
def schemaSpoiltWrong : ChangeSpec := { name := "schemaSpoilt", fn := fun _ => fun
  | [d1, d2] => { results := [.lit (.bool false)], args := [d1, d2] }
  | _ => none }
def SchemaSpoiltWrongFalsely : Prop := schemaSpoiltRow.holds Tryz.pinned (OpenSpec.ofChange schemaSpoiltWrong)

/-- 'bobbinetkeep.SchemaFill': WHATEVER THE INPUT: true; the input reads as it did. -/
def schemaFillSpec : ChangeSpec := { name := "schemaFill", fn := fun _ => fun
  | [d1, d2] => { results := [.lit (.bool true)], args := [d1, d2] }
  | _ => none }
def schemaFillRow : OpenClaim := { program := "ytphlkdbglpcikaagreatdoor", sum := "f40fa340ee40a06bc27fe08503752b8f0bde08d33cea1f7fedf5f5489e1ae874", func := "bobbinet/bobbinetkeep.SchemaFill", spec := "schemaFill", inPlace := ["internal/bytealg.IndexByteString", "internal/abi.NoEscape", "internal/bytealg.MakeNoZero"], unfollowed := true, recurses := true, named := ["internal/strconv.uint64pow10", "math/bits.deBruijn32tab", "math/bits.deBruijn64tab"], plainKeys := false, apart := false, laid := [("math/bits.deBruijn32tab", laid_math_bits_deBruijn32tab), ("math/bits.deBruijn64tab", laid_math_bits_deBruijn64tab), ("internal/strconv.uint64pow10", laid_internal_strconv_uint64pow10)] }
def SchemaFillSaid : Prop := schemaFillRow.holds Tryz.pinned (OpenSpec.ofChange schemaFillSpec)

/-- ITS FALSE NEIGHBOUR: 'it returns false'. Refute it at one input. -/
def schemaFillWrong : ChangeSpec := { name := "schemaFill", fn := fun _ => fun
  | [d1, d2] => { results := [.lit (.bool false)], args := [d1, d2] }
  | _ => none }
def SchemaFillWrongFalsely : Prop := schemaFillRow.holds Tryz.pinned (OpenSpec.ofChange schemaFillWrong)

/-- 'bobbinetkeep.FitFixed': WHATEVER THE INPUT: true; the input reads as it did. -/
def fitFixedSpec : ChangeSpec := { name := "fitFixed", fn := fun _ => fun
  | [d1, d2, d3] => { results := [.lit (.bool true)], args := [d1, d2, d3] }
  | _ => none }
def fitFixedRow : OpenClaim := { program := "ytphlkdbglpcikaagreatdoor", sum := "f40fa340ee40a06bc27fe08503752b8f0bde08d33cea1f7fedf5f5489e1ae874", func := "bobbinet/bobbinetkeep.FitFixed", spec := "fitFixed", inPlace := ["internal/bytealg.IndexByteString", "internal/abi.NoEscape", "internal/bytealg.MakeNoZero"], unfollowed := true, recurses := true, named := ["internal/strconv.uint64pow10", "math/bits.deBruijn32tab", "math/bits.deBruijn64tab"], plainKeys := false, apart := false, laid := [("math/bits.deBruijn32tab", laid_math_bits_deBruijn32tab), ("math/bits.deBruijn64tab", laid_math_bits_deBruijn64tab), ("internal/strconv.uint64pow10", laid_internal_strconv_uint64pow10)] }
def FitFixedSaid : Prop := fitFixedRow.holds Tryz.pinned (OpenSpec.ofChange fitFixedSpec)

/-- ITS FALSE NEIGHBOUR: 'it returns false'. Refute it at one input. -/
def fitFixedWrong : ChangeSpec := { name := "fitFixed", fn := fun _ => fun
  | [d1, d2, d3] => { results := [.lit (.bool false)], args := [d1, d2, d3] }
  | _ => none }
def FitFixedWrongFalsely : Prop := fitFixedRow.holds Tryz.pinned (OpenSpec.ofChange fitFixedWrong)

/-- 'bobbinetkeep.FitOdd': WHATEVER THE INPUT: true; the input reads as it did. -/
def fitOddSpec : ChangeSpec := { name := "fitOdd", fn := fun _ => fun
  | [d1, d2, d3] => { results := [.lit (.bool true)], args := [d1, d2, d3] }
  | _ => none }
def fitOddRow : OpenClaim := { program := "ytphlkdbglpcikaagreatdoor", sum := "f40fa340ee40a06bc27fe08503752b8f0bde08d33cea1f7fedf5f5489e1ae874", func := "bobbinet/bobbinetkeep.FitOdd", spec := "fitOdd", inPlace := ["internal/bytealg.IndexByteString", "internal/abi.NoEscape", "internal/bytealg.MakeNoZero"], unfollowed := true, recurses := true, named := ["internal/strconv.uint64pow10", "math/bits.deBruijn32tab", "math/bits.deBruijn64tab"], plainKeys := false, apart := false, laid := [("math/bits.deBruijn32tab", laid_math_bits_deBruijn32tab), ("math/bits.deBruijn64tab", laid_math_bits_deBruijn64tab), ("internal/strconv.uint64pow10", laid_internal_strconv_uint64pow10)] }
def FitOddSaid : Prop := fitOddRow.holds Tryz.pinned (OpenSpec.ofChange fitOddSpec)

/-- ITS FALSE NEIGHBOUR: 'it returns false'. Refute it at one input. -/
def fitOddWrong : ChangeSpec := { name := "fitOdd", fn := fun _ => fun
  | [d1, d2, d3] => { results := [.lit (.bool false)], args := [d1, d2, d3] }
  | _ => none }
def FitOddWrongFalsely : Prop := fitOddRow.holds Tryz.pinned (OpenSpec.ofChange fitOddWrong)

/-- 'bobbinetkeep.FitTree': WHATEVER THE INPUT: true; the input reads as it did. -/
def fitTreeSpec : ChangeSpec := { name := "fitTree", fn := fun _ => fun
  | [d1, d2] => { results := [.lit (.bool true)], args := [d1, d2] }
  | _ => none }
def fitTreeRow : OpenClaim := { program := "ytphlkdbglpcikaagreatdoor", sum := "f40fa340ee40a06bc27fe08503752b8f0bde08d33cea1f7fedf5f5489e1ae874", func := "bobbinet/bobbinetkeep.FitTree", spec := "fitTree", inPlace := ["internal/bytealg.IndexByteString", "internal/abi.NoEscape", "internal/bytealg.MakeNoZero"], unfollowed := true, recurses := true, named := ["internal/strconv.uint64pow10", "math/bits.deBruijn32tab", "math/bits.deBruijn64tab"], plainKeys := false, apart := false, laid := [("math/bits.deBruijn32tab", laid_math_bits_deBruijn32tab), ("math/bits.deBruijn64tab", laid_math_bits_deBruijn64tab), ("internal/strconv.uint64pow10", laid_internal_strconv_uint64pow10)] }
def FitTreeSaid : Prop := fitTreeRow.holds Tryz.pinned (OpenSpec.ofChange fitTreeSpec)

/-- ITS FALSE NEIGHBOUR: 'it returns false'. Refute it at one input. -/
def fitTreeWrong : ChangeSpec := { name := "fitTree", fn := fun _ => fun
  | [d1, d2] => { results := [.lit (.bool false)], args := [d1, d2] }
  | _ => none }
def FitTreeWrongFalsely : Prop := fitTreeRow.holds Tryz.pinned (OpenSpec.ofChange fitTreeWrong)

/-- 'bobbinettop.TopBoth': WHATEVER THE INPUT: true; the input reads as it did. -/
def topBothSpec : ChangeSpec := { name := "topBoth", fn := fun _ => fun
  | [d1, d2, d3] => { results := [.lit (.bool true)], args := [d1, d2, d3] }
  | _ => none }
def topBothRow : OpenClaim := { program := "ytphlkdbglpcikaagreatdoor", sum := "f40fa340ee40a06bc27fe08503752b8f0bde08d33cea1f7fedf5f5489e1ae874", func := "bobbinet/bobbinettop.TopBoth", spec := "topBoth", inPlace := ["internal/bytealg.IndexByteString", "internal/abi.NoEscape", "internal/bytealg.MakeNoZero"], unfollowed := true, recurses := true, named := ["internal/strconv.uint64pow10", "math/bits.deBruijn32tab", "math/bits.deBruijn64tab"], plainKeys := false, apart := false, laid := [("math/bits.deBruijn32tab", laid_math_bits_deBruijn32tab), ("math/bits.deBruijn64tab", laid_math_bits_deBruijn64tab), ("internal/strconv.uint64pow10", laid_internal_strconv_uint64pow10)] }
def TopBothSaid : Prop := topBothRow.holds Tryz.pinned (OpenSpec.ofChange topBothSpec)

/-- ITS FALSE NEIGHBOUR: 'it returns false'. Refute it at one input. -/
def topBothWrong : ChangeSpec := { name := "topBoth", fn := fun _ => fun
  | [d1, d2, d3] => { results := [.lit (.bool false)], args := [d1, d2, d3] }
  | _ => none }
def TopBothWrongFalsely : Prop := topBothRow.holds Tryz.pinned (OpenSpec.ofChange topBothWrong)

/- THE SECOND FORM. 'bulk': how many values and letters a reading holds, each counted each time it is reached (what is shared counts as often as it is met; a slice's spare places count too). A statement '..UptoSaid' is the law's where the arguments, and the package variables that the reading takes, are together of bulk at most 1048576: NARROWER than '..Said'. Prove '..Said' where nothing that the law and all that it calls make is longer than what came in: it says more and counts as full. Else prove '..UptoSaid'. A law counts once. -/
mutual
def uptoBulk {H : Type} : DataW H → Nat
  | .lit (.string bytes) => bytes.length + 1
  | .lit _ => 1
  | .nil => 1
  | .ptr d => uptoBulk d + 1
  | .slice elems spare => uptoBulkAll elems + uptoBulkAll spare + 1
  | .agg parts => uptoBulkAll parts + 1
  | .iface _ d => uptoBulk d + 1
  | .map entries => uptoBulkEntries entries + 1
  | .held _ => 1
def uptoBulkAll {H : Type} : List (DataW H) → Nat
  | [] => 0
  | d :: r => uptoBulk d + uptoBulkAll r
def uptoBulkEntries {H : Type} : List (Lit × DataW H) → Nat
  | [] => 0
  | x :: r => uptoBulkEntry x + uptoBulkEntries r
def uptoBulkEntry {H : Type} : Lit × DataW H → Nat
  | (.string bytes, d) => bytes.length + uptoBulk d + 1
  | (_, d) => uptoBulk d + 1
 end
def uptoSmall : (H : Type) → List (DataW H) → Bool := fun _ ds => decide (uptoBulkAll ds ≤ 1048576)
def OpenSpec.upto (s : _root_.Go.ChangeSpec) : _root_.Go.OpenSpec := { _root_.Go.OpenSpec.ofChange s with cond := some uptoSmall }

/-- 'bobbinetkeep.SchemaMore', WHERE WHAT IT READS IS OF BULK AT MOST 1048576: true; the input reads as it did. -/
def schemaMoreUptoRow : OpenClaim := { program := "ytphlkdbglpcikaagreatdoor", sum := "f40fa340ee40a06bc27fe08503752b8f0bde08d33cea1f7fedf5f5489e1ae874", func := "bobbinet/bobbinetkeep.SchemaMore", spec := "schemaMore", inPlace := ["internal/bytealg.IndexByteString", "internal/abi.NoEscape", "internal/bytealg.MakeNoZero"], unfollowed := true, recurses := true, named := ["internal/strconv.uint64pow10", "math/bits.deBruijn32tab", "math/bits.deBruijn64tab"], plainKeys := false, apart := false, laid := [("math/bits.deBruijn32tab", laid_math_bits_deBruijn32tab), ("math/bits.deBruijn64tab", laid_math_bits_deBruijn64tab), ("internal/strconv.uint64pow10", laid_internal_strconv_uint64pow10)], narrowed := true }
def SchemaMoreUptoSaid : Prop := schemaMoreUptoRow.holds Tryz.pinned (OpenSpec.upto schemaMoreSpec)

/-- 'bobbinetkeep.FitFewer', WHERE WHAT IT READS IS OF BULK AT MOST 1048576: true; the input reads as it did. -/
def fitFewerUptoRow : OpenClaim := { program := "ytphlkdbglpcikaagreatdoor", sum := "f40fa340ee40a06bc27fe08503752b8f0bde08d33cea1f7fedf5f5489e1ae874", func := "bobbinet/bobbinetkeep.FitFewer", spec := "fitFewer", inPlace := ["internal/bytealg.IndexByteString", "internal/abi.NoEscape", "internal/bytealg.MakeNoZero"], unfollowed := true, recurses := true, named := ["internal/strconv.uint64pow10", "math/bits.deBruijn32tab", "math/bits.deBruijn64tab"], plainKeys := false, apart := false, laid := [("math/bits.deBruijn32tab", laid_math_bits_deBruijn32tab), ("math/bits.deBruijn64tab", laid_math_bits_deBruijn64tab), ("internal/strconv.uint64pow10", laid_internal_strconv_uint64pow10)], narrowed := true }
def FitFewerUptoSaid : Prop := fitFewerUptoRow.holds Tryz.pinned (OpenSpec.upto fitFewerSpec)

/-- 'bobbinetkeep.FitBound', WHERE WHAT IT READS IS OF BULK AT MOST 1048576: true; the input reads as it did. -/
def fitBoundUptoRow : OpenClaim := { program := "ytphlkdbglpcikaagreatdoor", sum := "f40fa340ee40a06bc27fe08503752b8f0bde08d33cea1f7fedf5f5489e1ae874", func := "bobbinet/bobbinetkeep.FitBound", spec := "fitBound", inPlace := ["internal/bytealg.IndexByteString", "internal/abi.NoEscape", "internal/bytealg.MakeNoZero"], unfollowed := true, recurses := true, named := ["internal/strconv.uint64pow10", "math/bits.deBruijn32tab", "math/bits.deBruijn64tab"], plainKeys := false, apart := false, laid := [("math/bits.deBruijn32tab", laid_math_bits_deBruijn32tab), ("math/bits.deBruijn64tab", laid_math_bits_deBruijn64tab), ("internal/strconv.uint64pow10", laid_internal_strconv_uint64pow10)], narrowed := true }
def FitBoundUptoSaid : Prop := fitBoundUptoRow.holds Tryz.pinned (OpenSpec.upto fitBoundSpec)

/-- 'bobbinetkeep.SchemaSpoilt', WHERE WHAT IT READS IS OF BULK AT MOST 1048576: true; the input reads as it did. -/
def schemaSpoiltUptoRow : OpenClaim := { program := "ytphlkdbglpcikaagreatdoor", sum := "f40fa340ee40a06bc27fe08503752b8f0bde08d33cea1f7fedf5f5489e1ae874", func := "bobbinet/bobbinetkeep.SchemaSpoilt", spec := "schemaSpoilt", inPlace := ["internal/bytealg.IndexByteString", "internal/abi.NoEscape", "internal/bytealg.MakeNoZero"], unfollowed := true, recurses := true, named := ["internal/strconv.uint64pow10", "math/bits.deBruijn32tab", "math/bits.deBruijn64tab"], plainKeys := false, apart := false, laid := [("math/bits.deBruijn32tab", laid_math_bits_deBruijn32tab), ("math/bits.deBruijn64tab", laid_math_bits_deBruijn64tab), ("internal/strconv.uint64pow10", laid_internal_strconv_uint64pow10)], narrowed := true }
def SchemaSpoiltUptoSaid : Prop := schemaSpoiltUptoRow.holds Tryz.pinned (OpenSpec.upto schemaSpoiltSpec)

/-- 'bobbinetkeep.SchemaFill', WHERE WHAT IT READS IS OF BULK AT MOST 1048576: true; the input reads as it did. -/
def schemaFillUptoRow : OpenClaim := { program := "ytphlkdbglpcikaagreatdoor", sum := "f40fa340ee40a06bc27fe08503752b8f0bde08d33cea1f7fedf5f5489e1ae874", func := "bobbinet/bobbinetkeep.SchemaFill", spec := "schemaFill", inPlace := ["internal/bytealg.IndexByteString", "internal/abi.NoEscape", "internal/bytealg.MakeNoZero"], unfollowed := true, recurses := true, named := ["internal/strconv.uint64pow10", "math/bits.deBruijn32tab", "math/bits.deBruijn64tab"], plainKeys := false, apart := false, laid := [("math/bits.deBruijn32tab", laid_math_bits_deBruijn32tab), ("math/bits.deBruijn64tab", laid_math_bits_deBruijn64tab), ("internal/strconv.uint64pow10", laid_internal_strconv_uint64pow10)], narrowed := true }
def SchemaFillUptoSaid : Prop := schemaFillUptoRow.holds Tryz.pinned (OpenSpec.upto schemaFillSpec)

/-- 'bobbinetkeep.FitFixed', WHERE WHAT IT READS IS OF BULK AT MOST 1048576: true; the input reads as it did. -/
def fitFixedUptoRow : OpenClaim := { program := "ytphlkdbglpcikaagreatdoor", sum := "f40fa340ee40a06bc27fe08503752b8f0bde08d33cea1f7fedf5f5489e1ae874", func := "bobbinet/bobbinetkeep.FitFixed", spec := "fitFixed", inPlace := ["internal/bytealg.IndexByteString", "internal/abi.NoEscape", "internal/bytealg.MakeNoZero"], unfollowed := true, recurses := true, named := ["internal/strconv.uint64pow10", "math/bits.deBruijn32tab", "math/bits.deBruijn64tab"], plainKeys := false, apart := false, laid := [("math/bits.deBruijn32tab", laid_math_bits_deBruijn32tab), ("math/bits.deBruijn64tab", laid_math_bits_deBruijn64tab), ("internal/strconv.uint64pow10", laid_internal_strconv_uint64pow10)], narrowed := true }
def FitFixedUptoSaid : Prop := fitFixedUptoRow.holds Tryz.pinned (OpenSpec.upto fitFixedSpec)

/-- 'bobbinetkeep.FitOdd', WHERE WHAT IT READS IS OF BULK AT MOST 1048576: true; the input reads as it did. -/
def fitOddUptoRow : OpenClaim := { program := "ytphlkdbglpcikaagreatdoor", sum := "f40fa340ee40a06bc27fe08503752b8f0bde08d33cea1f7fedf5f5489e1ae874", func := "bobbinet/bobbinetkeep.FitOdd", spec := "fitOdd", inPlace := ["internal/bytealg.IndexByteString", "internal/abi.NoEscape", "internal/bytealg.MakeNoZero"], unfollowed := true, recurses := true, named := ["internal/strconv.uint64pow10", "math/bits.deBruijn32tab", "math/bits.deBruijn64tab"], plainKeys := false, apart := false, laid := [("math/bits.deBruijn32tab", laid_math_bits_deBruijn32tab), ("math/bits.deBruijn64tab", laid_math_bits_deBruijn64tab), ("internal/strconv.uint64pow10", laid_internal_strconv_uint64pow10)], narrowed := true }
def FitOddUptoSaid : Prop := fitOddUptoRow.holds Tryz.pinned (OpenSpec.upto fitOddSpec)

/-- 'bobbinetkeep.FitTree', WHERE WHAT IT READS IS OF BULK AT MOST 1048576: true; the input reads as it did. -/
def fitTreeUptoRow : OpenClaim := { program := "ytphlkdbglpcikaagreatdoor", sum := "f40fa340ee40a06bc27fe08503752b8f0bde08d33cea1f7fedf5f5489e1ae874", func := "bobbinet/bobbinetkeep.FitTree", spec := "fitTree", inPlace := ["internal/bytealg.IndexByteString", "internal/abi.NoEscape", "internal/bytealg.MakeNoZero"], unfollowed := true, recurses := true, named := ["internal/strconv.uint64pow10", "math/bits.deBruijn32tab", "math/bits.deBruijn64tab"], plainKeys := false, apart := false, laid := [("math/bits.deBruijn32tab", laid_math_bits_deBruijn32tab), ("math/bits.deBruijn64tab", laid_math_bits_deBruijn64tab), ("internal/strconv.uint64pow10", laid_internal_strconv_uint64pow10)], narrowed := true }
def FitTreeUptoSaid : Prop := fitTreeUptoRow.holds Tryz.pinned (OpenSpec.upto fitTreeSpec)

/-- 'bobbinettop.TopBoth', WHERE WHAT IT READS IS OF BULK AT MOST 1048576: true; the input reads as it did. -/
def topBothUptoRow : OpenClaim := { program := "ytphlkdbglpcikaagreatdoor", sum := "f40fa340ee40a06bc27fe08503752b8f0bde08d33cea1f7fedf5f5489e1ae874", func := "bobbinet/bobbinettop.TopBoth", spec := "topBoth", inPlace := ["internal/bytealg.IndexByteString", "internal/abi.NoEscape", "internal/bytealg.MakeNoZero"], unfollowed := true, recurses := true, named := ["internal/strconv.uint64pow10", "math/bits.deBruijn32tab", "math/bits.deBruijn64tab"], plainKeys := false, apart := false, laid := [("math/bits.deBruijn32tab", laid_math_bits_deBruijn32tab), ("math/bits.deBruijn64tab", laid_math_bits_deBruijn64tab), ("internal/strconv.uint64pow10", laid_internal_strconv_uint64pow10)], narrowed := true }
def TopBothUptoSaid : Prop := topBothUptoRow.holds Tryz.pinned (OpenSpec.upto topBothSpec)

end Rows
end Go.Proofs.YtphlkdbglpcikaaGreatDoor
