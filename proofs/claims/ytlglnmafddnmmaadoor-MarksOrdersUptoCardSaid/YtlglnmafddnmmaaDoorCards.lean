/-
  DERIVED. GIVEN WITH THE SEED: THE CARDS: each row of YtlglnmafddnmmaaDoorRows.lean that lists a variable, with what it lists TIED to the program's text (the seventh form; the later family's looks); each row that meets fmt, with fmt's text TOLD by the authors' own Lean function (tested against real Go, not proved from fmt's source: count such statements apart). THE CARD IS WHAT COUNTS. Prove the row's statement (the work); the ties are given (YtlglnmafddnmmaaDoorTie.lean); close each card by the builder's one call (the guide's Derived/Test/ToyasCard.lean, 'card_holds'). Laid BY PROGRAM, IN A SANDBOX (cutbox-door.mjs). By AI agents, Wed Nov 11 2026. No macro, syntax, notation, axiom, sorry.
-/
import Derived.Test.YtlglnmafddnmmaaDoorRows
import GoSem.ClaimSeven
namespace Go.Proofs.YtlglnmafddnmmaaDoor
namespace Rows

/-- THE TIED CARD OF 'bobbinetkeep.MarksNested'. -/
def marksNestedCard : Claim7 := { stood := { row := marksNestedRow, standIns := [], harness := (true, "46b071d2ff47b717022c03f45c4533a5553db1cc400765f3749cdfd8826b8b49"), looks := false }, kinds := [], alts := [], laidByText := true, laidKinds := [.listed, .data], laidTests := true, laidLooks := .later }
def MarksNestedCardSaid : Prop := Claim7.holds Tryd.pinned (.plain (OpenSpec.ofChange marksNestedSpec)) marksNestedCard

/-- THE TIED CARD OF 'bobbinetkeep.PickBack'. -/
def pickBackCard : Claim7 := { stood := { row := pickBackRow, standIns := [], harness := (true, "46b071d2ff47b717022c03f45c4533a5553db1cc400765f3749cdfd8826b8b49"), looks := false }, kinds := [], alts := [], laidByText := true, laidKinds := [.data, .pinned], laidTests := true, laidLooks := .later }
def PickBackCardSaid : Prop := Claim7.holds Tryd.pinned (.plain (OpenSpec.ofChange pickBackSpec)) pickBackCard

/-- THE TIED CARD OF 'bobbinetkeep.MarksBack'. -/
def marksBackCard : Claim7 := { stood := { row := marksBackRow, standIns := [], harness := (true, "46b071d2ff47b717022c03f45c4533a5553db1cc400765f3749cdfd8826b8b49"), looks := false }, kinds := [], alts := [], laidByText := true, laidKinds := [.listed, .data], laidTests := true, laidLooks := .later }
def MarksBackCardSaid : Prop := Claim7.holds Tryd.pinned (.plain (OpenSpec.ofChange marksBackSpec)) marksBackCard

/-- THE TIED CARD OF 'bobbinetkeep.MarksOrders'. -/
def marksOrdersCard : Claim7 := { stood := { row := marksOrdersRow, standIns := [], harness := (true, "46b071d2ff47b717022c03f45c4533a5553db1cc400765f3749cdfd8826b8b49"), looks := false }, kinds := [], alts := [], laidByText := true, laidKinds := [.listed, .data], laidTests := true, laidLooks := .later }
def MarksOrdersCardSaid : Prop := Claim7.holds Tryd.pinned (.plain (OpenSpec.ofChange marksOrdersSpec)) marksOrdersCard

/-- THE TIED CARD OF 'bobbinetkeep.StyleBack'. -/
def styleBackCard : Claim7 := { stood := { row := styleBackRow, standIns := [], harness := (true, "46b071d2ff47b717022c03f45c4533a5553db1cc400765f3749cdfd8826b8b49"), looks := false }, kinds := [], alts := [], laidByText := true, laidKinds := [.data, .pinned], laidTests := true, laidLooks := .later }
def StyleBackCardSaid : Prop := Claim7.holds Tryd.pinned (.plain (OpenSpec.ofChange styleBackSpec)) styleBackCard

/-- THE TIED CARD OF 'bobbinetkeep.StyleJoin'. -/
def styleJoinCard : Claim7 := { stood := { row := styleJoinRow, standIns := [], harness := (true, "46b071d2ff47b717022c03f45c4533a5553db1cc400765f3749cdfd8826b8b49"), looks := false }, kinds := [], alts := [], laidByText := true, laidKinds := [.data, .pinned], laidTests := true, laidLooks := .later }
def StyleJoinCardSaid : Prop := Claim7.holds Tryd.pinned (.plain (OpenSpec.ofChange styleJoinSpec)) styleJoinCard

/-- THE TIED CARD OF 'bobbinetkeep.StyleClean'. -/
def styleCleanCard : Claim7 := { stood := { row := styleCleanRow, standIns := [], harness := (true, "46b071d2ff47b717022c03f45c4533a5553db1cc400765f3749cdfd8826b8b49"), looks := false }, kinds := [], alts := [], laidByText := true, laidKinds := [.data, .pinned], laidTests := true, laidLooks := .later }
def StyleCleanCardSaid : Prop := Claim7.holds Tryd.pinned (.plain (OpenSpec.ofChange styleCleanSpec)) styleCleanCard

/-- THE SECOND FORM's CARD OF 'bobbinetkeep.MarksNested'. -/
def marksNestedUptoCard : Claim7 := { stood := { row := marksNestedUptoRow, standIns := [], harness := (true, "46b071d2ff47b717022c03f45c4533a5553db1cc400765f3749cdfd8826b8b49"), looks := false }, kinds := [], alts := [], laidByText := true, laidKinds := [.listed, .data], laidTests := true, laidLooks := .later }
def MarksNestedUptoCardSaid : Prop := Claim7.holds Tryd.pinned (.plain (OpenSpec.upto marksNestedSpec)) marksNestedUptoCard

/-- THE SECOND FORM's CARD OF 'bobbinetkeep.PickBack'. -/
def pickBackUptoCard : Claim7 := { stood := { row := pickBackUptoRow, standIns := [], harness := (true, "46b071d2ff47b717022c03f45c4533a5553db1cc400765f3749cdfd8826b8b49"), looks := false }, kinds := [], alts := [], laidByText := true, laidKinds := [.data, .pinned], laidTests := true, laidLooks := .later }
def PickBackUptoCardSaid : Prop := Claim7.holds Tryd.pinned (.plain (OpenSpec.upto pickBackSpec)) pickBackUptoCard

/-- THE SECOND FORM's CARD OF 'bobbinetkeep.MarksBack'. -/
def marksBackUptoCard : Claim7 := { stood := { row := marksBackUptoRow, standIns := [], harness := (true, "46b071d2ff47b717022c03f45c4533a5553db1cc400765f3749cdfd8826b8b49"), looks := false }, kinds := [], alts := [], laidByText := true, laidKinds := [.listed, .data], laidTests := true, laidLooks := .later }
def MarksBackUptoCardSaid : Prop := Claim7.holds Tryd.pinned (.plain (OpenSpec.upto marksBackSpec)) marksBackUptoCard

/-- THE SECOND FORM's CARD OF 'bobbinetkeep.MarksOrders'. -/
def marksOrdersUptoCard : Claim7 := { stood := { row := marksOrdersUptoRow, standIns := [], harness := (true, "46b071d2ff47b717022c03f45c4533a5553db1cc400765f3749cdfd8826b8b49"), looks := false }, kinds := [], alts := [], laidByText := true, laidKinds := [.listed, .data], laidTests := true, laidLooks := .later }
def MarksOrdersUptoCardSaid : Prop := Claim7.holds Tryd.pinned (.plain (OpenSpec.upto marksOrdersSpec)) marksOrdersUptoCard

/-- THE SECOND FORM's CARD OF 'bobbinetkeep.StyleBack'. -/
def styleBackUptoCard : Claim7 := { stood := { row := styleBackUptoRow, standIns := [], harness := (true, "46b071d2ff47b717022c03f45c4533a5553db1cc400765f3749cdfd8826b8b49"), looks := false }, kinds := [], alts := [], laidByText := true, laidKinds := [.data, .pinned], laidTests := true, laidLooks := .later }
def StyleBackUptoCardSaid : Prop := Claim7.holds Tryd.pinned (.plain (OpenSpec.upto styleBackSpec)) styleBackUptoCard

/-- THE SECOND FORM's CARD OF 'bobbinetkeep.StyleJoin'. -/
def styleJoinUptoCard : Claim7 := { stood := { row := styleJoinUptoRow, standIns := [], harness := (true, "46b071d2ff47b717022c03f45c4533a5553db1cc400765f3749cdfd8826b8b49"), looks := false }, kinds := [], alts := [], laidByText := true, laidKinds := [.data, .pinned], laidTests := true, laidLooks := .later }
def StyleJoinUptoCardSaid : Prop := Claim7.holds Tryd.pinned (.plain (OpenSpec.upto styleJoinSpec)) styleJoinUptoCard

/-- THE SECOND FORM's CARD OF 'bobbinetkeep.StyleClean'. -/
def styleCleanUptoCard : Claim7 := { stood := { row := styleCleanUptoRow, standIns := [], harness := (true, "46b071d2ff47b717022c03f45c4533a5553db1cc400765f3749cdfd8826b8b49"), looks := false }, kinds := [], alts := [], laidByText := true, laidKinds := [.data, .pinned], laidTests := true, laidLooks := .later }
def StyleCleanUptoCardSaid : Prop := Claim7.holds Tryd.pinned (.plain (OpenSpec.upto styleCleanSpec)) styleCleanUptoCard
end Rows
end Go.Proofs.YtlglnmafddnmmaaDoor
