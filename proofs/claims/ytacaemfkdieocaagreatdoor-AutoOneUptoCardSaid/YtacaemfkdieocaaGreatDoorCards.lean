/-
  DERIVED. GIVEN WITH THE SEED: THE CARDS: each row of YtacaemfkdieocaaGreatDoorRows.lean that lists a variable, with what it lists TIED to the program's text (the seventh form; the later family's looks); each row that meets fmt, with fmt's text TOLD by the authors' own Lean function (tested against real Go, not proved from fmt's source: count such statements apart). THE CARD IS WHAT COUNTS. Prove the row's statement (the work); the ties are given (YtacaemfkdieocaaGreatDoorTie.lean); close each card by the builder's one call (the guide's Derived/Test/ToyasCard.lean, 'card_holds'). Laid BY PROGRAM, IN A SANDBOX (cutbox-door.mjs). By AI agents, Wed Nov 11 2026. No macro, syntax, notation, axiom, sorry.
-/
import Derived.Test.YtacaemfkdieocaaGreatDoorRows
import GoSem.ClaimSeven
namespace Go.Proofs.YtacaemfkdieocaaGreatDoor
namespace Rows

/-- THE TIED CARD OF 'bobbinetkeep.AutoOne'. -/
def autoOneCard : Claim7 := { stood := { row := autoOneRow, standIns := [], harness := (true, "5d4186a16d374687ea878cf4dcc27004740c397298c568ce97051d7abef91638"), looks := false }, kinds := [], alts := [], laidByText := true, laidKinds := [.data, .data, .data], laidTests := true, laidLooks := .later }
def AutoOneCardSaid : Prop := Claim7.holds Tryz.pinned (.plain (OpenSpec.ofChange autoOneSpec)) autoOneCard

/-- THE TIED CARD OF 'bobbinetkeep.AutoBoth'. -/
def autoBothCard : Claim7 := { stood := { row := autoBothRow, standIns := [], harness := (true, "5d4186a16d374687ea878cf4dcc27004740c397298c568ce97051d7abef91638"), looks := false }, kinds := [], alts := [], laidByText := true, laidKinds := [.data, .data, .data], laidTests := true, laidLooks := .later }
def AutoBothCardSaid : Prop := Claim7.holds Tryz.pinned (.plain (OpenSpec.ofChange autoBothSpec)) autoBothCard

/-- THE TIED CARD OF 'bobbinetkeep.AutoReads'. -/
def autoReadsCard : Claim7 := { stood := { row := autoReadsRow, standIns := [], harness := (true, "5d4186a16d374687ea878cf4dcc27004740c397298c568ce97051d7abef91638"), looks := false }, kinds := [], alts := [], laidByText := true, laidKinds := [.data, .data, .data], laidTests := true, laidLooks := .later }
def AutoReadsCardSaid : Prop := Claim7.holds Tryz.pinned (.plain (OpenSpec.ofChange autoReadsSpec)) autoReadsCard

/-- THE SECOND FORM's CARD OF 'bobbinetkeep.AutoOne'. -/
def autoOneUptoCard : Claim7 := { stood := { row := autoOneUptoRow, standIns := [], harness := (true, "5d4186a16d374687ea878cf4dcc27004740c397298c568ce97051d7abef91638"), looks := false }, kinds := [], alts := [], laidByText := true, laidKinds := [.data, .data, .data], laidTests := true, laidLooks := .later }
def AutoOneUptoCardSaid : Prop := Claim7.holds Tryz.pinned (.plain (OpenSpec.upto autoOneSpec)) autoOneUptoCard

/-- THE SECOND FORM's CARD OF 'bobbinetkeep.AutoBoth'. -/
def autoBothUptoCard : Claim7 := { stood := { row := autoBothUptoRow, standIns := [], harness := (true, "5d4186a16d374687ea878cf4dcc27004740c397298c568ce97051d7abef91638"), looks := false }, kinds := [], alts := [], laidByText := true, laidKinds := [.data, .data, .data], laidTests := true, laidLooks := .later }
def AutoBothUptoCardSaid : Prop := Claim7.holds Tryz.pinned (.plain (OpenSpec.upto autoBothSpec)) autoBothUptoCard

/-- THE SECOND FORM's CARD OF 'bobbinetkeep.AutoReads'. -/
def autoReadsUptoCard : Claim7 := { stood := { row := autoReadsUptoRow, standIns := [], harness := (true, "5d4186a16d374687ea878cf4dcc27004740c397298c568ce97051d7abef91638"), looks := false }, kinds := [], alts := [], laidByText := true, laidKinds := [.data, .data, .data], laidTests := true, laidLooks := .later }
def AutoReadsUptoCardSaid : Prop := Claim7.holds Tryz.pinned (.plain (OpenSpec.upto autoReadsSpec)) autoReadsUptoCard
end Rows
end Go.Proofs.YtacaemfkdieocaaGreatDoor
