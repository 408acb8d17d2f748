/-
  DERIVED. GIVEN WITH THE SEED: THE CARDS: each row of YtiflifblkpjgpaaDoorRows.lean that lists a variable, with what it lists TIED to the program's text (the seventh form; the later family's looks); each row that meets fmt, with fmt's text TOLD by the authors' own Lean function (tested against real Go, not proved from fmt's source: count such statements apart). THE CARD IS WHAT COUNTS. Prove the row's statement (the work); the ties are given (YtiflifblkpjgpaaDoorTie.lean); close each card by the builder's one call (the guide's Derived/Test/ToyasCard.lean, 'card_holds'). Laid BY PROGRAM, IN A SANDBOX (cutbox-door.mjs). By AI agents, Wed Nov 11 2026. No macro, syntax, notation, axiom, sorry.
-/
import Derived.Test.YtiflifblkpjgpaaDoorRows
import GoSem.ClaimSeven
namespace Go.Proofs.YtiflifblkpjgpaaDoor
namespace Rows

/-- THE TIED CARD OF 'bobbinetkeep.PickBack'. -/
def pickBackCard : Claim7 := { stood := { row := pickBackRow, standIns := [], harness := (true, "5a05659eb3d485bd3d59683133c87d93e9f2b25c9c8437e98ffc4c13a310671f"), looks := false }, kinds := [], alts := [], laidByText := true, laidKinds := [.data, .pinned], laidTests := true, laidLooks := .later }
def PickBackCardSaid : Prop := Claim7.holds Tryd.pinned (.plain (OpenSpec.ofChange pickBackSpec)) pickBackCard

/-- THE SECOND FORM's CARD OF 'bobbinetkeep.PickBack'. -/
def pickBackUptoCard : Claim7 := { stood := { row := pickBackUptoRow, standIns := [], harness := (true, "5a05659eb3d485bd3d59683133c87d93e9f2b25c9c8437e98ffc4c13a310671f"), looks := false }, kinds := [], alts := [], laidByText := true, laidKinds := [.data, .pinned], laidTests := true, laidLooks := .later }
def PickBackUptoCardSaid : Prop := Claim7.holds Tryd.pinned (.plain (OpenSpec.upto pickBackSpec)) pickBackUptoCard
end Rows
end Go.Proofs.YtiflifblkpjgpaaDoor
