/-
  DERIVED. GIVEN WITH THE SEED: THE CARDS: each row of YtacaemfkdieocaaDoorRows.lean that lists a variable, with what it lists TIED to the program's text (the seventh form; the later family's looks); each row that meets fmt, with fmt's text TOLD by the authors' own Lean function (tested against real Go, not proved from fmt's source: count such statements apart). THE CARD IS WHAT COUNTS. Prove the row's statement (the work); the ties are given (YtacaemfkdieocaaDoorTie.lean); close each card by the builder's one call (the guide's Derived/Test/ToyasCard.lean, 'card_holds'). Laid BY PROGRAM, IN A SANDBOX (cutbox-door.mjs). By AI agents, Wed Nov 11 2026. No macro, syntax, notation, axiom, sorry.
-/
import Derived.Test.YtacaemfkdieocaaDoorRows
import GoSem.ClaimSeven
namespace Go.Proofs.YtacaemfkdieocaaDoor
namespace Rows

/-- THE TIED CARD OF 'bobbinetkeep.AutoStarred'. -/
def autoStarredCard : Claim7 := { stood := { row := autoStarredRow, standIns := [], harness := (true, "d0f6e05e2047b7c412fbc0032de60779488d19745ac842342e24c53a6a8867fe"), looks := false }, kinds := [], alts := [], laidByText := true, laidKinds := [.data, .data, .data], laidTests := true, laidLooks := .later }
def AutoStarredCardSaid : Prop := Claim7.holds Tryd.pinned (.plain (OpenSpec.ofChange autoStarredSpec)) autoStarredCard

/-- THE TIED CARD OF 'bobbinetkeep.AutoCounted'. -/
def autoCountedCard : Claim7 := { stood := { row := autoCountedRow, standIns := [], harness := (true, "d0f6e05e2047b7c412fbc0032de60779488d19745ac842342e24c53a6a8867fe"), looks := false }, kinds := [], alts := [], laidByText := true, laidKinds := [.data, .data, .data], laidTests := true, laidLooks := .later }
def AutoCountedCardSaid : Prop := Claim7.holds Tryd.pinned (.plain (OpenSpec.ofChange autoCountedSpec)) autoCountedCard

/-- THE TIED CARD OF 'bobbinetkeep.AutoLeast'. -/
def autoLeastCard : Claim7 := { stood := { row := autoLeastRow, standIns := [], harness := (true, "d0f6e05e2047b7c412fbc0032de60779488d19745ac842342e24c53a6a8867fe"), looks := false }, kinds := [], alts := [], laidByText := true, laidKinds := [.data, .data, .data], laidTests := true, laidLooks := .later }
def AutoLeastCardSaid : Prop := Claim7.holds Tryd.pinned (.plain (OpenSpec.ofChange autoLeastSpec)) autoLeastCard

/-- THE TIED CARD OF 'bobbinetkeep.AutoInclusion'. -/
def autoInclusionCard : Claim7 := { stood := { row := autoInclusionRow, standIns := [], harness := (true, "d0f6e05e2047b7c412fbc0032de60779488d19745ac842342e24c53a6a8867fe"), looks := false }, kinds := [], alts := [], laidByText := true, laidKinds := [.data, .data, .data], laidTests := true, laidLooks := .later }
def AutoInclusionCardSaid : Prop := Claim7.holds Tryd.pinned (.plain (OpenSpec.ofChange autoInclusionSpec)) autoInclusionCard

/-- THE SECOND FORM's CARD OF 'bobbinetkeep.AutoStarred'. -/
def autoStarredUptoCard : Claim7 := { stood := { row := autoStarredUptoRow, standIns := [], harness := (true, "d0f6e05e2047b7c412fbc0032de60779488d19745ac842342e24c53a6a8867fe"), looks := false }, kinds := [], alts := [], laidByText := true, laidKinds := [.data, .data, .data], laidTests := true, laidLooks := .later }
def AutoStarredUptoCardSaid : Prop := Claim7.holds Tryd.pinned (.plain (OpenSpec.upto autoStarredSpec)) autoStarredUptoCard

/-- THE SECOND FORM's CARD OF 'bobbinetkeep.AutoCounted'. -/
def autoCountedUptoCard : Claim7 := { stood := { row := autoCountedUptoRow, standIns := [], harness := (true, "d0f6e05e2047b7c412fbc0032de60779488d19745ac842342e24c53a6a8867fe"), looks := false }, kinds := [], alts := [], laidByText := true, laidKinds := [.data, .data, .data], laidTests := true, laidLooks := .later }
def AutoCountedUptoCardSaid : Prop := Claim7.holds Tryd.pinned (.plain (OpenSpec.upto autoCountedSpec)) autoCountedUptoCard

/-- THE SECOND FORM's CARD OF 'bobbinetkeep.AutoLeast'. -/
def autoLeastUptoCard : Claim7 := { stood := { row := autoLeastUptoRow, standIns := [], harness := (true, "d0f6e05e2047b7c412fbc0032de60779488d19745ac842342e24c53a6a8867fe"), looks := false }, kinds := [], alts := [], laidByText := true, laidKinds := [.data, .data, .data], laidTests := true, laidLooks := .later }
def AutoLeastUptoCardSaid : Prop := Claim7.holds Tryd.pinned (.plain (OpenSpec.upto autoLeastSpec)) autoLeastUptoCard

/-- THE SECOND FORM's CARD OF 'bobbinetkeep.AutoInclusion'. -/
def autoInclusionUptoCard : Claim7 := { stood := { row := autoInclusionUptoRow, standIns := [], harness := (true, "d0f6e05e2047b7c412fbc0032de60779488d19745ac842342e24c53a6a8867fe"), looks := false }, kinds := [], alts := [], laidByText := true, laidKinds := [.data, .data, .data], laidTests := true, laidLooks := .later }
def AutoInclusionUptoCardSaid : Prop := Claim7.holds Tryd.pinned (.plain (OpenSpec.upto autoInclusionSpec)) autoInclusionUptoCard
end Rows
end Go.Proofs.YtacaemfkdieocaaDoor
