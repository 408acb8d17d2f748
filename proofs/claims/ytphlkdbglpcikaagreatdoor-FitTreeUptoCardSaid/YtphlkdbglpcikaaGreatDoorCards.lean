/-
  DERIVED. GIVEN WITH THE SEED: THE CARDS: each row of YtphlkdbglpcikaaGreatDoorRows.lean that lists a variable, with what it lists TIED to the program's text (the seventh form; the later family's looks); each row that meets fmt, with fmt's text TOLD by the authors' own Lean function (tested against real Go, not proved from fmt's source: count such statements apart). THE CARD IS WHAT COUNTS. Prove the row's statement (the work); the ties are given (YtphlkdbglpcikaaGreatDoorTie.lean); close each card by the builder's one call (the guide's Derived/Test/ToyasCard.lean, 'card_holds'). Laid BY PROGRAM, IN A SANDBOX (cutbox-door.mjs). By AI agents, Wed Nov 11 2026. No macro, syntax, notation, axiom, sorry.
-/
import Derived.Test.YtphlkdbglpcikaaGreatDoorRows
import GoSem.ClaimSeven
namespace Go.Proofs.YtphlkdbglpcikaaGreatDoor
namespace Rows

/-- THE TIED CARD OF 'bobbinetkeep.SchemaMore'. -/
def schemaMoreCard : Claim7 := { stood := { row := schemaMoreRow, standIns := [], harness := (true, "44c0bf70dfe245ffc05edd5def8e0f123aa7be1ecd63d4c9e403454241a101aa"), looks := false }, kinds := [], alts := [], laidByText := true, laidKinds := [.data, .data, .data], laidTests := true, laidLooks := .later }
def SchemaMoreCardSaid : Prop := Claim7.holds Tryz.pinned (.plain (OpenSpec.ofChange schemaMoreSpec)) schemaMoreCard

/-- THE TIED CARD OF 'bobbinetkeep.FitFewer'. -/
def fitFewerCard : Claim7 := { stood := { row := fitFewerRow, standIns := [], harness := (true, "44c0bf70dfe245ffc05edd5def8e0f123aa7be1ecd63d4c9e403454241a101aa"), looks := false }, kinds := [], alts := [], laidByText := true, laidKinds := [.data, .data, .data], laidTests := true, laidLooks := .later }
def FitFewerCardSaid : Prop := Claim7.holds Tryz.pinned (.plain (OpenSpec.ofChange fitFewerSpec)) fitFewerCard

/-- THE TIED CARD OF 'bobbinetkeep.FitBound'. -/
def fitBoundCard : Claim7 := { stood := { row := fitBoundRow, standIns := [], harness := (true, "44c0bf70dfe245ffc05edd5def8e0f123aa7be1ecd63d4c9e403454241a101aa"), looks := false }, kinds := [], alts := [], laidByText := true, laidKinds := [.data, .data, .data], laidTests := true, laidLooks := .later }
def FitBoundCardSaid : Prop := Claim7.holds Tryz.pinned (.plain (OpenSpec.ofChange fitBoundSpec)) fitBoundCard

/-- THE TIED CARD OF 'bobbinetkeep.SchemaSpoilt'. -/
def schemaSpoiltCard : Claim7 := { stood := { row := schemaSpoiltRow, standIns := [], harness := (true, "44c0bf70dfe245ffc05edd5def8e0f123aa7be1ecd63d4c9e403454241a101aa"), looks := false }, kinds := [], alts := [], laidByText := true, laidKinds := [.data, .data, .data], laidTests := true, laidLooks := .later }
def SchemaSpoiltCardSaid : Prop := Claim7.holds Tryz.pinned (.plain (OpenSpec.ofChange schemaSpoiltSpec)) schemaSpoiltCard

/-- THE TIED CARD OF 'bobbinetkeep.SchemaFill'. -/
def schemaFillCard : Claim7 := { stood := { row := schemaFillRow, standIns := [], harness := (true, "44c0bf70dfe245ffc05edd5def8e0f123aa7be1ecd63d4c9e403454241a101aa"), looks := false }, kinds := [], alts := [], laidByText := true, laidKinds := [.data, .data, .data], laidTests := true, laidLooks := .later }
def SchemaFillCardSaid : Prop := Claim7.holds Tryz.pinned (.plain (OpenSpec.ofChange schemaFillSpec)) schemaFillCard

/-- THE TIED CARD OF 'bobbinetkeep.FitFixed'. -/
def fitFixedCard : Claim7 := { stood := { row := fitFixedRow, standIns := [], harness := (true, "44c0bf70dfe245ffc05edd5def8e0f123aa7be1ecd63d4c9e403454241a101aa"), looks := false }, kinds := [], alts := [], laidByText := true, laidKinds := [.data, .data, .data], laidTests := true, laidLooks := .later }
def FitFixedCardSaid : Prop := Claim7.holds Tryz.pinned (.plain (OpenSpec.ofChange fitFixedSpec)) fitFixedCard

/-- THE TIED CARD OF 'bobbinetkeep.FitOdd'. -/
def fitOddCard : Claim7 := { stood := { row := fitOddRow, standIns := [], harness := (true, "44c0bf70dfe245ffc05edd5def8e0f123aa7be1ecd63d4c9e403454241a101aa"), looks := false }, kinds := [], alts := [], laidByText := true, laidKinds := [.data, .data, .data], laidTests := true, laidLooks := .later }
def FitOddCardSaid : Prop := Claim7.holds Tryz.pinned (.plain (OpenSpec.ofChange fitOddSpec)) fitOddCard

/-- THE TIED CARD OF 'bobbinetkeep.FitTree'. -/
def fitTreeCard : Claim7 := { stood := { row := fitTreeRow, standIns := [], harness := (true, "44c0bf70dfe245ffc05edd5def8e0f123aa7be1ecd63d4c9e403454241a101aa"), looks := false }, kinds := [], alts := [], laidByText := true, laidKinds := [.data, .data, .data], laidTests := true, laidLooks := .later }
def FitTreeCardSaid : Prop := Claim7.holds Tryz.pinned (.plain (OpenSpec.ofChange fitTreeSpec)) fitTreeCard

/-- THE TIED CARD OF 'bobbinettop.TopBoth'. -/
def topBothCard : Claim7 := { stood := { row := topBothRow, standIns := [], harness := (true, "44c0bf70dfe245ffc05edd5def8e0f123aa7be1ecd63d4c9e403454241a101aa"), looks := false }, kinds := [], alts := [], laidByText := true, laidKinds := [.data, .data, .data], laidTests := true, laidLooks := .later }
def TopBothCardSaid : Prop := Claim7.holds Tryz.pinned (.plain (OpenSpec.ofChange topBothSpec)) topBothCard

/-- THE SECOND FORM's CARD OF 'bobbinetkeep.SchemaMore'. -/
def schemaMoreUptoCard : Claim7 := { stood := { row := schemaMoreUptoRow, standIns := [], harness := (true, "44c0bf70dfe245ffc05edd5def8e0f123aa7be1ecd63d4c9e403454241a101aa"), looks := false }, kinds := [], alts := [], laidByText := true, laidKinds := [.data, .data, .data], laidTests := true, laidLooks := .later }
def SchemaMoreUptoCardSaid : Prop := Claim7.holds Tryz.pinned (.plain (OpenSpec.upto schemaMoreSpec)) schemaMoreUptoCard

/-- THE SECOND FORM's CARD OF 'bobbinetkeep.FitFewer'. -/
def fitFewerUptoCard : Claim7 := { stood := { row := fitFewerUptoRow, standIns := [], harness := (true, "44c0bf70dfe245ffc05edd5def8e0f123aa7be1ecd63d4c9e403454241a101aa"), looks := false }, kinds := [], alts := [], laidByText := true, laidKinds := [.data, .data, .data], laidTests := true, laidLooks := .later }
def FitFewerUptoCardSaid : Prop := Claim7.holds Tryz.pinned (.plain (OpenSpec.upto fitFewerSpec)) fitFewerUptoCard

/-- THE SECOND FORM's CARD OF 'bobbinetkeep.FitBound'. -/
def fitBoundUptoCard : Claim7 := { stood := { row := fitBoundUptoRow, standIns := [], harness := (true, "44c0bf70dfe245ffc05edd5def8e0f123aa7be1ecd63d4c9e403454241a101aa"), looks := false }, kinds := [], alts := [], laidByText := true, laidKinds := [.data, .data, .data], laidTests := true, laidLooks := .later }
def FitBoundUptoCardSaid : Prop := Claim7.holds Tryz.pinned (.plain (OpenSpec.upto fitBoundSpec)) fitBoundUptoCard

/-- THE SECOND FORM's CARD OF 'bobbinetkeep.SchemaSpoilt'. -/
def schemaSpoiltUptoCard : Claim7 := { stood := { row := schemaSpoiltUptoRow, standIns := [], harness := (true, "44c0bf70dfe245ffc05edd5def8e0f123aa7be1ecd63d4c9e403454241a101aa"), looks := false }, kinds := [], alts := [], laidByText := true, laidKinds := [.data, .data, .data], laidTests := true, laidLooks := .later }
def SchemaSpoiltUptoCardSaid : Prop := Claim7.holds Tryz.pinned (.plain (OpenSpec.upto schemaSpoiltSpec)) schemaSpoiltUptoCard

/-- THE SECOND FORM's CARD OF 'bobbinetkeep.SchemaFill'. -/
def schemaFillUptoCard : Claim7 := { stood := { row := schemaFillUptoRow, standIns := [], harness := (true, "44c0bf70dfe245ffc05edd5def8e0f123aa7be1ecd63d4c9e403454241a101aa"), looks := false }, kinds := [], alts := [], laidByText := true, laidKinds := [.data, .data, .data], laidTests := true, laidLooks := .later }
def SchemaFillUptoCardSaid : Prop := Claim7.holds Tryz.pinned (.plain (OpenSpec.upto schemaFillSpec)) schemaFillUptoCard

/-- THE SECOND FORM's CARD OF 'bobbinetkeep.FitFixed'. -/
def fitFixedUptoCard : Claim7 := { stood := { row := fitFixedUptoRow, standIns := [], harness := (true, "44c0bf70dfe245ffc05edd5def8e0f123aa7be1ecd63d4c9e403454241a101aa"), looks := false }, kinds := [], alts := [], laidByText := true, laidKinds := [.data, .data, .data], laidTests := true, laidLooks := .later }
def FitFixedUptoCardSaid : Prop := Claim7.holds Tryz.pinned (.plain (OpenSpec.upto fitFixedSpec)) fitFixedUptoCard

/-- THE SECOND FORM's CARD OF 'bobbinetkeep.FitOdd'. -/
def fitOddUptoCard : Claim7 := { stood := { row := fitOddUptoRow, standIns := [], harness := (true, "44c0bf70dfe245ffc05edd5def8e0f123aa7be1ecd63d4c9e403454241a101aa"), looks := false }, kinds := [], alts := [], laidByText := true, laidKinds := [.data, .data, .data], laidTests := true, laidLooks := .later }
def FitOddUptoCardSaid : Prop := Claim7.holds Tryz.pinned (.plain (OpenSpec.upto fitOddSpec)) fitOddUptoCard

/-- THE SECOND FORM's CARD OF 'bobbinetkeep.FitTree'. -/
def fitTreeUptoCard : Claim7 := { stood := { row := fitTreeUptoRow, standIns := [], harness := (true, "44c0bf70dfe245ffc05edd5def8e0f123aa7be1ecd63d4c9e403454241a101aa"), looks := false }, kinds := [], alts := [], laidByText := true, laidKinds := [.data, .data, .data], laidTests := true, laidLooks := .later }
def FitTreeUptoCardSaid : Prop := Claim7.holds Tryz.pinned (.plain (OpenSpec.upto fitTreeSpec)) fitTreeUptoCard

/-- THE SECOND FORM's CARD OF 'bobbinettop.TopBoth'. -/
def topBothUptoCard : Claim7 := { stood := { row := topBothUptoRow, standIns := [], harness := (true, "44c0bf70dfe245ffc05edd5def8e0f123aa7be1ecd63d4c9e403454241a101aa"), looks := false }, kinds := [], alts := [], laidByText := true, laidKinds := [.data, .data, .data], laidTests := true, laidLooks := .later }
def TopBothUptoCardSaid : Prop := Claim7.holds Tryz.pinned (.plain (OpenSpec.upto topBothSpec)) topBothUptoCard
end Rows
end Go.Proofs.YtphlkdbglpcikaaGreatDoor
