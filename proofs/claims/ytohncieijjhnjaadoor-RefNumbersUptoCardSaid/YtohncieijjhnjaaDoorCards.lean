/-
  DERIVED. GIVEN WITH THE SEED: THE CARDS: each row of YtohncieijjhnjaaDoorRows.lean that lists a variable, with what it lists TIED to the program's text (the seventh form; the later family's looks); each row that meets fmt, with fmt's text TOLD by the authors' own Lean function (tested against real Go, not proved from fmt's source: count such statements apart). THE CARD IS WHAT COUNTS. Prove the row's statement (the work); the ties are given (YtohncieijjhnjaaDoorTie.lean); close each card by the builder's one call (the guide's Derived/Test/ToyasCard.lean, 'card_holds'). Laid BY PROGRAM, IN A SANDBOX (cutbox-door.mjs). By AI agents, Wed Nov 11 2026. No macro, syntax, notation, axiom, sorry.
-/
import Derived.Test.YtohncieijjhnjaaDoorRows
import GoSem.ClaimSeven
namespace Go.Proofs.YtohncieijjhnjaaDoor
namespace Rows

/-- THE TIED CARD OF 'bobbinetkeep.StripOnce'. -/
def stripOnceCard : Claim7 := { stood := { row := stripOnceRow, standIns := [], harness := (true, "4889faf084276a6360f420f2150922dd970c6345f6b0a33bc8aeb8c921897e7f"), looks := true }, kinds := [], alts := [], laidByText := true, laidKinds := [.data, .pinned], laidTests := true, laidLooks := .later }
def StripOnceCardSaid : Prop := Claim7.holds Tryd.pinned (.plain (OpenSpec.ofChange stripOnceSpec)) stripOnceCard

/-- THE TIED CARD OF 'bobbinetkeep.UrlHidden'. -/
def urlHiddenCard : Claim7 := { stood := { row := urlHiddenRow, standIns := [], harness := (true, "4889faf084276a6360f420f2150922dd970c6345f6b0a33bc8aeb8c921897e7f"), looks := true }, kinds := [], alts := [], laidByText := true, laidKinds := [.data, .pinned], laidTests := true, laidLooks := .later }
def UrlHiddenCardSaid : Prop := Claim7.holds Tryd.pinned (.plain (OpenSpec.ofChange urlHiddenSpec)) urlHiddenCard

/-- THE TIED CARD OF 'bobbinetkeep.UrlRelative'. -/
def urlRelativeCard : Claim7 := { stood := { row := urlRelativeRow, standIns := [], harness := (true, "4889faf084276a6360f420f2150922dd970c6345f6b0a33bc8aeb8c921897e7f"), looks := true }, kinds := [], alts := [], laidByText := true, laidKinds := [.data, .pinned], laidTests := true, laidLooks := .later }
def UrlRelativeCardSaid : Prop := Claim7.holds Tryd.pinned (.plain (OpenSpec.ofChange urlRelativeSpec)) urlRelativeCard

/-- THE TIED CARD OF 'bobbinetkeep.RefParts'. -/
def refPartsCard : Claim7 := { stood := { row := refPartsRow, standIns := [], harness := (true, "4889faf084276a6360f420f2150922dd970c6345f6b0a33bc8aeb8c921897e7f"), looks := true }, kinds := [], alts := [], laidByText := true, laidKinds := [.data, .data, .data, .sentinel, .sentinel], laidTests := true, laidLooks := .later }
def RefPartsCardSaid : Prop := Claim7.holds Tryd.pinned (.plain (OpenSpec.ofChange refPartsSpec)) refPartsCard

/-- THE TIED CARD OF 'bobbinetkeep.RefNumbers'. -/
def refNumbersCard : Claim7 := { stood := { row := refNumbersRow, standIns := [], harness := (true, "4889faf084276a6360f420f2150922dd970c6345f6b0a33bc8aeb8c921897e7f"), looks := true }, kinds := [], alts := [], laidByText := true, laidKinds := [.data, .data, .data, .sentinel, .sentinel], laidTests := true, laidLooks := .later }
def RefNumbersCardSaid : Prop := Claim7.holds Tryd.pinned (.plain (OpenSpec.ofChange refNumbersSpec)) refNumbersCard

/-- THE SECOND FORM's CARD OF 'bobbinetkeep.StripOnce'. -/
def stripOnceUptoCard : Claim7 := { stood := { row := stripOnceUptoRow, standIns := [], harness := (true, "4889faf084276a6360f420f2150922dd970c6345f6b0a33bc8aeb8c921897e7f"), looks := true }, kinds := [], alts := [], laidByText := true, laidKinds := [.data, .pinned], laidTests := true, laidLooks := .later }
def StripOnceUptoCardSaid : Prop := Claim7.holds Tryd.pinned (.plain (OpenSpec.upto stripOnceSpec)) stripOnceUptoCard

/-- THE SECOND FORM's CARD OF 'bobbinetkeep.UrlHidden'. -/
def urlHiddenUptoCard : Claim7 := { stood := { row := urlHiddenUptoRow, standIns := [], harness := (true, "4889faf084276a6360f420f2150922dd970c6345f6b0a33bc8aeb8c921897e7f"), looks := true }, kinds := [], alts := [], laidByText := true, laidKinds := [.data, .pinned], laidTests := true, laidLooks := .later }
def UrlHiddenUptoCardSaid : Prop := Claim7.holds Tryd.pinned (.plain (OpenSpec.upto urlHiddenSpec)) urlHiddenUptoCard

/-- THE SECOND FORM's CARD OF 'bobbinetkeep.UrlRelative'. -/
def urlRelativeUptoCard : Claim7 := { stood := { row := urlRelativeUptoRow, standIns := [], harness := (true, "4889faf084276a6360f420f2150922dd970c6345f6b0a33bc8aeb8c921897e7f"), looks := true }, kinds := [], alts := [], laidByText := true, laidKinds := [.data, .pinned], laidTests := true, laidLooks := .later }
def UrlRelativeUptoCardSaid : Prop := Claim7.holds Tryd.pinned (.plain (OpenSpec.upto urlRelativeSpec)) urlRelativeUptoCard

/-- THE SECOND FORM's CARD OF 'bobbinetkeep.RefParts'. -/
def refPartsUptoCard : Claim7 := { stood := { row := refPartsUptoRow, standIns := [], harness := (true, "4889faf084276a6360f420f2150922dd970c6345f6b0a33bc8aeb8c921897e7f"), looks := true }, kinds := [], alts := [], laidByText := true, laidKinds := [.data, .data, .data, .sentinel, .sentinel], laidTests := true, laidLooks := .later }
def RefPartsUptoCardSaid : Prop := Claim7.holds Tryd.pinned (.plain (OpenSpec.upto refPartsSpec)) refPartsUptoCard

/-- THE SECOND FORM's CARD OF 'bobbinetkeep.RefNumbers'. -/
def refNumbersUptoCard : Claim7 := { stood := { row := refNumbersUptoRow, standIns := [], harness := (true, "4889faf084276a6360f420f2150922dd970c6345f6b0a33bc8aeb8c921897e7f"), looks := true }, kinds := [], alts := [], laidByText := true, laidKinds := [.data, .data, .data, .sentinel, .sentinel], laidTests := true, laidLooks := .later }
def RefNumbersUptoCardSaid : Prop := Claim7.holds Tryd.pinned (.plain (OpenSpec.upto refNumbersSpec)) refNumbersUptoCard
end Rows
end Go.Proofs.YtohncieijjhnjaaDoor
