/-
  DERIVED. GIVEN WITH THE SEED: THE CARDS: each row of YtgjndpgcpohnoaaGreatDoorRows.lean that lists a variable, with what it lists TIED to the program's text (the seventh form; the later family's looks); each row that meets fmt, with fmt's text TOLD by the authors' own Lean function (tested against real Go, not proved from fmt's source: count such statements apart). THE CARD IS WHAT COUNTS. Prove the row's statement (the work); the ties are given (YtgjndpgcpohnoaaGreatDoorTie.lean); close each card by the builder's one call (the guide's Derived/Test/ToyasCard.lean, 'card_holds'). Laid BY PROGRAM, IN A SANDBOX (cutbox-door.mjs). By AI agents, Wed Nov 11 2026. No macro, syntax, notation, axiom, sorry.
-/
import Derived.Test.YtgjndpgcpohnoaaGreatDoorRows
import GoSem.ClaimSeven
namespace Go.Proofs.YtgjndpgcpohnoaaGreatDoor
namespace Rows

/-- THE TIED CARD OF 'bobbinetkeep.LinksSafe'. -/
def linksSafeCard : Claim7 := { stood := { row := linksSafeRow, standIns := [], harness := (true, "41b39af795a577e84d3b121e5c368dee101b8c3c26d2afa6302895523bf8f339"), looks := true }, kinds := [], alts := [], laidByText := true, laidKinds := [.data, .pinned], laidTests := true, laidLooks := .later }
def LinksSafeCardSaid : Prop := Claim7.holds Tryz.pinned (.plain (OpenSpec.ofChange linksSafeSpec)) linksSafeCard

/-- THE SECOND FORM's CARD OF 'bobbinetkeep.LinksSafe'. -/
def linksSafeUptoCard : Claim7 := { stood := { row := linksSafeUptoRow, standIns := [], harness := (true, "41b39af795a577e84d3b121e5c368dee101b8c3c26d2afa6302895523bf8f339"), looks := true }, kinds := [], alts := [], laidByText := true, laidKinds := [.data, .pinned], laidTests := true, laidLooks := .later }
def LinksSafeUptoCardSaid : Prop := Claim7.holds Tryz.pinned (.plain (OpenSpec.upto linksSafeSpec)) linksSafeUptoCard
end Rows
end Go.Proofs.YtgjndpgcpohnoaaGreatDoor
