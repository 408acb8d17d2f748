/-
  DERIVED. GIVEN WITH THE SEED: THE CARDS: each row of YtbdfeolffigdoaaDoorRows.lean that lists a variable, with what it lists TIED to the program's text (the seventh form; the later family's looks); each row that meets fmt, with fmt's text TOLD by the authors' own Lean function (tested against real Go, not proved from fmt's source: count such statements apart). THE CARD IS WHAT COUNTS. Prove the row's statement (the work); the ties are given (YtbdfeolffigdoaaDoorTie.lean); close each card by the builder's one call (the guide's Derived/Test/ToyasCard.lean, 'card_holds'). Laid BY PROGRAM, IN A SANDBOX (cutbox-door.mjs). By AI agents, Wed Nov 11 2026. No macro, syntax, notation, axiom, sorry.
-/
import Derived.Test.YtbdfeolffigdoaaDoorRows
import GoSem.ClaimSeven
namespace Go.Proofs.YtbdfeolffigdoaaDoor
namespace Rows

/-- THE TIED CARD OF 'bobbinetkeep.TreeNoise'. -/
def treeNoiseCard : Claim7 := { stood := { row := treeNoiseRow, standIns := [], harness := (true, "845165e1c96764e2b97367b82a607ff90e02e2d66fef1253a384b2eb48c7eccc"), looks := false }, kinds := [], alts := [], laidByText := true, laidKinds := [.widerDeep, .widerDeep], laidTests := true, laidLooks := .later }
def TreeNoiseCardSaid : Prop := Claim7.holds Tryd.pinned (.plain (OpenSpec.ofChange treeNoiseSpec)) treeNoiseCard

/-- THE SECOND FORM's CARD OF 'bobbinetkeep.TreeNoise'. -/
def treeNoiseUptoCard : Claim7 := { stood := { row := treeNoiseUptoRow, standIns := [], harness := (true, "845165e1c96764e2b97367b82a607ff90e02e2d66fef1253a384b2eb48c7eccc"), looks := false }, kinds := [], alts := [], laidByText := true, laidKinds := [.widerDeep, .widerDeep], laidTests := true, laidLooks := .later }
def TreeNoiseUptoCardSaid : Prop := Claim7.holds Tryd.pinned (.plain (OpenSpec.upto treeNoiseSpec)) treeNoiseUptoCard
end Rows
end Go.Proofs.YtbdfeolffigdoaaDoor
