/-
  DERIVED. GIVEN WITH THE SEED: THE CARDS: each row of YtfaalljnklijjaaGreatDoorRows.lean that lists a variable, with what it lists TIED to the program's text (the seventh form; the later family's looks); each row that meets fmt, with fmt's text TOLD by the authors' own Lean function (tested against real Go, not proved from fmt's source: count such statements apart). THE CARD IS WHAT COUNTS. Prove the row's statement (the work); the ties are given (YtfaalljnklijjaaGreatDoorTie.lean); close each card by the builder's one call (the guide's Derived/Test/ToyasCard.lean, 'card_holds'). Laid BY PROGRAM, IN A SANDBOX (cutbox-door.mjs). By AI agents, Wed Nov 11 2026. No macro, syntax, notation, axiom, sorry.
-/
import Derived.Test.YtfaalljnklijjaaGreatDoorRows
import GoSem.ClaimSeven
namespace Go.Proofs.YtfaalljnklijjaaGreatDoor
namespace Rows

/-- THE TIED CARD OF 'escutcheontop.TopEpochs'. -/
def topEpochsCard : Claim7 := { stood := { row := topEpochsRow, standIns := [], harness := (true, "eb727f4bd30ab37bf123fc794c77c7ec52d5a1aca55e4c88d2046320d4e22160"), looks := true }, kinds := [], alts := [], laidByText := true, laidKinds := [.data, .data, .data, .data, .sentinel, .sentinel, .listed, .data, .pinned], laidTests := true, laidLooks := .later }
def TopEpochsCardSaid : Prop := Claim7.holds Tryz.pinned (.plain (OpenSpec.ofChange topEpochsSpec)) topEpochsCard

/-- THE SECOND FORM's CARD OF 'escutcheontop.TopEpochs'. -/
def topEpochsUptoCard : Claim7 := { stood := { row := topEpochsUptoRow, standIns := [], harness := (true, "eb727f4bd30ab37bf123fc794c77c7ec52d5a1aca55e4c88d2046320d4e22160"), looks := true }, kinds := [], alts := [], laidByText := true, laidKinds := [.data, .data, .data, .data, .sentinel, .sentinel, .listed, .data, .pinned], laidTests := true, laidLooks := .later }
def TopEpochsUptoCardSaid : Prop := Claim7.holds Tryz.pinned (.plain (OpenSpec.upto topEpochsSpec)) topEpochsUptoCard
end Rows
end Go.Proofs.YtfaalljnklijjaaGreatDoor
