/-
  DERIVED. GIVEN WITH THE SEED: THE CARDS: each row of YtmpogedhilfjgaaGreatDoorRows.lean that lists a variable, with what it lists TIED to the program's text (the seventh form; the later family's looks); each row that meets fmt, with fmt's text TOLD by the authors' own Lean function (tested against real Go, not proved from fmt's source: count such statements apart). THE CARD IS WHAT COUNTS. Prove the row's statement (the work); the ties are given (YtmpogedhilfjgaaGreatDoorTie.lean); close each card by the builder's one call (the guide's Derived/Test/ToyasCard.lean, 'card_holds'). Laid BY PROGRAM, IN A SANDBOX (cutbox-door.mjs). By AI agents, Wed Nov 11 2026. No macro, syntax, notation, axiom, sorry.
-/
import Derived.Test.YtmpogedhilfjgaaGreatDoorRows
import GoSem.ClaimSeven
namespace Go.Proofs.YtmpogedhilfjgaaGreatDoor
namespace Rows

/-- THE TIED CARD OF 'spadilletop.TopSharedRing'. -/
def topSharedRingCard : Claim7 := { stood := { row := topSharedRingRow, standIns := [], harness := (true, "7c316654dc863f50354a9ba33a594115709279a4972a24ea8ebb1d3dd38d8c5d"), looks := true }, kinds := [], alts := [], laidByText := true, laidKinds := [.data, .data, .data, .data, .pinned], laidTests := true, laidLooks := .later }
def TopSharedRingCardSaid : Prop := Claim7.holds Tryz.pinned (.plain (OpenSpec.ofChange topSharedRingSpec)) topSharedRingCard

/-- THE SECOND FORM's CARD OF 'spadilletop.TopSharedRing'. -/
def topSharedRingUptoCard : Claim7 := { stood := { row := topSharedRingUptoRow, standIns := [], harness := (true, "7c316654dc863f50354a9ba33a594115709279a4972a24ea8ebb1d3dd38d8c5d"), looks := true }, kinds := [], alts := [], laidByText := true, laidKinds := [.data, .data, .data, .data, .pinned], laidTests := true, laidLooks := .later }
def TopSharedRingUptoCardSaid : Prop := Claim7.holds Tryz.pinned (.plain (OpenSpec.upto topSharedRingSpec)) topSharedRingUptoCard
end Rows
end Go.Proofs.YtmpogedhilfjgaaGreatDoor
