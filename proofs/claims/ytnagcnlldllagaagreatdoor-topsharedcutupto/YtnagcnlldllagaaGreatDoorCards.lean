/-
  DERIVED. GIVEN WITH THE SEED: THE CARDS: each row of YtnagcnlldllagaaGreatDoorRows.lean that lists a variable, with what it lists TIED to the program's text (the seventh form; the later family's looks); each row that meets fmt, with fmt's text TOLD by the authors' own Lean function (tested against real Go, not proved from fmt's source: count such statements apart). THE CARD IS WHAT COUNTS. Prove the row's statement (the work); the ties are given (YtnagcnlldllagaaGreatDoorTie.lean); close each card by the builder's one call (the guide's Derived/Test/ToyasCard.lean, 'card_holds'). Laid BY PROGRAM, IN A SANDBOX (cutbox-door.mjs). By AI agents, Wed Nov 11 2026. No macro, syntax, notation, axiom, sorry.
-/
import Derived.Test.YtnagcnlldllagaaGreatDoorRows
import GoSem.ClaimSeven
namespace Go.Proofs.YtnagcnlldllagaaGreatDoor
namespace Rows

/-- THE TIED CARD OF 'spadilletop.TopSharedCut'. -/
def topSharedCutCard : Claim7 := { stood := { row := topSharedCutRow, standIns := [], harness := (true, "f070e378ca454541b4116e51f84d380a826c2f31eef86683be4d3143a0e93ca9"), looks := true }, kinds := [], alts := [], laidByText := true, laidKinds := [.data, .data, .data, .data, .pinned], laidTests := true, laidLooks := .later }
def TopSharedCutCardSaid : Prop := Claim7.holds Tryz.pinned (.plain (OpenSpec.ofChange topSharedCutSpec)) topSharedCutCard

/-- THE SECOND FORM's CARD OF 'spadilletop.TopSharedCut'. -/
def topSharedCutUptoCard : Claim7 := { stood := { row := topSharedCutUptoRow, standIns := [], harness := (true, "f070e378ca454541b4116e51f84d380a826c2f31eef86683be4d3143a0e93ca9"), looks := true }, kinds := [], alts := [], laidByText := true, laidKinds := [.data, .data, .data, .data, .pinned], laidTests := true, laidLooks := .later }
def TopSharedCutUptoCardSaid : Prop := Claim7.holds Tryz.pinned (.plain (OpenSpec.upto topSharedCutSpec)) topSharedCutUptoCard
end Rows
end Go.Proofs.YtnagcnlldllagaaGreatDoor
