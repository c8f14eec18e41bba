/-
  DERIVED. GIVEN WITH THE SEED: THE CARDS: each row of YtkjkdfhjfnoalaaGreatDoorRows.lean that lists a variable, with what it lists TIED to the program's text (the seventh form; the later family's looks); each row that meets fmt, with fmt's text TOLD by the authors' own Lean function (tested against real Go, not proved from fmt's source: count such statements apart). THE CARD IS WHAT COUNTS. Prove the row's statement (the work); the ties are given (YtkjkdfhjfnoalaaGreatDoorTie.lean); close each card by the builder's one call (the guide's Derived/Test/ToyasCard.lean, 'card_holds'). Laid BY PROGRAM, IN A SANDBOX (cutbox-door.mjs). By AI agents, Wed Nov 11 2026. No macro, syntax, notation, axiom, sorry.
-/
import Derived.Test.YtkjkdfhjfnoalaaGreatDoorRows
import GoSem.ClaimSeven
namespace Go.Proofs.YtkjkdfhjfnoalaaGreatDoor
namespace Rows

/-- THE TIED CARD OF 'suffragelaw37.TallyParts'. -/
def tallyPartsCard : Claim7 := { stood := { row := tallyPartsRow, standIns := [], harness := (true, "3c6d2c8d6829cb7ef5c4097403d45e6d5a177d239d798561b03fe4ca4191705f"), looks := false }, kinds := [], alts := [], laidByText := true, laidKinds := [.data, .data], laidTests := true, laidLooks := .later }
def TallyPartsCardSaid : Prop := Claim7.holds Tryz.pinned (.plain (OpenSpec.ofChange tallyPartsSpec)) tallyPartsCard

/-- THE SECOND FORM's CARD OF 'suffragelaw37.TallyParts'. -/
def tallyPartsUptoCard : Claim7 := { stood := { row := tallyPartsUptoRow, standIns := [], harness := (true, "3c6d2c8d6829cb7ef5c4097403d45e6d5a177d239d798561b03fe4ca4191705f"), looks := false }, kinds := [], alts := [], laidByText := true, laidKinds := [.data, .data], laidTests := true, laidLooks := .later }
def TallyPartsUptoCardSaid : Prop := Claim7.holds Tryz.pinned (.plain (OpenSpec.upto tallyPartsSpec)) tallyPartsUptoCard
end Rows
end Go.Proofs.YtkjkdfhjfnoalaaGreatDoor
