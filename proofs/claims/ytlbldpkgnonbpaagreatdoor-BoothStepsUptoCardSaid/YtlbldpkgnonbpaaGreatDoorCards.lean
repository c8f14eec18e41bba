/-
  DERIVED. GIVEN WITH THE SEED: THE CARDS: each row of YtlbldpkgnonbpaaGreatDoorRows.lean that lists a variable, with what it lists TIED to the program's text (the seventh form; the later family's looks); each row that meets fmt, with fmt's text TOLD by the authors' own Lean function (tested against real Go, not proved from fmt's source: count such statements apart). THE CARD IS WHAT COUNTS. Prove the row's statement (the work); the ties are given (YtlbldpkgnonbpaaGreatDoorTie.lean); close each card by the builder's one call (the guide's Derived/Test/ToyasCard.lean, 'card_holds'). Laid BY PROGRAM, IN A SANDBOX (cutbox-door.mjs). By AI agents, Wed Nov 11 2026. No macro, syntax, notation, axiom, sorry.
-/
import Derived.Test.YtlbldpkgnonbpaaGreatDoorRows
import GoSem.ClaimSeven
namespace Go.Proofs.YtlbldpkgnonbpaaGreatDoor
namespace Rows

/-- THE TIED CARD OF 'suffragelaw36.BoothSealing'. -/
def boothSealingCard : Claim7 := { stood := { row := boothSealingRow, standIns := [], harness := (true, "422daa78fd2ed28af7e45e26535f094626970749b261e064aa34726bf48c7f6f"), looks := false }, kinds := [], alts := [], laidByText := true, laidKinds := [.data, .data], laidTests := true, laidLooks := .later }
def BoothSealingCardSaid : Prop := Claim7.holds Tryz.pinned (.plain (OpenSpec.ofChange boothSealingSpec)) boothSealingCard

/-- THE TIED CARD OF 'suffragelaw36.BoothSteps'. -/
def boothStepsCard : Claim7 := { stood := { row := boothStepsRow, standIns := [], harness := (true, "422daa78fd2ed28af7e45e26535f094626970749b261e064aa34726bf48c7f6f"), looks := false }, kinds := [], alts := [], laidByText := true, laidKinds := [.data, .data], laidTests := true, laidLooks := .later }
def BoothStepsCardSaid : Prop := Claim7.holds Tryz.pinned (.plain (OpenSpec.ofChange boothStepsSpec)) boothStepsCard

/-- THE SECOND FORM's CARD OF 'suffragelaw36.BoothSealing'. -/
def boothSealingUptoCard : Claim7 := { stood := { row := boothSealingUptoRow, standIns := [], harness := (true, "422daa78fd2ed28af7e45e26535f094626970749b261e064aa34726bf48c7f6f"), looks := false }, kinds := [], alts := [], laidByText := true, laidKinds := [.data, .data], laidTests := true, laidLooks := .later }
def BoothSealingUptoCardSaid : Prop := Claim7.holds Tryz.pinned (.plain (OpenSpec.upto boothSealingSpec)) boothSealingUptoCard

/-- THE SECOND FORM's CARD OF 'suffragelaw36.BoothSteps'. -/
def boothStepsUptoCard : Claim7 := { stood := { row := boothStepsUptoRow, standIns := [], harness := (true, "422daa78fd2ed28af7e45e26535f094626970749b261e064aa34726bf48c7f6f"), looks := false }, kinds := [], alts := [], laidByText := true, laidKinds := [.data, .data], laidTests := true, laidLooks := .later }
def BoothStepsUptoCardSaid : Prop := Claim7.holds Tryz.pinned (.plain (OpenSpec.upto boothStepsSpec)) boothStepsUptoCard
end Rows
end Go.Proofs.YtlbldpkgnonbpaaGreatDoor
