/-
  DERIVED. GIVEN WITH THE SEED: THE CARDS: each row of YtlbldpkgnonbpaaDoorRows.lean that lists a variable, with what it lists TIED to the program's text (the seventh form; the later family's looks); each row that meets fmt, with fmt's text TOLD by the authors' own Lean function (tested against real Go, not proved from fmt's source: count such statements apart). THE CARD IS WHAT COUNTS. Prove the row's statement (the work); the ties are given (YtlbldpkgnonbpaaDoorTie.lean); close each card by the builder's one call (the guide's Derived/Test/ToyasCard.lean, 'card_holds'). Laid BY PROGRAM, IN A SANDBOX (cutbox-door.mjs). By AI agents, Wed Nov 11 2026. No macro, syntax, notation, axiom, sorry.
-/
import Derived.Test.YtlbldpkgnonbpaaDoorRows
import GoSem.ClaimSeven
namespace Go.Proofs.YtlbldpkgnonbpaaDoor
namespace Rows

/-- THE TIED CARD OF 'suffragelaw36.BoothBytes'. -/
def boothBytesCard : Claim7 := { stood := { row := boothBytesRow, standIns := [], harness := (true, "5c00805133dfe0492bef048290696ebc112b228b3b9245def032e3bbb51dd56e"), looks := false }, kinds := [], alts := [], laidByText := true, laidKinds := [.data, .data], laidTests := true, laidLooks := .later }
def BoothBytesCardSaid : Prop := Claim7.holds Tryd.pinned (.plain (OpenSpec.ofChange boothBytesSpec)) boothBytesCard

/-- THE TIED CARD OF 'suffragelaw36.BoothOnce'. -/
def boothOnceCard : Claim7 := { stood := { row := boothOnceRow, standIns := [], harness := (true, "5c00805133dfe0492bef048290696ebc112b228b3b9245def032e3bbb51dd56e"), looks := false }, kinds := [], alts := [], laidByText := true, laidKinds := [.data, .data], laidTests := true, laidLooks := .later }
def BoothOnceCardSaid : Prop := Claim7.holds Tryd.pinned (.plain (OpenSpec.ofChange boothOnceSpec)) boothOnceCard

/-- THE TIED CARD OF 'suffragelaw36.BoothSeals'. -/
def boothSealsCard : Claim7 := { stood := { row := boothSealsRow, standIns := [], harness := (true, "5c00805133dfe0492bef048290696ebc112b228b3b9245def032e3bbb51dd56e"), looks := false }, kinds := [], alts := [], laidByText := true, laidKinds := [.data, .data], laidTests := true, laidLooks := .later }
def BoothSealsCardSaid : Prop := Claim7.holds Tryd.pinned (.plain (OpenSpec.ofChange boothSealsSpec)) boothSealsCard

/-- THE TIED CARD OF 'suffragelaw36.BoothReveals'. -/
def boothRevealsCard : Claim7 := { stood := { row := boothRevealsRow, standIns := [], harness := (true, "5c00805133dfe0492bef048290696ebc112b228b3b9245def032e3bbb51dd56e"), looks := false }, kinds := [], alts := [], laidByText := true, laidKinds := [.data, .data], laidTests := true, laidLooks := .later }
def BoothRevealsCardSaid : Prop := Claim7.holds Tryd.pinned (.plain (OpenSpec.ofChange boothRevealsSpec)) boothRevealsCard

/-- THE TIED CARD OF 'suffragelaw36.BoothNames'. -/
def boothNamesCard : Claim7 := { stood := { row := boothNamesRow, standIns := [], harness := (true, "5c00805133dfe0492bef048290696ebc112b228b3b9245def032e3bbb51dd56e"), looks := false }, kinds := [], alts := [], laidByText := true, laidKinds := [.data, .data], laidTests := true, laidLooks := .later }
def BoothNamesCardSaid : Prop := Claim7.holds Tryd.pinned (.plain (OpenSpec.ofChange boothNamesSpec)) boothNamesCard

/-- THE TIED CARD OF 'suffragelaw36.BoothRoundTrip'. -/
def boothRoundTripCard : Claim7 := { stood := { row := boothRoundTripRow, standIns := [], harness := (true, "5c00805133dfe0492bef048290696ebc112b228b3b9245def032e3bbb51dd56e"), looks := false }, kinds := [], alts := [], laidByText := true, laidKinds := [.data, .data], laidTests := true, laidLooks := .later }
def BoothRoundTripCardSaid : Prop := Claim7.holds Tryd.pinned (.plain (OpenSpec.ofChange boothRoundTripSpec)) boothRoundTripCard

/-- THE SECOND FORM's CARD OF 'suffragelaw36.BoothBytes'. -/
def boothBytesUptoCard : Claim7 := { stood := { row := boothBytesUptoRow, standIns := [], harness := (true, "5c00805133dfe0492bef048290696ebc112b228b3b9245def032e3bbb51dd56e"), looks := false }, kinds := [], alts := [], laidByText := true, laidKinds := [.data, .data], laidTests := true, laidLooks := .later }
def BoothBytesUptoCardSaid : Prop := Claim7.holds Tryd.pinned (.plain (OpenSpec.upto boothBytesSpec)) boothBytesUptoCard

/-- THE SECOND FORM's CARD OF 'suffragelaw36.BoothOnce'. -/
def boothOnceUptoCard : Claim7 := { stood := { row := boothOnceUptoRow, standIns := [], harness := (true, "5c00805133dfe0492bef048290696ebc112b228b3b9245def032e3bbb51dd56e"), looks := false }, kinds := [], alts := [], laidByText := true, laidKinds := [.data, .data], laidTests := true, laidLooks := .later }
def BoothOnceUptoCardSaid : Prop := Claim7.holds Tryd.pinned (.plain (OpenSpec.upto boothOnceSpec)) boothOnceUptoCard

/-- THE SECOND FORM's CARD OF 'suffragelaw36.BoothSeals'. -/
def boothSealsUptoCard : Claim7 := { stood := { row := boothSealsUptoRow, standIns := [], harness := (true, "5c00805133dfe0492bef048290696ebc112b228b3b9245def032e3bbb51dd56e"), looks := false }, kinds := [], alts := [], laidByText := true, laidKinds := [.data, .data], laidTests := true, laidLooks := .later }
def BoothSealsUptoCardSaid : Prop := Claim7.holds Tryd.pinned (.plain (OpenSpec.upto boothSealsSpec)) boothSealsUptoCard

/-- THE SECOND FORM's CARD OF 'suffragelaw36.BoothReveals'. -/
def boothRevealsUptoCard : Claim7 := { stood := { row := boothRevealsUptoRow, standIns := [], harness := (true, "5c00805133dfe0492bef048290696ebc112b228b3b9245def032e3bbb51dd56e"), looks := false }, kinds := [], alts := [], laidByText := true, laidKinds := [.data, .data], laidTests := true, laidLooks := .later }
def BoothRevealsUptoCardSaid : Prop := Claim7.holds Tryd.pinned (.plain (OpenSpec.upto boothRevealsSpec)) boothRevealsUptoCard

/-- THE SECOND FORM's CARD OF 'suffragelaw36.BoothNames'. -/
def boothNamesUptoCard : Claim7 := { stood := { row := boothNamesUptoRow, standIns := [], harness := (true, "5c00805133dfe0492bef048290696ebc112b228b3b9245def032e3bbb51dd56e"), looks := false }, kinds := [], alts := [], laidByText := true, laidKinds := [.data, .data], laidTests := true, laidLooks := .later }
def BoothNamesUptoCardSaid : Prop := Claim7.holds Tryd.pinned (.plain (OpenSpec.upto boothNamesSpec)) boothNamesUptoCard

/-- THE SECOND FORM's CARD OF 'suffragelaw36.BoothRoundTrip'. -/
def boothRoundTripUptoCard : Claim7 := { stood := { row := boothRoundTripUptoRow, standIns := [], harness := (true, "5c00805133dfe0492bef048290696ebc112b228b3b9245def032e3bbb51dd56e"), looks := false }, kinds := [], alts := [], laidByText := true, laidKinds := [.data, .data], laidTests := true, laidLooks := .later }
def BoothRoundTripUptoCardSaid : Prop := Claim7.holds Tryd.pinned (.plain (OpenSpec.upto boothRoundTripSpec)) boothRoundTripUptoCard
end Rows
end Go.Proofs.YtlbldpkgnonbpaaDoor
