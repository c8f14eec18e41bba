/-
  DERIVED. GIVEN WITH THE SEED: THE CARDS: each row of YtanlnhjjdiaphaaDoorRows.lean that lists a variable, with what it lists TIED to the program's text (the seventh form; the later family's looks); each row that meets fmt, with fmt's text TOLD by the authors' own Lean function (tested against real Go, not proved from fmt's source: count such statements apart). THE CARD IS WHAT COUNTS. Prove the row's statement (the work); the ties are given (YtanlnhjjdiaphaaDoorTie.lean); close each card by the builder's one call (the guide's Derived/Test/ToyasCard.lean, 'card_holds'). Laid BY PROGRAM, IN A SANDBOX (cutbox-door.mjs). By AI agents, Wed Nov 11 2026. No macro, syntax, notation, axiom, sorry.
-/
import Derived.Test.YtanlnhjjdiaphaaDoorRows
import GoSem.ClaimSeven
namespace Go.Proofs.YtanlnhjjdiaphaaDoor
namespace Rows

/-- THE TIED CARD OF 'suffragelaw31.SchnorrSignatures'. -/
def schnorrSignaturesCard : Claim7 := { stood := { row := schnorrSignaturesRow, standIns := [], harness := (true, "1347232924b66631dc1a67d5bf2d8748b67dbe22a221f01b9e1f88b90c98754e"), looks := false }, kinds := [], alts := [], laidByText := true, laidKinds := [.data, .data], laidTests := true, laidLooks := .later }
def SchnorrSignaturesCardSaid : Prop := Claim7.holds Tryd.pinned (.plain (OpenSpec.ofChange schnorrSignaturesSpec)) schnorrSignaturesCard

/-- THE TIED CARD OF 'suffragelaw31.SchnorrUnique'. -/
def schnorrUniqueCard : Claim7 := { stood := { row := schnorrUniqueRow, standIns := [], harness := (true, "1347232924b66631dc1a67d5bf2d8748b67dbe22a221f01b9e1f88b90c98754e"), looks := false }, kinds := [], alts := [], laidByText := true, laidKinds := [.data, .data], laidTests := true, laidLooks := .later }
def SchnorrUniqueCardSaid : Prop := Claim7.holds Tryd.pinned (.plain (OpenSpec.ofChange schnorrUniqueSpec)) schnorrUniqueCard

/-- THE TIED CARD OF 'suffragelaw31.SchnorrNames'. -/
def schnorrNamesCard : Claim7 := { stood := { row := schnorrNamesRow, standIns := [], harness := (true, "1347232924b66631dc1a67d5bf2d8748b67dbe22a221f01b9e1f88b90c98754e"), looks := false }, kinds := [], alts := [], laidByText := true, laidKinds := [.data, .data], laidTests := true, laidLooks := .later }
def SchnorrNamesCardSaid : Prop := Claim7.holds Tryd.pinned (.plain (OpenSpec.ofChange schnorrNamesSpec)) schnorrNamesCard

/-- THE TIED CARD OF 'suffragelaw31.SchnorrAccepts'. -/
def schnorrAcceptsCard : Claim7 := { stood := { row := schnorrAcceptsRow, standIns := [], harness := (true, "1347232924b66631dc1a67d5bf2d8748b67dbe22a221f01b9e1f88b90c98754e"), looks := false }, kinds := [], alts := [], laidByText := true, laidKinds := [.data, .data], laidTests := true, laidLooks := .later }
def SchnorrAcceptsCardSaid : Prop := Claim7.holds Tryd.pinned (.plain (OpenSpec.ofChange schnorrAcceptsSpec)) schnorrAcceptsCard

/-- THE SECOND FORM's CARD OF 'suffragelaw31.SchnorrSignatures'. -/
def schnorrSignaturesUptoCard : Claim7 := { stood := { row := schnorrSignaturesUptoRow, standIns := [], harness := (true, "1347232924b66631dc1a67d5bf2d8748b67dbe22a221f01b9e1f88b90c98754e"), looks := false }, kinds := [], alts := [], laidByText := true, laidKinds := [.data, .data], laidTests := true, laidLooks := .later }
def SchnorrSignaturesUptoCardSaid : Prop := Claim7.holds Tryd.pinned (.plain (OpenSpec.upto schnorrSignaturesSpec)) schnorrSignaturesUptoCard

/-- THE SECOND FORM's CARD OF 'suffragelaw31.SchnorrUnique'. -/
def schnorrUniqueUptoCard : Claim7 := { stood := { row := schnorrUniqueUptoRow, standIns := [], harness := (true, "1347232924b66631dc1a67d5bf2d8748b67dbe22a221f01b9e1f88b90c98754e"), looks := false }, kinds := [], alts := [], laidByText := true, laidKinds := [.data, .data], laidTests := true, laidLooks := .later }
def SchnorrUniqueUptoCardSaid : Prop := Claim7.holds Tryd.pinned (.plain (OpenSpec.upto schnorrUniqueSpec)) schnorrUniqueUptoCard

/-- THE SECOND FORM's CARD OF 'suffragelaw31.SchnorrNames'. -/
def schnorrNamesUptoCard : Claim7 := { stood := { row := schnorrNamesUptoRow, standIns := [], harness := (true, "1347232924b66631dc1a67d5bf2d8748b67dbe22a221f01b9e1f88b90c98754e"), looks := false }, kinds := [], alts := [], laidByText := true, laidKinds := [.data, .data], laidTests := true, laidLooks := .later }
def SchnorrNamesUptoCardSaid : Prop := Claim7.holds Tryd.pinned (.plain (OpenSpec.upto schnorrNamesSpec)) schnorrNamesUptoCard

/-- THE SECOND FORM's CARD OF 'suffragelaw31.SchnorrAccepts'. -/
def schnorrAcceptsUptoCard : Claim7 := { stood := { row := schnorrAcceptsUptoRow, standIns := [], harness := (true, "1347232924b66631dc1a67d5bf2d8748b67dbe22a221f01b9e1f88b90c98754e"), looks := false }, kinds := [], alts := [], laidByText := true, laidKinds := [.data, .data], laidTests := true, laidLooks := .later }
def SchnorrAcceptsUptoCardSaid : Prop := Claim7.holds Tryd.pinned (.plain (OpenSpec.upto schnorrAcceptsSpec)) schnorrAcceptsUptoCard
end Rows
end Go.Proofs.YtanlnhjjdiaphaaDoor
