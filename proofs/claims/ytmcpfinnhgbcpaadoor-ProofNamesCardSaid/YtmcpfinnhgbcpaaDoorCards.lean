/-
  DERIVED. GIVEN WITH THE SEED: THE CARDS: each row of YtmcpfinnhgbcpaaDoorRows.lean that lists a variable, with what it lists TIED to the program's text (the seventh form; the later family's looks); each row that meets fmt, with fmt's text TOLD by the authors' own Lean function (tested against real Go, not proved from fmt's source: count such statements apart). THE CARD IS WHAT COUNTS. Prove the row's statement (the work); the ties are given (YtmcpfinnhgbcpaaDoorTie.lean); close each card by the builder's one call (the guide's Derived/Test/ToyasCard.lean, 'card_holds'). Laid BY PROGRAM, IN A SANDBOX (cutbox-door.mjs). By AI agents, Wed Nov 11 2026. No macro, syntax, notation, axiom, sorry.
-/
import Derived.Test.YtmcpfinnhgbcpaaDoorRows
import GoSem.ClaimSeven
namespace Go.Proofs.YtmcpfinnhgbcpaaDoor
namespace Rows

/-- THE TIED CARD OF 'suffragelaw33.ProofEqual'. -/
def proofEqualCard : Claim7 := { stood := { row := proofEqualRow, standIns := [], harness := (true, "4b41c1e4d249352bcdad7fb442f9b4095dc9194e4b92b27cabf601e235f481d5"), looks := false }, kinds := [], alts := [], laidByText := true, laidKinds := [.data, .data], laidTests := true, laidLooks := .later }
def ProofEqualCardSaid : Prop := Claim7.holds Tryd.pinned (.plain (OpenSpec.ofChange proofEqualSpec)) proofEqualCard

/-- THE TIED CARD OF 'suffragelaw33.ProofContext'. -/
def proofContextCard : Claim7 := { stood := { row := proofContextRow, standIns := [], harness := (true, "4b41c1e4d249352bcdad7fb442f9b4095dc9194e4b92b27cabf601e235f481d5"), looks := false }, kinds := [], alts := [], laidByText := true, laidKinds := [.data, .data], laidTests := true, laidLooks := .later }
def ProofContextCardSaid : Prop := Claim7.holds Tryd.pinned (.plain (OpenSpec.ofChange proofContextSpec)) proofContextCard

/-- THE TIED CARD OF 'suffragelaw33.ProofEqualComplete'. -/
def proofEqualCompleteCard : Claim7 := { stood := { row := proofEqualCompleteRow, standIns := [], harness := (true, "4b41c1e4d249352bcdad7fb442f9b4095dc9194e4b92b27cabf601e235f481d5"), looks := false }, kinds := [], alts := [], laidByText := true, laidKinds := [.data, .data], laidTests := true, laidLooks := .later }
def ProofEqualCompleteCardSaid : Prop := Claim7.holds Tryd.pinned (.plain (OpenSpec.ofChange proofEqualCompleteSpec)) proofEqualCompleteCard

/-- THE TIED CARD OF 'suffragelaw33.ProofBit'. -/
def proofBitCard : Claim7 := { stood := { row := proofBitRow, standIns := [], harness := (true, "4b41c1e4d249352bcdad7fb442f9b4095dc9194e4b92b27cabf601e235f481d5"), looks := false }, kinds := [], alts := [], laidByText := true, laidKinds := [.data, .data], laidTests := true, laidLooks := .later }
def ProofBitCardSaid : Prop := Claim7.holds Tryd.pinned (.plain (OpenSpec.ofChange proofBitSpec)) proofBitCard

/-- THE TIED CARD OF 'suffragelaw33.ProofBitComplete'. -/
def proofBitCompleteCard : Claim7 := { stood := { row := proofBitCompleteRow, standIns := [], harness := (true, "4b41c1e4d249352bcdad7fb442f9b4095dc9194e4b92b27cabf601e235f481d5"), looks := false }, kinds := [], alts := [], laidByText := true, laidKinds := [.data, .data], laidTests := true, laidLooks := .later }
def ProofBitCompleteCardSaid : Prop := Claim7.holds Tryd.pinned (.plain (OpenSpec.ofChange proofBitCompleteSpec)) proofBitCompleteCard

/-- THE TIED CARD OF 'suffragelaw33.ProofNames'. -/
def proofNamesCard : Claim7 := { stood := { row := proofNamesRow, standIns := [], harness := (true, "4b41c1e4d249352bcdad7fb442f9b4095dc9194e4b92b27cabf601e235f481d5"), looks := false }, kinds := [], alts := [], laidByText := true, laidKinds := [.data, .data], laidTests := true, laidLooks := .later }
def ProofNamesCardSaid : Prop := Claim7.holds Tryd.pinned (.plain (OpenSpec.ofChange proofNamesSpec)) proofNamesCard

/-- THE SECOND FORM's CARD OF 'suffragelaw33.ProofEqual'. -/
def proofEqualUptoCard : Claim7 := { stood := { row := proofEqualUptoRow, standIns := [], harness := (true, "4b41c1e4d249352bcdad7fb442f9b4095dc9194e4b92b27cabf601e235f481d5"), looks := false }, kinds := [], alts := [], laidByText := true, laidKinds := [.data, .data], laidTests := true, laidLooks := .later }
def ProofEqualUptoCardSaid : Prop := Claim7.holds Tryd.pinned (.plain (OpenSpec.upto proofEqualSpec)) proofEqualUptoCard

/-- THE SECOND FORM's CARD OF 'suffragelaw33.ProofContext'. -/
def proofContextUptoCard : Claim7 := { stood := { row := proofContextUptoRow, standIns := [], harness := (true, "4b41c1e4d249352bcdad7fb442f9b4095dc9194e4b92b27cabf601e235f481d5"), looks := false }, kinds := [], alts := [], laidByText := true, laidKinds := [.data, .data], laidTests := true, laidLooks := .later }
def ProofContextUptoCardSaid : Prop := Claim7.holds Tryd.pinned (.plain (OpenSpec.upto proofContextSpec)) proofContextUptoCard

/-- THE SECOND FORM's CARD OF 'suffragelaw33.ProofEqualComplete'. -/
def proofEqualCompleteUptoCard : Claim7 := { stood := { row := proofEqualCompleteUptoRow, standIns := [], harness := (true, "4b41c1e4d249352bcdad7fb442f9b4095dc9194e4b92b27cabf601e235f481d5"), looks := false }, kinds := [], alts := [], laidByText := true, laidKinds := [.data, .data], laidTests := true, laidLooks := .later }
def ProofEqualCompleteUptoCardSaid : Prop := Claim7.holds Tryd.pinned (.plain (OpenSpec.upto proofEqualCompleteSpec)) proofEqualCompleteUptoCard

/-- THE SECOND FORM's CARD OF 'suffragelaw33.ProofBit'. -/
def proofBitUptoCard : Claim7 := { stood := { row := proofBitUptoRow, standIns := [], harness := (true, "4b41c1e4d249352bcdad7fb442f9b4095dc9194e4b92b27cabf601e235f481d5"), looks := false }, kinds := [], alts := [], laidByText := true, laidKinds := [.data, .data], laidTests := true, laidLooks := .later }
def ProofBitUptoCardSaid : Prop := Claim7.holds Tryd.pinned (.plain (OpenSpec.upto proofBitSpec)) proofBitUptoCard

/-- THE SECOND FORM's CARD OF 'suffragelaw33.ProofBitComplete'. -/
def proofBitCompleteUptoCard : Claim7 := { stood := { row := proofBitCompleteUptoRow, standIns := [], harness := (true, "4b41c1e4d249352bcdad7fb442f9b4095dc9194e4b92b27cabf601e235f481d5"), looks := false }, kinds := [], alts := [], laidByText := true, laidKinds := [.data, .data], laidTests := true, laidLooks := .later }
def ProofBitCompleteUptoCardSaid : Prop := Claim7.holds Tryd.pinned (.plain (OpenSpec.upto proofBitCompleteSpec)) proofBitCompleteUptoCard

/-- THE SECOND FORM's CARD OF 'suffragelaw33.ProofNames'. -/
def proofNamesUptoCard : Claim7 := { stood := { row := proofNamesUptoRow, standIns := [], harness := (true, "4b41c1e4d249352bcdad7fb442f9b4095dc9194e4b92b27cabf601e235f481d5"), looks := false }, kinds := [], alts := [], laidByText := true, laidKinds := [.data, .data], laidTests := true, laidLooks := .later }
def ProofNamesUptoCardSaid : Prop := Claim7.holds Tryd.pinned (.plain (OpenSpec.upto proofNamesSpec)) proofNamesUptoCard
end Rows
end Go.Proofs.YtmcpfinnhgbcpaaDoor
