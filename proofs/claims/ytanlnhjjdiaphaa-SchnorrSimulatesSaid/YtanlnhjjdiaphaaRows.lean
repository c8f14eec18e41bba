/-
  No cell of these rows narrows 'for every input' (looked for: loops, veiled, ifaces, maps, wideKeys, modest, calm, conditions, laid).
  DERIVED. THE GIVEN ROWS OF THIS SEAT. 4 by the template 'for every input the law returns true; each argument reads behind the call as it read before'; 0 by the template 'total and deterministic' (their statements: YtanlnhjjdiaphaaTotals.lean).
  GIVEN WITH THE SEED: the statements are not yours to turn. If you find one false, say at which input.
  Laid BY PROGRAM, IN A SANDBOX (cutbox-rows.mjs): the forced cells as the released guide's own fill.sh prints them over the translation fd1aa93b1925a94c… (all of the seat's roots in one cut). By AI agents, Wed Nov 11 2026. No macro, syntax, notation, axiom, sorry.
-/
import Derived.Test.YtanlnhjjdiaphaaChecked
import GoSem.Claim
import GoSem.ClaimJoined
import GoSem.ClaimMapViews
import Derived.JoinedTies
import Derived.KernelRfl
namespace Go.Proofs.Ytanlnhjjdiaphaa
/- THE CELL 'sum', in the pinned program and in every row, IS THE sha256 OF THE DUMP (.gsa) THAT YtanlnhjjdiaphaaProg.lean LOADS. Nothing in Lean hashes anything: it is a label: what it is worth is what the hold of that sum in a sandbox is worth. -/
noncomputable def Try.pinned : Pinned := { name := "ytanlnhjjdiaphaa", sum := "fd1aa93b1925a94cbcc9428a29ab10952e17c8d904186891d5655e1de5f22b1a", checked := Try.checked }
namespace Rows
def none {H : Type} : Left H := { results := [], args := [] }

/-- 'suffragelaw31.SchnorrResponses': WHATEVER THE INPUT: true; the input reads as it did. -/
def schnorrResponsesSpec : ChangeSpec := { name := "schnorrResponses", fn := fun _ => fun
  | [d1, d2, d3, d4, d5, d6, d7] => { results := [.lit (.bool true)], args := [d1, d2, d3, d4, d5, d6, d7] }
  | _ => none }
def schnorrResponsesRow : OpenClaim := { program := "ytanlnhjjdiaphaa", sum := "fd1aa93b1925a94cbcc9428a29ab10952e17c8d904186891d5655e1de5f22b1a", func := "suffrage/suffragelaw31.SchnorrResponses", spec := "schnorrResponses", unfollowed := true, recurses := true, apart := false }
def SchnorrResponsesSaid : Prop := schnorrResponsesRow.holds Try.pinned (OpenSpec.ofChange schnorrResponsesSpec)

/-- ITS FALSE NEIGHBOUR: 'it returns false'. Refute it at one input. -/
def schnorrResponsesWrong : ChangeSpec := { name := "schnorrResponses", fn := fun _ => fun
  | [d1, d2, d3, d4, d5, d6, d7] => { results := [.lit (.bool false)], args := [d1, d2, d3, d4, d5, d6, d7] }
  | _ => none }
def SchnorrResponsesWrongFalsely : Prop := schnorrResponsesRow.holds Try.pinned (OpenSpec.ofChange schnorrResponsesWrong)

/-- 'suffragelaw31.SchnorrHolds': WHATEVER THE INPUT: true; the input reads as it did. -/
def schnorrHoldsSpec : ChangeSpec := { name := "schnorrHolds", fn := fun _ => fun
  | [d1, d2, d3, d4] => { results := [.lit (.bool true)], args := [d1, d2, d3, d4] }
  | _ => none }
def schnorrHoldsRow : OpenClaim := { program := "ytanlnhjjdiaphaa", sum := "fd1aa93b1925a94cbcc9428a29ab10952e17c8d904186891d5655e1de5f22b1a", func := "suffrage/suffragelaw31.SchnorrHolds", spec := "schnorrHolds", unfollowed := true, recurses := true, apart := false }
def SchnorrHoldsSaid : Prop := schnorrHoldsRow.holds Try.pinned (OpenSpec.ofChange schnorrHoldsSpec)

/-- ITS FALSE NEIGHBOUR: 'it returns false'. Refute it at one input. -/
def schnorrHoldsWrong : ChangeSpec := { name := "schnorrHolds", fn := fun _ => fun
  | [d1, d2, d3, d4] => { results := [.lit (.bool false)], args := [d1, d2, d3, d4] }
  | _ => none }
def SchnorrHoldsWrongFalsely : Prop := schnorrHoldsRow.holds Try.pinned (OpenSpec.ofChange schnorrHoldsWrong)

/-- 'suffragelaw31.SchnorrExtracts': WHATEVER THE INPUT: true; the input reads as it did. -/
def schnorrExtractsSpec : ChangeSpec := { name := "schnorrExtracts", fn := fun _ => fun
  | [d1, d2, d3, d4, d5, d6, d7] => { results := [.lit (.bool true)], args := [d1, d2, d3, d4, d5, d6, d7] }
  | _ => none }
def schnorrExtractsRow : OpenClaim := { program := "ytanlnhjjdiaphaa", sum := "fd1aa93b1925a94cbcc9428a29ab10952e17c8d904186891d5655e1de5f22b1a", func := "suffrage/suffragelaw31.SchnorrExtracts", spec := "schnorrExtracts", unfollowed := true, recurses := true, apart := false }
def SchnorrExtractsSaid : Prop := schnorrExtractsRow.holds Try.pinned (OpenSpec.ofChange schnorrExtractsSpec)

/-- ITS FALSE NEIGHBOUR: 'it returns false'. Refute it at one input. -/
def schnorrExtractsWrong : ChangeSpec := { name := "schnorrExtracts", fn := fun _ => fun
  | [d1, d2, d3, d4, d5, d6, d7] => { results := [.lit (.bool false)], args := [d1, d2, d3, d4, d5, d6, d7] }
  | _ => none }
def SchnorrExtractsWrongFalsely : Prop := schnorrExtractsRow.holds Try.pinned (OpenSpec.ofChange schnorrExtractsWrong)

/-- 'suffragelaw31.SchnorrSimulates': WHATEVER THE INPUT: true; the input reads as it did. -/
def schnorrSimulatesSpec : ChangeSpec := { name := "schnorrSimulates", fn := fun _ => fun
  | [d1, d2, d3, d4, d5] => { results := [.lit (.bool true)], args := [d1, d2, d3, d4, d5] }
  | _ => none }
def schnorrSimulatesRow : OpenClaim := { program := "ytanlnhjjdiaphaa", sum := "fd1aa93b1925a94cbcc9428a29ab10952e17c8d904186891d5655e1de5f22b1a", func := "suffrage/suffragelaw31.SchnorrSimulates", spec := "schnorrSimulates", unfollowed := true, recurses := true, apart := false }
def SchnorrSimulatesSaid : Prop := schnorrSimulatesRow.holds Try.pinned (OpenSpec.ofChange schnorrSimulatesSpec)

/-- ITS FALSE NEIGHBOUR: 'it returns false'. Refute it at one input. -/
def schnorrSimulatesWrong : ChangeSpec := { name := "schnorrSimulates", fn := fun _ => fun
  | [d1, d2, d3, d4, d5] => { results := [.lit (.bool false)], args := [d1, d2, d3, d4, d5] }
  | _ => none }
def SchnorrSimulatesWrongFalsely : Prop := schnorrSimulatesRow.holds Try.pinned (OpenSpec.ofChange schnorrSimulatesWrong)

/- THE SECOND FORM. 'bulk': how many values and letters a reading holds, each counted each time it is reached (what is shared counts as often as it is met; a slice's spare places count too). A statement '..UptoSaid' is the law's where the arguments, and the package variables that the reading takes, are together of bulk at most 1048576: NARROWER than '..Said'. Prove '..Said' where nothing that the law and all that it calls make is longer than what came in: it says more and counts as full. Else prove '..UptoSaid'. A law counts once. -/
mutual
def uptoBulk {H : Type} : DataW H → Nat
  | .lit (.string bytes) => bytes.length + 1
  | .lit _ => 1
  | .nil => 1
  | .ptr d => uptoBulk d + 1
  | .slice elems spare => uptoBulkAll elems + uptoBulkAll spare + 1
  | .agg parts => uptoBulkAll parts + 1
  | .iface _ d => uptoBulk d + 1
  | .map entries => uptoBulkEntries entries + 1
  | .held _ => 1
def uptoBulkAll {H : Type} : List (DataW H) → Nat
  | [] => 0
  | d :: r => uptoBulk d + uptoBulkAll r
def uptoBulkEntries {H : Type} : List (Lit × DataW H) → Nat
  | [] => 0
  | x :: r => uptoBulkEntry x + uptoBulkEntries r
def uptoBulkEntry {H : Type} : Lit × DataW H → Nat
  | (.string bytes, d) => bytes.length + uptoBulk d + 1
  | (_, d) => uptoBulk d + 1
 end
def uptoSmall : (H : Type) → List (DataW H) → Bool := fun _ ds => decide (uptoBulkAll ds ≤ 1048576)
def OpenSpec.upto (s : _root_.Go.ChangeSpec) : _root_.Go.OpenSpec := { _root_.Go.OpenSpec.ofChange s with cond := some uptoSmall }

/-- 'suffragelaw31.SchnorrResponses', WHERE WHAT IT READS IS OF BULK AT MOST 1048576: true; the input reads as it did. -/
def schnorrResponsesUptoRow : OpenClaim := { program := "ytanlnhjjdiaphaa", sum := "fd1aa93b1925a94cbcc9428a29ab10952e17c8d904186891d5655e1de5f22b1a", func := "suffrage/suffragelaw31.SchnorrResponses", spec := "schnorrResponses", unfollowed := true, recurses := true, apart := false, narrowed := true }
def SchnorrResponsesUptoSaid : Prop := schnorrResponsesUptoRow.holds Try.pinned (OpenSpec.upto schnorrResponsesSpec)

/-- 'suffragelaw31.SchnorrHolds', WHERE WHAT IT READS IS OF BULK AT MOST 1048576: true; the input reads as it did. -/
def schnorrHoldsUptoRow : OpenClaim := { program := "ytanlnhjjdiaphaa", sum := "fd1aa93b1925a94cbcc9428a29ab10952e17c8d904186891d5655e1de5f22b1a", func := "suffrage/suffragelaw31.SchnorrHolds", spec := "schnorrHolds", unfollowed := true, recurses := true, apart := false, narrowed := true }
def SchnorrHoldsUptoSaid : Prop := schnorrHoldsUptoRow.holds Try.pinned (OpenSpec.upto schnorrHoldsSpec)

/-- 'suffragelaw31.SchnorrExtracts', WHERE WHAT IT READS IS OF BULK AT MOST 1048576: true; the input reads as it did. -/
def schnorrExtractsUptoRow : OpenClaim := { program := "ytanlnhjjdiaphaa", sum := "fd1aa93b1925a94cbcc9428a29ab10952e17c8d904186891d5655e1de5f22b1a", func := "suffrage/suffragelaw31.SchnorrExtracts", spec := "schnorrExtracts", unfollowed := true, recurses := true, apart := false, narrowed := true }
def SchnorrExtractsUptoSaid : Prop := schnorrExtractsUptoRow.holds Try.pinned (OpenSpec.upto schnorrExtractsSpec)

/-- 'suffragelaw31.SchnorrSimulates', WHERE WHAT IT READS IS OF BULK AT MOST 1048576: true; the input reads as it did. -/
def schnorrSimulatesUptoRow : OpenClaim := { program := "ytanlnhjjdiaphaa", sum := "fd1aa93b1925a94cbcc9428a29ab10952e17c8d904186891d5655e1de5f22b1a", func := "suffrage/suffragelaw31.SchnorrSimulates", spec := "schnorrSimulates", unfollowed := true, recurses := true, apart := false, narrowed := true }
def SchnorrSimulatesUptoSaid : Prop := schnorrSimulatesUptoRow.holds Try.pinned (OpenSpec.upto schnorrSimulatesSpec)

end Rows
end Go.Proofs.Ytanlnhjjdiaphaa
