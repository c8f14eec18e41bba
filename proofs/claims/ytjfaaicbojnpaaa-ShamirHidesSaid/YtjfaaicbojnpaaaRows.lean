/-
  No cell of these rows narrows 'for every input' (looked for: loops, veiled, ifaces, maps, wideKeys, modest, calm, conditions, laid).
  DERIVED. THE GIVEN ROWS OF THIS SEAT. 10 by the template 'for every input the law returns true; each argument reads behind the call as it read before'; 0 by the template 'total and deterministic' (their statements: YtjfaaicbojnpaaaTotals.lean).
  GIVEN WITH THE SEED: the statements are not yours to turn. If you find one false, say at which input.
  Laid BY PROGRAM, IN A SANDBOX (cutbox-rows.mjs): the forced cells as the released guide's own fill.sh prints them over the translation 6f997379c87267e6… (all of the seat's roots in one cut). By AI agents, Wed Nov 11 2026. No macro, syntax, notation, axiom, sorry.
-/
import Derived.Test.YtjfaaicbojnpaaaChecked
import GoSem.Claim
import GoSem.ClaimJoined
import GoSem.ClaimMapViews
import Derived.JoinedTies
import Derived.KernelRfl
namespace Go.Proofs.Ytjfaaicbojnpaaa
/- THE CELL 'sum', in the pinned program and in every row, IS THE sha256 OF THE DUMP (.gsa) THAT YtjfaaicbojnpaaaProg.lean LOADS. Nothing in Lean hashes anything: it is a label: what it is worth is what the hold of that sum in a sandbox is worth. -/
noncomputable def Try.pinned : Pinned := { name := "ytjfaaicbojnpaaa", sum := "6f997379c87267e6bc8e15c8a0f73e330e273669bb724ac109c7c65ca338267b", checked := Try.checked }
namespace Rows
def none {H : Type} : Left H := { results := [], args := [] }

/-- 'suffragelaw34.ShamirMerge': WHATEVER THE INPUT: true; the input reads as it did. -/
def shamirMergeSpec : ChangeSpec := { name := "shamirMerge", fn := fun _ => fun
  | [d1, d2, d3, d4] => { results := [.lit (.bool true)], args := [d1, d2, d3, d4] }
  | _ => none }
def shamirMergeRow : OpenClaim := { program := "ytjfaaicbojnpaaa", sum := "6f997379c87267e6bc8e15c8a0f73e330e273669bb724ac109c7c65ca338267b", func := "suffrage/suffragelaw34.ShamirMerge", spec := "shamirMerge", unfollowed := true, recurses := true, apart := false }
def ShamirMergeSaid : Prop := shamirMergeRow.holds Try.pinned (OpenSpec.ofChange shamirMergeSpec)

/-- ITS FALSE NEIGHBOUR: 'it returns false'. Refute it at one input. -/
def shamirMergeWrong : ChangeSpec := { name := "shamirMerge", fn := fun _ => fun
  | [d1, d2, d3, d4] => { results := [.lit (.bool false)], args := [d1, d2, d3, d4] }
  | _ => none }
def ShamirMergeWrongFalsely : Prop := shamirMergeRow.holds Try.pinned (OpenSpec.ofChange shamirMergeWrong)

/-- 'suffragelaw34.ShamirDeals': WHATEVER THE INPUT: true; the input reads as it did. -/
def shamirDealsSpec : ChangeSpec := { name := "shamirDeals", fn := fun _ => fun
  | [d1, d2, d3, d4, d5, d6] => { results := [.lit (.bool true)], args := [d1, d2, d3, d4, d5, d6] }
  | _ => none }
def shamirDealsRow : OpenClaim := { program := "ytjfaaicbojnpaaa", sum := "6f997379c87267e6bc8e15c8a0f73e330e273669bb724ac109c7c65ca338267b", func := "suffrage/suffragelaw34.ShamirDeals", spec := "shamirDeals", unfollowed := true, recurses := true, apart := false }
def ShamirDealsSaid : Prop := shamirDealsRow.holds Try.pinned (OpenSpec.ofChange shamirDealsSpec)

/-- ITS FALSE NEIGHBOUR: 'it returns false'. Refute it at one input. -/
def shamirDealsWrong : ChangeSpec := { name := "shamirDeals", fn := fun _ => fun
  | [d1, d2, d3, d4, d5, d6] => { results := [.lit (.bool false)], args := [d1, d2, d3, d4, d5, d6] }
  | _ => none }
def ShamirDealsWrongFalsely : Prop := shamirDealsRow.holds Try.pinned (OpenSpec.ofChange shamirDealsWrong)

/-- 'suffragelaw34.ShamirWeights': WHATEVER THE INPUT: true; the input reads as it did. -/
def shamirWeightsSpec : ChangeSpec := { name := "shamirWeights", fn := fun _ => fun
  | [d1, d2, d3] => { results := [.lit (.bool true)], args := [d1, d2, d3] }
  | _ => none }
def shamirWeightsRow : OpenClaim := { program := "ytjfaaicbojnpaaa", sum := "6f997379c87267e6bc8e15c8a0f73e330e273669bb724ac109c7c65ca338267b", func := "suffrage/suffragelaw34.ShamirWeights", spec := "shamirWeights", unfollowed := true, recurses := true, apart := false }
def ShamirWeightsSaid : Prop := shamirWeightsRow.holds Try.pinned (OpenSpec.ofChange shamirWeightsSpec)

/-- ITS FALSE NEIGHBOUR: 'it returns false'. Refute it at one input. -/
def shamirWeightsWrong : ChangeSpec := { name := "shamirWeights", fn := fun _ => fun
  | [d1, d2, d3] => { results := [.lit (.bool false)], args := [d1, d2, d3] }
  | _ => none }
def ShamirWeightsWrongFalsely : Prop := shamirWeightsRow.holds Try.pinned (OpenSpec.ofChange shamirWeightsWrong)

/-- 'suffragelaw34.ShamirJoins': WHATEVER THE INPUT: true; the input reads as it did. -/
def shamirJoinsSpec : ChangeSpec := { name := "shamirJoins", fn := fun _ => fun
  | [d1, d2, d3, d4] => { results := [.lit (.bool true)], args := [d1, d2, d3, d4] }
  | _ => none }
def shamirJoinsRow : OpenClaim := { program := "ytjfaaicbojnpaaa", sum := "6f997379c87267e6bc8e15c8a0f73e330e273669bb724ac109c7c65ca338267b", func := "suffrage/suffragelaw34.ShamirJoins", spec := "shamirJoins", unfollowed := true, recurses := true, apart := false }
def ShamirJoinsSaid : Prop := shamirJoinsRow.holds Try.pinned (OpenSpec.ofChange shamirJoinsSpec)

/-- ITS FALSE NEIGHBOUR: 'it returns false'. Refute it at one input. -/
def shamirJoinsWrong : ChangeSpec := { name := "shamirJoins", fn := fun _ => fun
  | [d1, d2, d3, d4] => { results := [.lit (.bool false)], args := [d1, d2, d3, d4] }
  | _ => none }
def ShamirJoinsWrongFalsely : Prop := shamirJoinsRow.holds Try.pinned (OpenSpec.ofChange shamirJoinsWrong)

/-- 'suffragelaw34.ShamirFits': WHATEVER THE INPUT: true; the input reads as it did. -/
def shamirFitsSpec : ChangeSpec := { name := "shamirFits", fn := fun _ => fun
  | [d1, d2, d3, d4, d5] => { results := [.lit (.bool true)], args := [d1, d2, d3, d4, d5] }
  | _ => none }
def shamirFitsRow : OpenClaim := { program := "ytjfaaicbojnpaaa", sum := "6f997379c87267e6bc8e15c8a0f73e330e273669bb724ac109c7c65ca338267b", func := "suffrage/suffragelaw34.ShamirFits", spec := "shamirFits", unfollowed := true, recurses := true, apart := false }
def ShamirFitsSaid : Prop := shamirFitsRow.holds Try.pinned (OpenSpec.ofChange shamirFitsSpec)

/-- ITS FALSE NEIGHBOUR: 'it returns false'. Refute it at one input. -/
def shamirFitsWrong : ChangeSpec := { name := "shamirFits", fn := fun _ => fun
  | [d1, d2, d3, d4, d5] => { results := [.lit (.bool false)], args := [d1, d2, d3, d4, d5] }
  | _ => none }
def ShamirFitsWrongFalsely : Prop := shamirFitsRow.holds Try.pinned (OpenSpec.ofChange shamirFitsWrong)

/-- 'suffragelaw34.ShamirRaises': WHATEVER THE INPUT: true; the input reads as it did. -/
def shamirRaisesSpec : ChangeSpec := { name := "shamirRaises", fn := fun _ => fun
  | [d1, d2, d3, d4, d5] => { results := [.lit (.bool true)], args := [d1, d2, d3, d4, d5] }
  | _ => none }
def shamirRaisesRow : OpenClaim := { program := "ytjfaaicbojnpaaa", sum := "6f997379c87267e6bc8e15c8a0f73e330e273669bb724ac109c7c65ca338267b", func := "suffrage/suffragelaw34.ShamirRaises", spec := "shamirRaises", unfollowed := true, recurses := true, apart := false }
def ShamirRaisesSaid : Prop := shamirRaisesRow.holds Try.pinned (OpenSpec.ofChange shamirRaisesSpec)

/-- ITS FALSE NEIGHBOUR: 'it returns false'. Refute it at one input. -/
def shamirRaisesWrong : ChangeSpec := { name := "shamirRaises", fn := fun _ => fun
  | [d1, d2, d3, d4, d5] => { results := [.lit (.bool false)], args := [d1, d2, d3, d4, d5] }
  | _ => none }
def ShamirRaisesWrongFalsely : Prop := shamirRaisesRow.holds Try.pinned (OpenSpec.ofChange shamirRaisesWrong)

/-- 'suffragelaw34.ShamirHides': WHATEVER THE INPUT: true; the input reads as it did. -/
def shamirHidesSpec : ChangeSpec := { name := "shamirHides", fn := fun _ => fun
  | [d1, d2, d3, d4, d5] => { results := [.lit (.bool true)], args := [d1, d2, d3, d4, d5] }
  | _ => none }
def shamirHidesRow : OpenClaim := { program := "ytjfaaicbojnpaaa", sum := "6f997379c87267e6bc8e15c8a0f73e330e273669bb724ac109c7c65ca338267b", func := "suffrage/suffragelaw34.ShamirHides", spec := "shamirHides", unfollowed := true, recurses := true, apart := false }
def ShamirHidesSaid : Prop := shamirHidesRow.holds Try.pinned (OpenSpec.ofChange shamirHidesSpec)

/-- ITS FALSE NEIGHBOUR: 'it returns false'. Refute it at one input. -/
def shamirHidesWrong : ChangeSpec := { name := "shamirHides", fn := fun _ => fun
  | [d1, d2, d3, d4, d5] => { results := [.lit (.bool false)], args := [d1, d2, d3, d4, d5] }
  | _ => none }
def ShamirHidesWrongFalsely : Prop := shamirHidesRow.holds Try.pinned (OpenSpec.ofChange shamirHidesWrong)

/-- 'suffragelaw34.ShamirInterpolates': WHATEVER THE INPUT: true; the input reads as it did. -/
def shamirInterpolatesSpec : ChangeSpec := { name := "shamirInterpolates", fn := fun _ => fun
  | [d1, d2, d3] => { results := [.lit (.bool true)], args := [d1, d2, d3] }
  | _ => none }
def shamirInterpolatesRow : OpenClaim := { program := "ytjfaaicbojnpaaa", sum := "6f997379c87267e6bc8e15c8a0f73e330e273669bb724ac109c7c65ca338267b", func := "suffrage/suffragelaw34.ShamirInterpolates", spec := "shamirInterpolates", unfollowed := true, recurses := true, apart := false }
def ShamirInterpolatesSaid : Prop := shamirInterpolatesRow.holds Try.pinned (OpenSpec.ofChange shamirInterpolatesSpec)

/-- ITS FALSE NEIGHBOUR: 'it returns false'. Refute it at one input. -/
def shamirInterpolatesWrong : ChangeSpec := { name := "shamirInterpolates", fn := fun _ => fun
  | [d1, d2, d3] => { results := [.lit (.bool false)], args := [d1, d2, d3] }
  | _ => none }
def ShamirInterpolatesWrongFalsely : Prop := shamirInterpolatesRow.holds Try.pinned (OpenSpec.ofChange shamirInterpolatesWrong)

/-- 'suffragelaw34.ShamirMerges': WHATEVER THE INPUT: true; the input reads as it did. -/
def shamirMergesSpec : ChangeSpec := { name := "shamirMerges", fn := fun _ => fun
  | [d1, d2, d3, d4] => { results := [.lit (.bool true)], args := [d1, d2, d3, d4] }
  | _ => none }
def shamirMergesRow : OpenClaim := { program := "ytjfaaicbojnpaaa", sum := "6f997379c87267e6bc8e15c8a0f73e330e273669bb724ac109c7c65ca338267b", func := "suffrage/suffragelaw34.ShamirMerges", spec := "shamirMerges", unfollowed := true, recurses := true, apart := false }
def ShamirMergesSaid : Prop := shamirMergesRow.holds Try.pinned (OpenSpec.ofChange shamirMergesSpec)

/-- ITS FALSE NEIGHBOUR: 'it returns false'. Refute it at one input. -/
def shamirMergesWrong : ChangeSpec := { name := "shamirMerges", fn := fun _ => fun
  | [d1, d2, d3, d4] => { results := [.lit (.bool false)], args := [d1, d2, d3, d4] }
  | _ => none }
def ShamirMergesWrongFalsely : Prop := shamirMergesRow.holds Try.pinned (OpenSpec.ofChange shamirMergesWrong)

/-- 'suffragelaw34.ShamirNames': WHATEVER THE INPUT: true; the input reads as it did. -/
def shamirNamesSpec : ChangeSpec := { name := "shamirNames", fn := fun _ => fun
  | [] => { results := [.lit (.bool true)], args := [] }
  | _ => none }
def shamirNamesRow : OpenClaim := { program := "ytjfaaicbojnpaaa", sum := "6f997379c87267e6bc8e15c8a0f73e330e273669bb724ac109c7c65ca338267b", func := "suffrage/suffragelaw34.ShamirNames", spec := "shamirNames", unfollowed := true, recurses := true, apart := false }
def ShamirNamesSaid : Prop := shamirNamesRow.holds Try.pinned (OpenSpec.ofChange shamirNamesSpec)

/-- ITS FALSE NEIGHBOUR: 'it returns false'. Refute it at one input. -/
def shamirNamesWrong : ChangeSpec := { name := "shamirNames", fn := fun _ => fun
  | [] => { results := [.lit (.bool false)], args := [] }
  | _ => none }
def ShamirNamesWrongFalsely : Prop := shamirNamesRow.holds Try.pinned (OpenSpec.ofChange shamirNamesWrong)

/- THE SECOND FORM. 'bulk': how many values and letters a reading holds, each counted each time it is reached (what is shared counts as often as it is met; a slice's spare places count too). A statement '..UptoSaid' is the law's where the arguments, and the package variables that the reading takes, are together of bulk at most 1048576: NARROWER than '..Said'. Prove '..Said' where nothing that the law and all that it calls make is longer than what came in: it says more and counts as full. Else prove '..UptoSaid'. A law counts once. -/
mutual
def uptoBulk {H : Type} : DataW H → Nat
  | .lit (.string bytes) => bytes.length + 1
  | .lit _ => 1
  | .nil => 1
  | .ptr d => uptoBulk d + 1
  | .slice elems spare => uptoBulkAll elems + uptoBulkAll spare + 1
  | .agg parts => uptoBulkAll parts + 1
  | .iface _ d => uptoBulk d + 1
  | .map entries => uptoBulkEntries entries + 1
  | .held _ => 1
def uptoBulkAll {H : Type} : List (DataW H) → Nat
  | [] => 0
  | d :: r => uptoBulk d + uptoBulkAll r
def uptoBulkEntries {H : Type} : List (Lit × DataW H) → Nat
  | [] => 0
  | x :: r => uptoBulkEntry x + uptoBulkEntries r
def uptoBulkEntry {H : Type} : Lit × DataW H → Nat
  | (.string bytes, d) => bytes.length + uptoBulk d + 1
  | (_, d) => uptoBulk d + 1
 end
def uptoSmall : (H : Type) → List (DataW H) → Bool := fun _ ds => decide (uptoBulkAll ds ≤ 1048576)
def OpenSpec.upto (s : _root_.Go.ChangeSpec) : _root_.Go.OpenSpec := { _root_.Go.OpenSpec.ofChange s with cond := some uptoSmall }

/-- 'suffragelaw34.ShamirMerge', WHERE WHAT IT READS IS OF BULK AT MOST 1048576: true; the input reads as it did. -/
def shamirMergeUptoRow : OpenClaim := { program := "ytjfaaicbojnpaaa", sum := "6f997379c87267e6bc8e15c8a0f73e330e273669bb724ac109c7c65ca338267b", func := "suffrage/suffragelaw34.ShamirMerge", spec := "shamirMerge", unfollowed := true, recurses := true, apart := false, narrowed := true }
def ShamirMergeUptoSaid : Prop := shamirMergeUptoRow.holds Try.pinned (OpenSpec.upto shamirMergeSpec)

/-- 'suffragelaw34.ShamirDeals', WHERE WHAT IT READS IS OF BULK AT MOST 1048576: true; the input reads as it did. -/
def shamirDealsUptoRow : OpenClaim := { program := "ytjfaaicbojnpaaa", sum := "6f997379c87267e6bc8e15c8a0f73e330e273669bb724ac109c7c65ca338267b", func := "suffrage/suffragelaw34.ShamirDeals", spec := "shamirDeals", unfollowed := true, recurses := true, apart := false, narrowed := true }
def ShamirDealsUptoSaid : Prop := shamirDealsUptoRow.holds Try.pinned (OpenSpec.upto shamirDealsSpec)

/-- 'suffragelaw34.ShamirWeights', WHERE WHAT IT READS IS OF BULK AT MOST 1048576: true; the input reads as it did. -/
def shamirWeightsUptoRow : OpenClaim := { program := "ytjfaaicbojnpaaa", sum := "6f997379c87267e6bc8e15c8a0f73e330e273669bb724ac109c7c65ca338267b", func := "suffrage/suffragelaw34.ShamirWeights", spec := "shamirWeights", unfollowed := true, recurses := true, apart := false, narrowed := true }
def ShamirWeightsUptoSaid : Prop := shamirWeightsUptoRow.holds Try.pinned (OpenSpec.upto shamirWeightsSpec)

/-- 'suffragelaw34.ShamirJoins', WHERE WHAT IT READS IS OF BULK AT MOST 1048576: true; the input reads as it did. -/
def shamirJoinsUptoRow : OpenClaim := { program := "ytjfaaicbojnpaaa", sum := "6f997379c87267e6bc8e15c8a0f73e330e273669bb724ac109c7c65ca338267b", func := "suffrage/suffragelaw34.ShamirJoins", spec := "shamirJoins", unfollowed := true, recurses := true, apart := false, narrowed := true }
def ShamirJoinsUptoSaid : Prop := shamirJoinsUptoRow.holds Try.pinned (OpenSpec.upto shamirJoinsSpec)

/-- 'suffragelaw34.ShamirFits', WHERE WHAT IT READS IS OF BULK AT MOST 1048576: true; the input reads as it did. -/
def shamirFitsUptoRow : OpenClaim := { program := "ytjfaaicbojnpaaa", sum := "6f997379c87267e6bc8e15c8a0f73e330e273669bb724ac109c7c65ca338267b", func := "suffrage/suffragelaw34.ShamirFits", spec := "shamirFits", unfollowed := true, recurses := true, apart := false, narrowed := true }
def ShamirFitsUptoSaid : Prop := shamirFitsUptoRow.holds Try.pinned (OpenSpec.upto shamirFitsSpec)

/-- 'suffragelaw34.ShamirRaises', WHERE WHAT IT READS IS OF BULK AT MOST 1048576: true; the input reads as it did. -/
def shamirRaisesUptoRow : OpenClaim := { program := "ytjfaaicbojnpaaa", sum := "6f997379c87267e6bc8e15c8a0f73e330e273669bb724ac109c7c65ca338267b", func := "suffrage/suffragelaw34.ShamirRaises", spec := "shamirRaises", unfollowed := true, recurses := true, apart := false, narrowed := true }
def ShamirRaisesUptoSaid : Prop := shamirRaisesUptoRow.holds Try.pinned (OpenSpec.upto shamirRaisesSpec)

/-- 'suffragelaw34.ShamirHides', WHERE WHAT IT READS IS OF BULK AT MOST 1048576: true; the input reads as it did. -/
def shamirHidesUptoRow : OpenClaim := { program := "ytjfaaicbojnpaaa", sum := "6f997379c87267e6bc8e15c8a0f73e330e273669bb724ac109c7c65ca338267b", func := "suffrage/suffragelaw34.ShamirHides", spec := "shamirHides", unfollowed := true, recurses := true, apart := false, narrowed := true }
def ShamirHidesUptoSaid : Prop := shamirHidesUptoRow.holds Try.pinned (OpenSpec.upto shamirHidesSpec)

/-- 'suffragelaw34.ShamirInterpolates', WHERE WHAT IT READS IS OF BULK AT MOST 1048576: true; the input reads as it did. -/
def shamirInterpolatesUptoRow : OpenClaim := { program := "ytjfaaicbojnpaaa", sum := "6f997379c87267e6bc8e15c8a0f73e330e273669bb724ac109c7c65ca338267b", func := "suffrage/suffragelaw34.ShamirInterpolates", spec := "shamirInterpolates", unfollowed := true, recurses := true, apart := false, narrowed := true }
def ShamirInterpolatesUptoSaid : Prop := shamirInterpolatesUptoRow.holds Try.pinned (OpenSpec.upto shamirInterpolatesSpec)

/-- 'suffragelaw34.ShamirMerges', WHERE WHAT IT READS IS OF BULK AT MOST 1048576: true; the input reads as it did. -/
def shamirMergesUptoRow : OpenClaim := { program := "ytjfaaicbojnpaaa", sum := "6f997379c87267e6bc8e15c8a0f73e330e273669bb724ac109c7c65ca338267b", func := "suffrage/suffragelaw34.ShamirMerges", spec := "shamirMerges", unfollowed := true, recurses := true, apart := false, narrowed := true }
def ShamirMergesUptoSaid : Prop := shamirMergesUptoRow.holds Try.pinned (OpenSpec.upto shamirMergesSpec)

/-- 'suffragelaw34.ShamirNames', WHERE WHAT IT READS IS OF BULK AT MOST 1048576: true; the input reads as it did. -/
def shamirNamesUptoRow : OpenClaim := { program := "ytjfaaicbojnpaaa", sum := "6f997379c87267e6bc8e15c8a0f73e330e273669bb724ac109c7c65ca338267b", func := "suffrage/suffragelaw34.ShamirNames", spec := "shamirNames", unfollowed := true, recurses := true, apart := false, narrowed := true }
def ShamirNamesUptoSaid : Prop := shamirNamesUptoRow.holds Try.pinned (OpenSpec.upto shamirNamesSpec)

end Rows
end Go.Proofs.Ytjfaaicbojnpaaa
