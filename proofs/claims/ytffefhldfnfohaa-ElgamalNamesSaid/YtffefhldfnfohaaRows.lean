/-
  No cell of these rows narrows 'for every input' (looked for: loops, veiled, ifaces, maps, wideKeys, modest, calm, conditions, laid).
  DERIVED. THE GIVEN ROWS OF THIS SEAT. 8 by the template 'for every input the law returns true; each argument reads behind the call as it read before'; 0 by the template 'total and deterministic' (their statements: YtffefhldfnfohaaTotals.lean).
  GIVEN WITH THE SEED: the statements are not yours to turn. If you find one false, say at which input.
  Laid BY PROGRAM, IN A SANDBOX (cutbox-rows.mjs): the forced cells as the released guide's own fill.sh prints them over the translation 215d834084d6e2fc… (all of the seat's roots in one cut). By AI agents, Wed Nov 11 2026. No macro, syntax, notation, axiom, sorry.
-/
import Derived.Test.YtffefhldfnfohaaChecked
import GoSem.Claim
import GoSem.ClaimJoined
import GoSem.ClaimMapViews
import Derived.JoinedTies
import Derived.KernelRfl
namespace Go.Proofs.Ytffefhldfnfohaa
/- THE CELL 'sum', in the pinned program and in every row, IS THE sha256 OF THE DUMP (.gsa) THAT YtffefhldfnfohaaProg.lean LOADS. Nothing in Lean hashes anything: it is a label: what it is worth is what the hold of that sum in a sandbox is worth. -/
noncomputable def Try.pinned : Pinned := { name := "ytffefhldfnfohaa", sum := "215d834084d6e2fc4cfc1f66b83a70ba945b86600a87991698c9cc980041b31a", checked := Try.checked }
namespace Rows
def none {H : Type} : Left H := { results := [], args := [] }

/-- 'suffragelaw32.ElgamalSums': WHATEVER THE INPUT: true; the input reads as it did. -/
def elgamalSumsSpec : ChangeSpec := { name := "elgamalSums", fn := fun _ => fun
  | [d1, d2, d3, d4] => { results := [.lit (.bool true)], args := [d1, d2, d3, d4] }
  | _ => none }
def elgamalSumsRow : OpenClaim := { program := "ytffefhldfnfohaa", sum := "215d834084d6e2fc4cfc1f66b83a70ba945b86600a87991698c9cc980041b31a", func := "suffrage/suffragelaw32.ElgamalSums", spec := "elgamalSums", unfollowed := true, recurses := true, apart := false }
def ElgamalSumsSaid : Prop := elgamalSumsRow.holds Try.pinned (OpenSpec.ofChange elgamalSumsSpec)

/-- ITS FALSE NEIGHBOUR: 'it returns false'. Refute it at one input. -/
def elgamalSumsWrong : ChangeSpec := { name := "elgamalSums", fn := fun _ => fun
  | [d1, d2, d3, d4] => { results := [.lit (.bool false)], args := [d1, d2, d3, d4] }
  | _ => none }
def ElgamalSumsWrongFalsely : Prop := elgamalSumsRow.holds Try.pinned (OpenSpec.ofChange elgamalSumsWrong)

/-- 'suffragelaw32.ElgamalOrder': WHATEVER THE INPUT: true; the input reads as it did. -/
def elgamalOrderSpec : ChangeSpec := { name := "elgamalOrder", fn := fun _ => fun
  | [d1, d2, d3] => { results := [.lit (.bool true)], args := [d1, d2, d3] }
  | _ => none }
def elgamalOrderRow : OpenClaim := { program := "ytffefhldfnfohaa", sum := "215d834084d6e2fc4cfc1f66b83a70ba945b86600a87991698c9cc980041b31a", func := "suffrage/suffragelaw32.ElgamalOrder", spec := "elgamalOrder", unfollowed := true, recurses := true, apart := false }
def ElgamalOrderSaid : Prop := elgamalOrderRow.holds Try.pinned (OpenSpec.ofChange elgamalOrderSpec)

/-- ITS FALSE NEIGHBOUR: 'it returns false'. Refute it at one input. -/
def elgamalOrderWrong : ChangeSpec := { name := "elgamalOrder", fn := fun _ => fun
  | [d1, d2, d3] => { results := [.lit (.bool false)], args := [d1, d2, d3] }
  | _ => none }
def ElgamalOrderWrongFalsely : Prop := elgamalOrderRow.holds Try.pinned (OpenSpec.ofChange elgamalOrderWrong)

/-- 'suffragelaw32.ElgamalEncrypts': WHATEVER THE INPUT: true; the input reads as it did. -/
def elgamalEncryptsSpec : ChangeSpec := { name := "elgamalEncrypts", fn := fun _ => fun
  | [d1, d2, d3, d4, d5, d6, d7] => { results := [.lit (.bool true)], args := [d1, d2, d3, d4, d5, d6, d7] }
  | _ => none }
def elgamalEncryptsRow : OpenClaim := { program := "ytffefhldfnfohaa", sum := "215d834084d6e2fc4cfc1f66b83a70ba945b86600a87991698c9cc980041b31a", func := "suffrage/suffragelaw32.ElgamalEncrypts", spec := "elgamalEncrypts", unfollowed := true, recurses := true, apart := false }
def ElgamalEncryptsSaid : Prop := elgamalEncryptsRow.holds Try.pinned (OpenSpec.ofChange elgamalEncryptsSpec)

/-- ITS FALSE NEIGHBOUR: 'it returns false'. Refute it at one input. -/
def elgamalEncryptsWrong : ChangeSpec := { name := "elgamalEncrypts", fn := fun _ => fun
  | [d1, d2, d3, d4, d5, d6, d7] => { results := [.lit (.bool false)], args := [d1, d2, d3, d4, d5, d6, d7] }
  | _ => none }
def ElgamalEncryptsWrongFalsely : Prop := elgamalEncryptsRow.holds Try.pinned (OpenSpec.ofChange elgamalEncryptsWrong)

/-- 'suffragelaw32.ElgamalBinds': WHATEVER THE INPUT: true; the input reads as it did. -/
def elgamalBindsSpec : ChangeSpec := { name := "elgamalBinds", fn := fun _ => fun
  | [d1, d2, d3, d4, d5, d6] => { results := [.lit (.bool true)], args := [d1, d2, d3, d4, d5, d6] }
  | _ => none }
def elgamalBindsRow : OpenClaim := { program := "ytffefhldfnfohaa", sum := "215d834084d6e2fc4cfc1f66b83a70ba945b86600a87991698c9cc980041b31a", func := "suffrage/suffragelaw32.ElgamalBinds", spec := "elgamalBinds", unfollowed := true, recurses := true, apart := false }
def ElgamalBindsSaid : Prop := elgamalBindsRow.holds Try.pinned (OpenSpec.ofChange elgamalBindsSpec)

/-- ITS FALSE NEIGHBOUR: 'it returns false'. Refute it at one input. -/
def elgamalBindsWrong : ChangeSpec := { name := "elgamalBinds", fn := fun _ => fun
  | [d1, d2, d3, d4, d5, d6] => { results := [.lit (.bool false)], args := [d1, d2, d3, d4, d5, d6] }
  | _ => none }
def ElgamalBindsWrongFalsely : Prop := elgamalBindsRow.holds Try.pinned (OpenSpec.ofChange elgamalBindsWrong)

/-- 'suffragelaw32.ElgamalDecrypts': WHATEVER THE INPUT: true; the input reads as it did. -/
def elgamalDecryptsSpec : ChangeSpec := { name := "elgamalDecrypts", fn := fun _ => fun
  | [d1, d2, d3, d4, d5] => { results := [.lit (.bool true)], args := [d1, d2, d3, d4, d5] }
  | _ => none }
def elgamalDecryptsRow : OpenClaim := { program := "ytffefhldfnfohaa", sum := "215d834084d6e2fc4cfc1f66b83a70ba945b86600a87991698c9cc980041b31a", func := "suffrage/suffragelaw32.ElgamalDecrypts", spec := "elgamalDecrypts", unfollowed := true, recurses := true, apart := false }
def ElgamalDecryptsSaid : Prop := elgamalDecryptsRow.holds Try.pinned (OpenSpec.ofChange elgamalDecryptsSpec)

/-- ITS FALSE NEIGHBOUR: 'it returns false'. Refute it at one input. -/
def elgamalDecryptsWrong : ChangeSpec := { name := "elgamalDecrypts", fn := fun _ => fun
  | [d1, d2, d3, d4, d5] => { results := [.lit (.bool false)], args := [d1, d2, d3, d4, d5] }
  | _ => none }
def ElgamalDecryptsWrongFalsely : Prop := elgamalDecryptsRow.holds Try.pinned (OpenSpec.ofChange elgamalDecryptsWrong)

/-- 'suffragelaw32.ElgamalAdds': WHATEVER THE INPUT: true; the input reads as it did. -/
def elgamalAddsSpec : ChangeSpec := { name := "elgamalAdds", fn := fun _ => fun
  | [d1, d2, d3, d4] => { results := [.lit (.bool true)], args := [d1, d2, d3, d4] }
  | _ => none }
def elgamalAddsRow : OpenClaim := { program := "ytffefhldfnfohaa", sum := "215d834084d6e2fc4cfc1f66b83a70ba945b86600a87991698c9cc980041b31a", func := "suffrage/suffragelaw32.ElgamalAdds", spec := "elgamalAdds", unfollowed := true, recurses := true, apart := false }
def ElgamalAddsSaid : Prop := elgamalAddsRow.holds Try.pinned (OpenSpec.ofChange elgamalAddsSpec)

/-- ITS FALSE NEIGHBOUR: 'it returns false'. Refute it at one input. -/
def elgamalAddsWrong : ChangeSpec := { name := "elgamalAdds", fn := fun _ => fun
  | [d1, d2, d3, d4] => { results := [.lit (.bool false)], args := [d1, d2, d3, d4] }
  | _ => none }
def ElgamalAddsWrongFalsely : Prop := elgamalAddsRow.holds Try.pinned (OpenSpec.ofChange elgamalAddsWrong)

/-- 'suffragelaw32.ElgamalNames': WHATEVER THE INPUT: true; the input reads as it did. -/
def elgamalNamesSpec : ChangeSpec := { name := "elgamalNames", fn := fun _ => fun
  | [] => { results := [.lit (.bool true)], args := [] }
  | _ => none }
def elgamalNamesRow : OpenClaim := { program := "ytffefhldfnfohaa", sum := "215d834084d6e2fc4cfc1f66b83a70ba945b86600a87991698c9cc980041b31a", func := "suffrage/suffragelaw32.ElgamalNames", spec := "elgamalNames", unfollowed := true, recurses := true, apart := false }
def ElgamalNamesSaid : Prop := elgamalNamesRow.holds Try.pinned (OpenSpec.ofChange elgamalNamesSpec)

/-- ITS FALSE NEIGHBOUR: 'it returns false'. Refute it at one input. -/
def elgamalNamesWrong : ChangeSpec := { name := "elgamalNames", fn := fun _ => fun
  | [] => { results := [.lit (.bool false)], args := [] }
  | _ => none }
def ElgamalNamesWrongFalsely : Prop := elgamalNamesRow.holds Try.pinned (OpenSpec.ofChange elgamalNamesWrong)

/-- 'suffragelaw32.ElgamalRefreshes': WHATEVER THE INPUT: true; the input reads as it did. -/
def elgamalRefreshesSpec : ChangeSpec := { name := "elgamalRefreshes", fn := fun _ => fun
  | [d1, d2, d3, d4, d5] => { results := [.lit (.bool true)], args := [d1, d2, d3, d4, d5] }
  | _ => none }
def elgamalRefreshesRow : OpenClaim := { program := "ytffefhldfnfohaa", sum := "215d834084d6e2fc4cfc1f66b83a70ba945b86600a87991698c9cc980041b31a", func := "suffrage/suffragelaw32.ElgamalRefreshes", spec := "elgamalRefreshes", unfollowed := true, recurses := true, apart := false }
def ElgamalRefreshesSaid : Prop := elgamalRefreshesRow.holds Try.pinned (OpenSpec.ofChange elgamalRefreshesSpec)

/-- ITS FALSE NEIGHBOUR: 'it returns false'. Refute it at one input. -/
def elgamalRefreshesWrong : ChangeSpec := { name := "elgamalRefreshes", fn := fun _ => fun
  | [d1, d2, d3, d4, d5] => { results := [.lit (.bool false)], args := [d1, d2, d3, d4, d5] }
  | _ => none }
def ElgamalRefreshesWrongFalsely : Prop := elgamalRefreshesRow.holds Try.pinned (OpenSpec.ofChange elgamalRefreshesWrong)

/- THE SECOND FORM. 'bulk': how many values and letters a reading holds, each counted each time it is reached (what is shared counts as often as it is met; a slice's spare places count too). A statement '..UptoSaid' is the law's where the arguments, and the package variables that the reading takes, are together of bulk at most 1048576: NARROWER than '..Said'. Prove '..Said' where nothing that the law and all that it calls make is longer than what came in: it says more and counts as full. Else prove '..UptoSaid'. A law counts once. -/
mutual
def uptoBulk {H : Type} : DataW H → Nat
  | .lit (.string bytes) => bytes.length + 1
  | .lit _ => 1
  | .nil => 1
  | .ptr d => uptoBulk d + 1
  | .slice elems spare => uptoBulkAll elems + uptoBulkAll spare + 1
  | .agg parts => uptoBulkAll parts + 1
  | .iface _ d => uptoBulk d + 1
  | .map entries => uptoBulkEntries entries + 1
  | .held _ => 1
def uptoBulkAll {H : Type} : List (DataW H) → Nat
  | [] => 0
  | d :: r => uptoBulk d + uptoBulkAll r
def uptoBulkEntries {H : Type} : List (Lit × DataW H) → Nat
  | [] => 0
  | x :: r => uptoBulkEntry x + uptoBulkEntries r
def uptoBulkEntry {H : Type} : Lit × DataW H → Nat
  | (.string bytes, d) => bytes.length + uptoBulk d + 1
  | (_, d) => uptoBulk d + 1
 end
def uptoSmall : (H : Type) → List (DataW H) → Bool := fun _ ds => decide (uptoBulkAll ds ≤ 1048576)
def OpenSpec.upto (s : _root_.Go.ChangeSpec) : _root_.Go.OpenSpec := { _root_.Go.OpenSpec.ofChange s with cond := some uptoSmall }

/-- 'suffragelaw32.ElgamalSums', WHERE WHAT IT READS IS OF BULK AT MOST 1048576: true; the input reads as it did. -/
def elgamalSumsUptoRow : OpenClaim := { program := "ytffefhldfnfohaa", sum := "215d834084d6e2fc4cfc1f66b83a70ba945b86600a87991698c9cc980041b31a", func := "suffrage/suffragelaw32.ElgamalSums", spec := "elgamalSums", unfollowed := true, recurses := true, apart := false, narrowed := true }
def ElgamalSumsUptoSaid : Prop := elgamalSumsUptoRow.holds Try.pinned (OpenSpec.upto elgamalSumsSpec)

/-- 'suffragelaw32.ElgamalOrder', WHERE WHAT IT READS IS OF BULK AT MOST 1048576: true; the input reads as it did. -/
def elgamalOrderUptoRow : OpenClaim := { program := "ytffefhldfnfohaa", sum := "215d834084d6e2fc4cfc1f66b83a70ba945b86600a87991698c9cc980041b31a", func := "suffrage/suffragelaw32.ElgamalOrder", spec := "elgamalOrder", unfollowed := true, recurses := true, apart := false, narrowed := true }
def ElgamalOrderUptoSaid : Prop := elgamalOrderUptoRow.holds Try.pinned (OpenSpec.upto elgamalOrderSpec)

/-- 'suffragelaw32.ElgamalEncrypts', WHERE WHAT IT READS IS OF BULK AT MOST 1048576: true; the input reads as it did. -/
def elgamalEncryptsUptoRow : OpenClaim := { program := "ytffefhldfnfohaa", sum := "215d834084d6e2fc4cfc1f66b83a70ba945b86600a87991698c9cc980041b31a", func := "suffrage/suffragelaw32.ElgamalEncrypts", spec := "elgamalEncrypts", unfollowed := true, recurses := true, apart := false, narrowed := true }
def ElgamalEncryptsUptoSaid : Prop := elgamalEncryptsUptoRow.holds Try.pinned (OpenSpec.upto elgamalEncryptsSpec)

/-- 'suffragelaw32.ElgamalBinds', WHERE WHAT IT READS IS OF BULK AT MOST 1048576: true; the input reads as it did. -/
def elgamalBindsUptoRow : OpenClaim := { program := "ytffefhldfnfohaa", sum := "215d834084d6e2fc4cfc1f66b83a70ba945b86600a87991698c9cc980041b31a", func := "suffrage/suffragelaw32.ElgamalBinds", spec := "elgamalBinds", unfollowed := true, recurses := true, apart := false, narrowed := true }
def ElgamalBindsUptoSaid : Prop := elgamalBindsUptoRow.holds Try.pinned (OpenSpec.upto elgamalBindsSpec)

/-- 'suffragelaw32.ElgamalDecrypts', WHERE WHAT IT READS IS OF BULK AT MOST 1048576: true; the input reads as it did. -/
def elgamalDecryptsUptoRow : OpenClaim := { program := "ytffefhldfnfohaa", sum := "215d834084d6e2fc4cfc1f66b83a70ba945b86600a87991698c9cc980041b31a", func := "suffrage/suffragelaw32.ElgamalDecrypts", spec := "elgamalDecrypts", unfollowed := true, recurses := true, apart := false, narrowed := true }
def ElgamalDecryptsUptoSaid : Prop := elgamalDecryptsUptoRow.holds Try.pinned (OpenSpec.upto elgamalDecryptsSpec)

/-- 'suffragelaw32.ElgamalAdds', WHERE WHAT IT READS IS OF BULK AT MOST 1048576: true; the input reads as it did. -/
def elgamalAddsUptoRow : OpenClaim := { program := "ytffefhldfnfohaa", sum := "215d834084d6e2fc4cfc1f66b83a70ba945b86600a87991698c9cc980041b31a", func := "suffrage/suffragelaw32.ElgamalAdds", spec := "elgamalAdds", unfollowed := true, recurses := true, apart := false, narrowed := true }
def ElgamalAddsUptoSaid : Prop := elgamalAddsUptoRow.holds Try.pinned (OpenSpec.upto elgamalAddsSpec)

/-- 'suffragelaw32.ElgamalNames', WHERE WHAT IT READS IS OF BULK AT MOST 1048576: true; the input reads as it did. -/
def elgamalNamesUptoRow : OpenClaim := { program := "ytffefhldfnfohaa", sum := "215d834084d6e2fc4cfc1f66b83a70ba945b86600a87991698c9cc980041b31a", func := "suffrage/suffragelaw32.ElgamalNames", spec := "elgamalNames", unfollowed := true, recurses := true, apart := false, narrowed := true }
def ElgamalNamesUptoSaid : Prop := elgamalNamesUptoRow.holds Try.pinned (OpenSpec.upto elgamalNamesSpec)

/-- 'suffragelaw32.ElgamalRefreshes', WHERE WHAT IT READS IS OF BULK AT MOST 1048576: true; the input reads as it did. -/
def elgamalRefreshesUptoRow : OpenClaim := { program := "ytffefhldfnfohaa", sum := "215d834084d6e2fc4cfc1f66b83a70ba945b86600a87991698c9cc980041b31a", func := "suffrage/suffragelaw32.ElgamalRefreshes", spec := "elgamalRefreshes", unfollowed := true, recurses := true, apart := false, narrowed := true }
def ElgamalRefreshesUptoSaid : Prop := elgamalRefreshesUptoRow.holds Try.pinned (OpenSpec.upto elgamalRefreshesSpec)

end Rows
end Go.Proofs.Ytffefhldfnfohaa
