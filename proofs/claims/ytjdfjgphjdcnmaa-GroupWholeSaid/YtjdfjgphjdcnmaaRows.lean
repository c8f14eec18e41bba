/-
  No cell of these rows narrows 'for every input' (looked for: loops, veiled, ifaces, maps, wideKeys, modest, calm, conditions, laid).
  DERIVED. THE GIVEN ROWS OF THIS SEAT. 11 by the template 'for every input the law returns true; each argument reads behind the call as it read before'; 0 by the template 'total and deterministic' (their statements: YtjdfjgphjdcnmaaTotals.lean).
  GIVEN WITH THE SEED: the statements are not yours to turn. If you find one false, say at which input.
  Laid BY PROGRAM, IN A SANDBOX (cutbox-rows.mjs): the forced cells as the released guide's own fill.sh prints them over the translation 1cf0eb221d8cb768… (all of the seat's roots in one cut). By AI agents, Wed Nov 11 2026. No macro, syntax, notation, axiom, sorry.
-/
import Derived.Test.YtjdfjgphjdcnmaaChecked
import GoSem.Claim
import GoSem.ClaimJoined
import GoSem.ClaimMapViews
import Derived.JoinedTies
import Derived.KernelRfl
namespace Go.Proofs.Ytjdfjgphjdcnmaa
/- THE CELL 'sum', in the pinned program and in every row, IS THE sha256 OF THE DUMP (.gsa) THAT YtjdfjgphjdcnmaaProg.lean LOADS. Nothing in Lean hashes anything: it is a label: what it is worth is what the hold of that sum in a sandbox is worth. -/
noncomputable def Try.pinned : Pinned := { name := "ytjdfjgphjdcnmaa", sum := "1cf0eb221d8cb768760ad621d16938276142a47795f08ec8771761fec0001c90", checked := Try.checked }
namespace Rows
def none {H : Type} : Left H := { results := [], args := [] }

/-- 'suffragelaw30.GroupForms': WHATEVER THE INPUT: true; the input reads as it did. -/
def groupFormsSpec : ChangeSpec := { name := "groupForms", fn := fun _ => fun
  | [d1, d2] => { results := [.lit (.bool true)], args := [d1, d2] }
  | _ => none }
def groupFormsRow : OpenClaim := { program := "ytjdfjgphjdcnmaa", sum := "1cf0eb221d8cb768760ad621d16938276142a47795f08ec8771761fec0001c90", func := "suffrage/suffragelaw30.GroupForms", spec := "groupForms", recurses := true, apart := false }
def GroupFormsSaid : Prop := groupFormsRow.holds Try.pinned (OpenSpec.ofChange groupFormsSpec)

/-- ITS FALSE NEIGHBOUR: 'it returns false'. Refute it at one input. -/
def groupFormsWrong : ChangeSpec := { name := "groupForms", fn := fun _ => fun
  | [d1, d2] => { results := [.lit (.bool false)], args := [d1, d2] }
  | _ => none }
def GroupFormsWrongFalsely : Prop := groupFormsRow.holds Try.pinned (OpenSpec.ofChange groupFormsWrong)

/-- 'suffragelaw30.GroupLogs': WHATEVER THE INPUT: true; the input reads as it did. -/
def groupLogsSpec : ChangeSpec := { name := "groupLogs", fn := fun _ => fun
  | [d1, d2, d3, d4] => { results := [.lit (.bool true)], args := [d1, d2, d3, d4] }
  | _ => none }
def groupLogsRow : OpenClaim := { program := "ytjdfjgphjdcnmaa", sum := "1cf0eb221d8cb768760ad621d16938276142a47795f08ec8771761fec0001c90", func := "suffrage/suffragelaw30.GroupLogs", spec := "groupLogs", unfollowed := true, recurses := true, apart := false }
def GroupLogsSaid : Prop := groupLogsRow.holds Try.pinned (OpenSpec.ofChange groupLogsSpec)

/-- ITS FALSE NEIGHBOUR: 'it returns false'. Refute it at one input. -/
def groupLogsWrong : ChangeSpec := { name := "groupLogs", fn := fun _ => fun
  | [d1, d2, d3, d4] => { results := [.lit (.bool false)], args := [d1, d2, d3, d4] }
  | _ => none }
def GroupLogsWrongFalsely : Prop := groupLogsRow.holds Try.pinned (OpenSpec.ofChange groupLogsWrong)

/-- 'suffragelaw30.GroupExponents': WHATEVER THE INPUT: true; the input reads as it did. -/
def groupExponentsSpec : ChangeSpec := { name := "groupExponents", fn := fun _ => fun
  | [d1, d2, d3] => { results := [.lit (.bool true)], args := [d1, d2, d3] }
  | _ => none }
def groupExponentsRow : OpenClaim := { program := "ytjdfjgphjdcnmaa", sum := "1cf0eb221d8cb768760ad621d16938276142a47795f08ec8771761fec0001c90", func := "suffrage/suffragelaw30.GroupExponents", spec := "groupExponents", unfollowed := true, recurses := true, apart := false }
def GroupExponentsSaid : Prop := groupExponentsRow.holds Try.pinned (OpenSpec.ofChange groupExponentsSpec)

/-- ITS FALSE NEIGHBOUR: 'it returns false'. Refute it at one input. -/
def groupExponentsWrong : ChangeSpec := { name := "groupExponents", fn := fun _ => fun
  | [d1, d2, d3] => { results := [.lit (.bool false)], args := [d1, d2, d3] }
  | _ => none }
def GroupExponentsWrongFalsely : Prop := groupExponentsRow.holds Try.pinned (OpenSpec.ofChange groupExponentsWrong)

/-- 'suffragelaw30.GroupPowers': WHATEVER THE INPUT: true; the input reads as it did. -/
def groupPowersSpec : ChangeSpec := { name := "groupPowers", fn := fun _ => fun
  | [d1, d2, d3, d4] => { results := [.lit (.bool true)], args := [d1, d2, d3, d4] }
  | _ => none }
def groupPowersRow : OpenClaim := { program := "ytjdfjgphjdcnmaa", sum := "1cf0eb221d8cb768760ad621d16938276142a47795f08ec8771761fec0001c90", func := "suffrage/suffragelaw30.GroupPowers", spec := "groupPowers", unfollowed := true, recurses := true, apart := false }
def GroupPowersSaid : Prop := groupPowersRow.holds Try.pinned (OpenSpec.ofChange groupPowersSpec)

/-- ITS FALSE NEIGHBOUR: 'it returns false'. Refute it at one input. -/
def groupPowersWrong : ChangeSpec := { name := "groupPowers", fn := fun _ => fun
  | [d1, d2, d3, d4] => { results := [.lit (.bool false)], args := [d1, d2, d3, d4] }
  | _ => none }
def GroupPowersWrongFalsely : Prop := groupPowersRow.holds Try.pinned (OpenSpec.ofChange groupPowersWrong)

/-- 'suffragelaw30.GroupPeriod': WHATEVER THE INPUT: true; the input reads as it did. -/
def groupPeriodSpec : ChangeSpec := { name := "groupPeriod", fn := fun _ => fun
  | [d1, d2, d3] => { results := [.lit (.bool true)], args := [d1, d2, d3] }
  | _ => none }
def groupPeriodRow : OpenClaim := { program := "ytjdfjgphjdcnmaa", sum := "1cf0eb221d8cb768760ad621d16938276142a47795f08ec8771761fec0001c90", func := "suffrage/suffragelaw30.GroupPeriod", spec := "groupPeriod", unfollowed := true, recurses := true, apart := false }
def GroupPeriodSaid : Prop := groupPeriodRow.holds Try.pinned (OpenSpec.ofChange groupPeriodSpec)

/-- ITS FALSE NEIGHBOUR: 'it returns false'. Refute it at one input. -/
def groupPeriodWrong : ChangeSpec := { name := "groupPeriod", fn := fun _ => fun
  | [d1, d2, d3] => { results := [.lit (.bool false)], args := [d1, d2, d3] }
  | _ => none }
def GroupPeriodWrongFalsely : Prop := groupPeriodRow.holds Try.pinned (OpenSpec.ofChange groupPeriodWrong)

/-- 'suffragelaw30.GroupWhole': WHATEVER THE INPUT: true; the input reads as it did. -/
def groupWholeSpec : ChangeSpec := { name := "groupWhole", fn := fun _ => fun
  | [d] => { results := [.lit (.bool true)], args := [d] }
  | _ => none }
def groupWholeRow : OpenClaim := { program := "ytjdfjgphjdcnmaa", sum := "1cf0eb221d8cb768760ad621d16938276142a47795f08ec8771761fec0001c90", func := "suffrage/suffragelaw30.GroupWhole", spec := "groupWhole", unfollowed := true, recurses := true, apart := false }
def GroupWholeSaid : Prop := groupWholeRow.holds Try.pinned (OpenSpec.ofChange groupWholeSpec)

/-- ITS FALSE NEIGHBOUR: 'it returns false'. Refute it at one input. -/
def groupWholeWrong : ChangeSpec := { name := "groupWhole", fn := fun _ => fun
  | [d] => { results := [.lit (.bool false)], args := [d] }
  | _ => none }
def GroupWholeWrongFalsely : Prop := groupWholeRow.holds Try.pinned (OpenSpec.ofChange groupWholeWrong)

/-- 'suffragelaw30.GroupMembers': WHATEVER THE INPUT: true; the input reads as it did. -/
def groupMembersSpec : ChangeSpec := { name := "groupMembers", fn := fun _ => fun
  | [d1, d2, d3, d4] => { results := [.lit (.bool true)], args := [d1, d2, d3, d4] }
  | _ => none }
def groupMembersRow : OpenClaim := { program := "ytjdfjgphjdcnmaa", sum := "1cf0eb221d8cb768760ad621d16938276142a47795f08ec8771761fec0001c90", func := "suffrage/suffragelaw30.GroupMembers", spec := "groupMembers", unfollowed := true, recurses := true, apart := false }
def GroupMembersSaid : Prop := groupMembersRow.holds Try.pinned (OpenSpec.ofChange groupMembersSpec)

/-- ITS FALSE NEIGHBOUR: 'it returns false'. Refute it at one input. -/
def groupMembersWrong : ChangeSpec := { name := "groupMembers", fn := fun _ => fun
  | [d1, d2, d3, d4] => { results := [.lit (.bool false)], args := [d1, d2, d3, d4] }
  | _ => none }
def GroupMembersWrongFalsely : Prop := groupMembersRow.holds Try.pinned (OpenSpec.ofChange groupMembersWrong)

/-- 'suffragelaw30.GroupInverses': WHATEVER THE INPUT: true; the input reads as it did. -/
def groupInversesSpec : ChangeSpec := { name := "groupInverses", fn := fun _ => fun
  | [d1, d2, d3] => { results := [.lit (.bool true)], args := [d1, d2, d3] }
  | _ => none }
def groupInversesRow : OpenClaim := { program := "ytjdfjgphjdcnmaa", sum := "1cf0eb221d8cb768760ad621d16938276142a47795f08ec8771761fec0001c90", func := "suffrage/suffragelaw30.GroupInverses", spec := "groupInverses", unfollowed := true, recurses := true, apart := false }
def GroupInversesSaid : Prop := groupInversesRow.holds Try.pinned (OpenSpec.ofChange groupInversesSpec)

/-- ITS FALSE NEIGHBOUR: 'it returns false'. Refute it at one input. -/
def groupInversesWrong : ChangeSpec := { name := "groupInverses", fn := fun _ => fun
  | [d1, d2, d3] => { results := [.lit (.bool false)], args := [d1, d2, d3] }
  | _ => none }
def GroupInversesWrongFalsely : Prop := groupInversesRow.holds Try.pinned (OpenSpec.ofChange groupInversesWrong)

/-- 'suffragelaw30.GroupFinds': WHATEVER THE INPUT: true; the input reads as it did. -/
def groupFindsSpec : ChangeSpec := { name := "groupFinds", fn := fun _ => fun
  | [d1, d2, d3] => { results := [.lit (.bool true)], args := [d1, d2, d3] }
  | _ => none }
def groupFindsRow : OpenClaim := { program := "ytjdfjgphjdcnmaa", sum := "1cf0eb221d8cb768760ad621d16938276142a47795f08ec8771761fec0001c90", func := "suffrage/suffragelaw30.GroupFinds", spec := "groupFinds", unfollowed := true, recurses := true, apart := false }
def GroupFindsSaid : Prop := groupFindsRow.holds Try.pinned (OpenSpec.ofChange groupFindsSpec)

/-- ITS FALSE NEIGHBOUR: 'it returns false'. Refute it at one input. -/
def groupFindsWrong : ChangeSpec := { name := "groupFinds", fn := fun _ => fun
  | [d1, d2, d3] => { results := [.lit (.bool false)], args := [d1, d2, d3] }
  | _ => none }
def GroupFindsWrongFalsely : Prop := groupFindsRow.holds Try.pinned (OpenSpec.ofChange groupFindsWrong)

/-- 'suffragelaw30.GroupSums': WHATEVER THE INPUT: true; the input reads as it did. -/
def groupSumsSpec : ChangeSpec := { name := "groupSums", fn := fun _ => fun
  | [d1, d2, d3, d4] => { results := [.lit (.bool true)], args := [d1, d2, d3, d4] }
  | _ => none }
def groupSumsRow : OpenClaim := { program := "ytjdfjgphjdcnmaa", sum := "1cf0eb221d8cb768760ad621d16938276142a47795f08ec8771761fec0001c90", func := "suffrage/suffragelaw30.GroupSums", spec := "groupSums", unfollowed := true, recurses := true, apart := false }
def GroupSumsSaid : Prop := groupSumsRow.holds Try.pinned (OpenSpec.ofChange groupSumsSpec)

/-- ITS FALSE NEIGHBOUR: 'it returns false'. Refute it at one input. -/
def groupSumsWrong : ChangeSpec := { name := "groupSums", fn := fun _ => fun
  | [d1, d2, d3, d4] => { results := [.lit (.bool false)], args := [d1, d2, d3, d4] }
  | _ => none }
def GroupSumsWrongFalsely : Prop := groupSumsRow.holds Try.pinned (OpenSpec.ofChange groupSumsWrong)

/-- 'suffragelaw30.GroupNames': WHATEVER THE INPUT: true; the input reads as it did. -/
def groupNamesSpec : ChangeSpec := { name := "groupNames", fn := fun _ => fun
  | [] => { results := [.lit (.bool true)], args := [] }
  | _ => none }
def groupNamesRow : OpenClaim := { program := "ytjdfjgphjdcnmaa", sum := "1cf0eb221d8cb768760ad621d16938276142a47795f08ec8771761fec0001c90", func := "suffrage/suffragelaw30.GroupNames", spec := "groupNames", unfollowed := true, recurses := true, apart := false }
def GroupNamesSaid : Prop := groupNamesRow.holds Try.pinned (OpenSpec.ofChange groupNamesSpec)

/-- ITS FALSE NEIGHBOUR: 'it returns false'. Refute it at one input. -/
def groupNamesWrong : ChangeSpec := { name := "groupNames", fn := fun _ => fun
  | [] => { results := [.lit (.bool false)], args := [] }
  | _ => none }
def GroupNamesWrongFalsely : Prop := groupNamesRow.holds Try.pinned (OpenSpec.ofChange groupNamesWrong)

/- THE SECOND FORM. 'bulk': how many values and letters a reading holds, each counted each time it is reached (what is shared counts as often as it is met; a slice's spare places count too). A statement '..UptoSaid' is the law's where the arguments, and the package variables that the reading takes, are together of bulk at most 1048576: NARROWER than '..Said'. Prove '..Said' where nothing that the law and all that it calls make is longer than what came in: it says more and counts as full. Else prove '..UptoSaid'. A law counts once. -/
mutual
def uptoBulk {H : Type} : DataW H → Nat
  | .lit (.string bytes) => bytes.length + 1
  | .lit _ => 1
  | .nil => 1
  | .ptr d => uptoBulk d + 1
  | .slice elems spare => uptoBulkAll elems + uptoBulkAll spare + 1
  | .agg parts => uptoBulkAll parts + 1
  | .iface _ d => uptoBulk d + 1
  | .map entries => uptoBulkEntries entries + 1
  | .held _ => 1
def uptoBulkAll {H : Type} : List (DataW H) → Nat
  | [] => 0
  | d :: r => uptoBulk d + uptoBulkAll r
def uptoBulkEntries {H : Type} : List (Lit × DataW H) → Nat
  | [] => 0
  | x :: r => uptoBulkEntry x + uptoBulkEntries r
def uptoBulkEntry {H : Type} : Lit × DataW H → Nat
  | (.string bytes, d) => bytes.length + uptoBulk d + 1
  | (_, d) => uptoBulk d + 1
 end
def uptoSmall : (H : Type) → List (DataW H) → Bool := fun _ ds => decide (uptoBulkAll ds ≤ 1048576)
def OpenSpec.upto (s : _root_.Go.ChangeSpec) : _root_.Go.OpenSpec := { _root_.Go.OpenSpec.ofChange s with cond := some uptoSmall }

/-- 'suffragelaw30.GroupForms', WHERE WHAT IT READS IS OF BULK AT MOST 1048576: true; the input reads as it did. -/
def groupFormsUptoRow : OpenClaim := { program := "ytjdfjgphjdcnmaa", sum := "1cf0eb221d8cb768760ad621d16938276142a47795f08ec8771761fec0001c90", func := "suffrage/suffragelaw30.GroupForms", spec := "groupForms", recurses := true, apart := false, narrowed := true }
def GroupFormsUptoSaid : Prop := groupFormsUptoRow.holds Try.pinned (OpenSpec.upto groupFormsSpec)

/-- 'suffragelaw30.GroupLogs', WHERE WHAT IT READS IS OF BULK AT MOST 1048576: true; the input reads as it did. -/
def groupLogsUptoRow : OpenClaim := { program := "ytjdfjgphjdcnmaa", sum := "1cf0eb221d8cb768760ad621d16938276142a47795f08ec8771761fec0001c90", func := "suffrage/suffragelaw30.GroupLogs", spec := "groupLogs", unfollowed := true, recurses := true, apart := false, narrowed := true }
def GroupLogsUptoSaid : Prop := groupLogsUptoRow.holds Try.pinned (OpenSpec.upto groupLogsSpec)

/-- 'suffragelaw30.GroupExponents', WHERE WHAT IT READS IS OF BULK AT MOST 1048576: true; the input reads as it did. -/
def groupExponentsUptoRow : OpenClaim := { program := "ytjdfjgphjdcnmaa", sum := "1cf0eb221d8cb768760ad621d16938276142a47795f08ec8771761fec0001c90", func := "suffrage/suffragelaw30.GroupExponents", spec := "groupExponents", unfollowed := true, recurses := true, apart := false, narrowed := true }
def GroupExponentsUptoSaid : Prop := groupExponentsUptoRow.holds Try.pinned (OpenSpec.upto groupExponentsSpec)

/-- 'suffragelaw30.GroupPowers', WHERE WHAT IT READS IS OF BULK AT MOST 1048576: true; the input reads as it did. -/
def groupPowersUptoRow : OpenClaim := { program := "ytjdfjgphjdcnmaa", sum := "1cf0eb221d8cb768760ad621d16938276142a47795f08ec8771761fec0001c90", func := "suffrage/suffragelaw30.GroupPowers", spec := "groupPowers", unfollowed := true, recurses := true, apart := false, narrowed := true }
def GroupPowersUptoSaid : Prop := groupPowersUptoRow.holds Try.pinned (OpenSpec.upto groupPowersSpec)

/-- 'suffragelaw30.GroupPeriod', WHERE WHAT IT READS IS OF BULK AT MOST 1048576: true; the input reads as it did. -/
def groupPeriodUptoRow : OpenClaim := { program := "ytjdfjgphjdcnmaa", sum := "1cf0eb221d8cb768760ad621d16938276142a47795f08ec8771761fec0001c90", func := "suffrage/suffragelaw30.GroupPeriod", spec := "groupPeriod", unfollowed := true, recurses := true, apart := false, narrowed := true }
def GroupPeriodUptoSaid : Prop := groupPeriodUptoRow.holds Try.pinned (OpenSpec.upto groupPeriodSpec)

/-- 'suffragelaw30.GroupWhole', WHERE WHAT IT READS IS OF BULK AT MOST 1048576: true; the input reads as it did. -/
def groupWholeUptoRow : OpenClaim := { program := "ytjdfjgphjdcnmaa", sum := "1cf0eb221d8cb768760ad621d16938276142a47795f08ec8771761fec0001c90", func := "suffrage/suffragelaw30.GroupWhole", spec := "groupWhole", unfollowed := true, recurses := true, apart := false, narrowed := true }
def GroupWholeUptoSaid : Prop := groupWholeUptoRow.holds Try.pinned (OpenSpec.upto groupWholeSpec)

/-- 'suffragelaw30.GroupMembers', WHERE WHAT IT READS IS OF BULK AT MOST 1048576: true; the input reads as it did. -/
def groupMembersUptoRow : OpenClaim := { program := "ytjdfjgphjdcnmaa", sum := "1cf0eb221d8cb768760ad621d16938276142a47795f08ec8771761fec0001c90", func := "suffrage/suffragelaw30.GroupMembers", spec := "groupMembers", unfollowed := true, recurses := true, apart := false, narrowed := true }
def GroupMembersUptoSaid : Prop := groupMembersUptoRow.holds Try.pinned (OpenSpec.upto groupMembersSpec)

/-- 'suffragelaw30.GroupInverses', WHERE WHAT IT READS IS OF BULK AT MOST 1048576: true; the input reads as it did. -/
def groupInversesUptoRow : OpenClaim := { program := "ytjdfjgphjdcnmaa", sum := "1cf0eb221d8cb768760ad621d16938276142a47795f08ec8771761fec0001c90", func := "suffrage/suffragelaw30.GroupInverses", spec := "groupInverses", unfollowed := true, recurses := true, apart := false, narrowed := true }
def GroupInversesUptoSaid : Prop := groupInversesUptoRow.holds Try.pinned (OpenSpec.upto groupInversesSpec)

/-- 'suffragelaw30.GroupFinds', WHERE WHAT IT READS IS OF BULK AT MOST 1048576: true; the input reads as it did. -/
def groupFindsUptoRow : OpenClaim := { program := "ytjdfjgphjdcnmaa", sum := "1cf0eb221d8cb768760ad621d16938276142a47795f08ec8771761fec0001c90", func := "suffrage/suffragelaw30.GroupFinds", spec := "groupFinds", unfollowed := true, recurses := true, apart := false, narrowed := true }
def GroupFindsUptoSaid : Prop := groupFindsUptoRow.holds Try.pinned (OpenSpec.upto groupFindsSpec)

/-- 'suffragelaw30.GroupSums', WHERE WHAT IT READS IS OF BULK AT MOST 1048576: true; the input reads as it did. -/
def groupSumsUptoRow : OpenClaim := { program := "ytjdfjgphjdcnmaa", sum := "1cf0eb221d8cb768760ad621d16938276142a47795f08ec8771761fec0001c90", func := "suffrage/suffragelaw30.GroupSums", spec := "groupSums", unfollowed := true, recurses := true, apart := false, narrowed := true }
def GroupSumsUptoSaid : Prop := groupSumsUptoRow.holds Try.pinned (OpenSpec.upto groupSumsSpec)

/-- 'suffragelaw30.GroupNames', WHERE WHAT IT READS IS OF BULK AT MOST 1048576: true; the input reads as it did. -/
def groupNamesUptoRow : OpenClaim := { program := "ytjdfjgphjdcnmaa", sum := "1cf0eb221d8cb768760ad621d16938276142a47795f08ec8771761fec0001c90", func := "suffrage/suffragelaw30.GroupNames", spec := "groupNames", unfollowed := true, recurses := true, apart := false, narrowed := true }
def GroupNamesUptoSaid : Prop := groupNamesUptoRow.holds Try.pinned (OpenSpec.upto groupNamesSpec)

end Rows
end Go.Proofs.Ytjdfjgphjdcnmaa
