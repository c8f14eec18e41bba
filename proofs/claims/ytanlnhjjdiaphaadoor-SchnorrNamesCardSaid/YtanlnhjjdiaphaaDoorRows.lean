/-
  NARROWER THAN 'FOR EVERY INPUT', by the rows' own cells (each row's printed sentence says how): SchnorrSignatures: laid · SchnorrUnique: laid · SchnorrNames: laid · SchnorrAccepts: laid.
  DERIVED. THE GIVEN ROWS OF THIS SEAT. 4 by the template 'for every input the law returns true; each argument reads behind the call as it read before'; 0 by the template 'total and deterministic' (their statements: YtanlnhjjdiaphaaDoorTotals.lean).
  GIVEN WITH THE SEED: the statements are not yours to turn. If you find one false, say at which input.
  Laid BY PROGRAM, IN A SANDBOX (cutbox-rows.mjs): the forced cells as the released guide's own fill.sh prints them over the translation f7b6587c7b643a07… (all of the seat's roots in one cut). By AI agents, Wed Nov 11 2026. No macro, syntax, notation, axiom, sorry.
-/
import Derived.Test.YtanlnhjjdiaphaaDoorChecked
import GoSem.Claim
import GoSem.ClaimJoined
import GoSem.ClaimMapViews
import Derived.JoinedTies
import Derived.KernelRfl
namespace Go.Proofs.YtanlnhjjdiaphaaDoor
/- THE CELL 'sum', in the pinned program and in every row, IS THE sha256 OF THE DUMP (.gsa) THAT YtanlnhjjdiaphaaDoorProg.lean LOADS. Nothing in Lean hashes anything: it is a label: what it is worth is what the hold of that sum in a sandbox is worth. -/
noncomputable def Tryd.pinned : Pinned := { name := "ytanlnhjjdiaphaadoor", sum := "f7b6587c7b643a074e8bcb67ea26fd370fdf6b49055304da5a517a474ea67712", checked := Tryd.checked }
namespace Rows
def none {H : Type} : Left H := { results := [], args := [] }

/- WHAT THE LISTED PACKAGE-LEVEL VARIABLES READ AS WHEN THE CALL BEGINS. Each datum BY PROGRAM (the guide's laid-datum.mjs) off the statement by which the dump's own 'gosem.cut.vars' lays the variable. In a bare row this is a premise. The card (YtanlnhjjdiaphaaDoorCards.lean) ties it to the program's text. -/
def laid_suffrage_digest_k {H : Type} : DataW H := .agg [.lit (.int .u32 1116352408), .lit (.int .u32 1899447441), .lit (.int .u32 3049323471), .lit (.int .u32 3921009573), .lit (.int .u32 961987163), .lit (.int .u32 1508970993), .lit (.int .u32 2453635748), .lit (.int .u32 2870763221), .lit (.int .u32 3624381080), .lit (.int .u32 310598401), .lit (.int .u32 607225278), .lit (.int .u32 1426881987), .lit (.int .u32 1925078388), .lit (.int .u32 2162078206), .lit (.int .u32 2614888103), .lit (.int .u32 3248222580), .lit (.int .u32 3835390401), .lit (.int .u32 4022224774), .lit (.int .u32 264347078), .lit (.int .u32 604807628), .lit (.int .u32 770255983), .lit (.int .u32 1249150122), .lit (.int .u32 1555081692), .lit (.int .u32 1996064986), .lit (.int .u32 2554220882), .lit (.int .u32 2821834349), .lit (.int .u32 2952996808), .lit (.int .u32 3210313671), .lit (.int .u32 3336571891), .lit (.int .u32 3584528711), .lit (.int .u32 113926993), .lit (.int .u32 338241895), .lit (.int .u32 666307205), .lit (.int .u32 773529912), .lit (.int .u32 1294757372), .lit (.int .u32 1396182291), .lit (.int .u32 1695183700), .lit (.int .u32 1986661051), .lit (.int .u32 2177026350), .lit (.int .u32 2456956037), .lit (.int .u32 2730485921), .lit (.int .u32 2820302411), .lit (.int .u32 3259730800), .lit (.int .u32 3345764771), .lit (.int .u32 3516065817), .lit (.int .u32 3600352804), .lit (.int .u32 4094571909), .lit (.int .u32 275423344), .lit (.int .u32 430227734), .lit (.int .u32 506948616), .lit (.int .u32 659060556), .lit (.int .u32 883997877), .lit (.int .u32 958139571), .lit (.int .u32 1322822218), .lit (.int .u32 1537002063), .lit (.int .u32 1747873779), .lit (.int .u32 1955562222), .lit (.int .u32 2024104815), .lit (.int .u32 2227730452), .lit (.int .u32 2361852424), .lit (.int .u32 2428436474), .lit (.int .u32 2756734187), .lit (.int .u32 3204031479), .lit (.int .u32 3329325298)]
def laid_suffrage_digest_first {H : Type} : DataW H := .agg [.lit (.int .u32 1779033703), .lit (.int .u32 3144134277), .lit (.int .u32 1013904242), .lit (.int .u32 2773480762), .lit (.int .u32 1359893119), .lit (.int .u32 2600822924), .lit (.int .u32 528734635), .lit (.int .u32 1541459225)]

/-- 'suffragelaw31.SchnorrSignatures': WHATEVER THE INPUT: true; the input reads as it did. -/
def schnorrSignaturesSpec : ChangeSpec := { name := "schnorrSignatures", fn := fun _ => fun
  | [d1, d2, d3, d4, d5, d6] => { results := [.lit (.bool true)], args := [d1, d2, d3, d4, d5, d6] }
  | _ => none }
def schnorrSignaturesRow : OpenClaim := { program := "ytanlnhjjdiaphaadoor", sum := "f7b6587c7b643a074e8bcb67ea26fd370fdf6b49055304da5a517a474ea67712", func := "suffrage/suffragelaw31.SchnorrSignatures", spec := "schnorrSignatures", unfollowed := true, recurses := true, named := ["suffrage/digest.first", "suffrage/digest.k"], apart := false, laid := [("suffrage/digest.k", laid_suffrage_digest_k), ("suffrage/digest.first", laid_suffrage_digest_first)] }
def SchnorrSignaturesSaid : Prop := schnorrSignaturesRow.holds Tryd.pinned (OpenSpec.ofChange schnorrSignaturesSpec)

/-- ITS FALSE NEIGHBOUR: 'it returns false'. Refute it at one input. -/
def schnorrSignaturesWrong : ChangeSpec := { name := "schnorrSignatures", fn := fun _ => fun
  | [d1, d2, d3, d4, d5, d6] => { results := [.lit (.bool false)], args := [d1, d2, d3, d4, d5, d6] }
  | _ => none }
def SchnorrSignaturesWrongFalsely : Prop := schnorrSignaturesRow.holds Tryd.pinned (OpenSpec.ofChange schnorrSignaturesWrong)

/-- 'suffragelaw31.SchnorrUnique': WHATEVER THE INPUT: true; the input reads as it did. -/
def schnorrUniqueSpec : ChangeSpec := { name := "schnorrUnique", fn := fun _ => fun
  | [d1, d2, d3, d4, d5] => { results := [.lit (.bool true)], args := [d1, d2, d3, d4, d5] }
  | _ => none }
def schnorrUniqueRow : OpenClaim := { program := "ytanlnhjjdiaphaadoor", sum := "f7b6587c7b643a074e8bcb67ea26fd370fdf6b49055304da5a517a474ea67712", func := "suffrage/suffragelaw31.SchnorrUnique", spec := "schnorrUnique", unfollowed := true, recurses := true, named := ["suffrage/digest.first", "suffrage/digest.k"], apart := false, laid := [("suffrage/digest.k", laid_suffrage_digest_k), ("suffrage/digest.first", laid_suffrage_digest_first)] }
def SchnorrUniqueSaid : Prop := schnorrUniqueRow.holds Tryd.pinned (OpenSpec.ofChange schnorrUniqueSpec)

/-- ITS FALSE NEIGHBOUR: 'it returns false'. Refute it at one input. -/
def schnorrUniqueWrong : ChangeSpec := { name := "schnorrUnique", fn := fun _ => fun
  | [d1, d2, d3, d4, d5] => { results := [.lit (.bool false)], args := [d1, d2, d3, d4, d5] }
  | _ => none }
def SchnorrUniqueWrongFalsely : Prop := schnorrUniqueRow.holds Tryd.pinned (OpenSpec.ofChange schnorrUniqueWrong)

/-- 'suffragelaw31.SchnorrNames': WHATEVER THE INPUT: true; the input reads as it did. -/
def schnorrNamesSpec : ChangeSpec := { name := "schnorrNames", fn := fun _ => fun
  | [] => { results := [.lit (.bool true)], args := [] }
  | _ => none }
def schnorrNamesRow : OpenClaim := { program := "ytanlnhjjdiaphaadoor", sum := "f7b6587c7b643a074e8bcb67ea26fd370fdf6b49055304da5a517a474ea67712", func := "suffrage/suffragelaw31.SchnorrNames", spec := "schnorrNames", unfollowed := true, recurses := true, named := ["suffrage/digest.first", "suffrage/digest.k"], apart := false, laid := [("suffrage/digest.k", laid_suffrage_digest_k), ("suffrage/digest.first", laid_suffrage_digest_first)] }
def SchnorrNamesSaid : Prop := schnorrNamesRow.holds Tryd.pinned (OpenSpec.ofChange schnorrNamesSpec)

/-- ITS FALSE NEIGHBOUR: 'it returns false'. Refute it at one input. -/
def schnorrNamesWrong : ChangeSpec := { name := "schnorrNames", fn := fun _ => fun
  | [] => { results := [.lit (.bool false)], args := [] }
  | _ => none }
def SchnorrNamesWrongFalsely : Prop := schnorrNamesRow.holds Tryd.pinned (OpenSpec.ofChange schnorrNamesWrong)

/-- 'suffragelaw31.SchnorrAccepts': WHATEVER THE INPUT: true; the input reads as it did. -/
def schnorrAcceptsSpec : ChangeSpec := { name := "schnorrAccepts", fn := fun _ => fun
  | [d1, d2, d3] => { results := [.lit (.bool true)], args := [d1, d2, d3] }
  | _ => none }
def schnorrAcceptsRow : OpenClaim := { program := "ytanlnhjjdiaphaadoor", sum := "f7b6587c7b643a074e8bcb67ea26fd370fdf6b49055304da5a517a474ea67712", func := "suffrage/suffragelaw31.SchnorrAccepts", spec := "schnorrAccepts", unfollowed := true, recurses := true, named := ["suffrage/digest.first", "suffrage/digest.k"], apart := false, laid := [("suffrage/digest.k", laid_suffrage_digest_k), ("suffrage/digest.first", laid_suffrage_digest_first)] }
def SchnorrAcceptsSaid : Prop := schnorrAcceptsRow.holds Tryd.pinned (OpenSpec.ofChange schnorrAcceptsSpec)

/-- ITS FALSE NEIGHBOUR: 'it returns false'. Refute it at one input. -/
def schnorrAcceptsWrong : ChangeSpec := { name := "schnorrAccepts", fn := fun _ => fun
  | [d1, d2, d3] => { results := [.lit (.bool false)], args := [d1, d2, d3] }
  | _ => none }
def SchnorrAcceptsWrongFalsely : Prop := schnorrAcceptsRow.holds Tryd.pinned (OpenSpec.ofChange schnorrAcceptsWrong)

/- THE SECOND FORM. 'bulk': how many values and letters a reading holds, each counted each time it is reached (what is shared counts as often as it is met; a slice's spare places count too). A statement '..UptoSaid' is the law's where the arguments, and the package variables that the reading takes, are together of bulk at most 1048576: NARROWER than '..Said'. Prove '..Said' where nothing that the law and all that it calls make is longer than what came in: it says more and counts as full. Else prove '..UptoSaid'. A law counts once. -/
mutual
def uptoBulk {H : Type} : DataW H → Nat
  | .lit (.string bytes) => bytes.length + 1
  | .lit _ => 1
  | .nil => 1
  | .ptr d => uptoBulk d + 1
  | .slice elems spare => uptoBulkAll elems + uptoBulkAll spare + 1
  | .agg parts => uptoBulkAll parts + 1
  | .iface _ d => uptoBulk d + 1
  | .map entries => uptoBulkEntries entries + 1
  | .held _ => 1
def uptoBulkAll {H : Type} : List (DataW H) → Nat
  | [] => 0
  | d :: r => uptoBulk d + uptoBulkAll r
def uptoBulkEntries {H : Type} : List (Lit × DataW H) → Nat
  | [] => 0
  | x :: r => uptoBulkEntry x + uptoBulkEntries r
def uptoBulkEntry {H : Type} : Lit × DataW H → Nat
  | (.string bytes, d) => bytes.length + uptoBulk d + 1
  | (_, d) => uptoBulk d + 1
 end
def uptoSmall : (H : Type) → List (DataW H) → Bool := fun _ ds => decide (uptoBulkAll ds ≤ 1048576)
def OpenSpec.upto (s : _root_.Go.ChangeSpec) : _root_.Go.OpenSpec := { _root_.Go.OpenSpec.ofChange s with cond := some uptoSmall }

/-- 'suffragelaw31.SchnorrSignatures', WHERE WHAT IT READS IS OF BULK AT MOST 1048576: true; the input reads as it did. -/
def schnorrSignaturesUptoRow : OpenClaim := { program := "ytanlnhjjdiaphaadoor", sum := "f7b6587c7b643a074e8bcb67ea26fd370fdf6b49055304da5a517a474ea67712", func := "suffrage/suffragelaw31.SchnorrSignatures", spec := "schnorrSignatures", unfollowed := true, recurses := true, named := ["suffrage/digest.first", "suffrage/digest.k"], apart := false, laid := [("suffrage/digest.k", laid_suffrage_digest_k), ("suffrage/digest.first", laid_suffrage_digest_first)], narrowed := true }
def SchnorrSignaturesUptoSaid : Prop := schnorrSignaturesUptoRow.holds Tryd.pinned (OpenSpec.upto schnorrSignaturesSpec)

/-- 'suffragelaw31.SchnorrUnique', WHERE WHAT IT READS IS OF BULK AT MOST 1048576: true; the input reads as it did. -/
def schnorrUniqueUptoRow : OpenClaim := { program := "ytanlnhjjdiaphaadoor", sum := "f7b6587c7b643a074e8bcb67ea26fd370fdf6b49055304da5a517a474ea67712", func := "suffrage/suffragelaw31.SchnorrUnique", spec := "schnorrUnique", unfollowed := true, recurses := true, named := ["suffrage/digest.first", "suffrage/digest.k"], apart := false, laid := [("suffrage/digest.k", laid_suffrage_digest_k), ("suffrage/digest.first", laid_suffrage_digest_first)], narrowed := true }
def SchnorrUniqueUptoSaid : Prop := schnorrUniqueUptoRow.holds Tryd.pinned (OpenSpec.upto schnorrUniqueSpec)

/-- 'suffragelaw31.SchnorrNames', WHERE WHAT IT READS IS OF BULK AT MOST 1048576: true; the input reads as it did. -/
def schnorrNamesUptoRow : OpenClaim := { program := "ytanlnhjjdiaphaadoor", sum := "f7b6587c7b643a074e8bcb67ea26fd370fdf6b49055304da5a517a474ea67712", func := "suffrage/suffragelaw31.SchnorrNames", spec := "schnorrNames", unfollowed := true, recurses := true, named := ["suffrage/digest.first", "suffrage/digest.k"], apart := false, laid := [("suffrage/digest.k", laid_suffrage_digest_k), ("suffrage/digest.first", laid_suffrage_digest_first)], narrowed := true }
def SchnorrNamesUptoSaid : Prop := schnorrNamesUptoRow.holds Tryd.pinned (OpenSpec.upto schnorrNamesSpec)

/-- 'suffragelaw31.SchnorrAccepts', WHERE WHAT IT READS IS OF BULK AT MOST 1048576: true; the input reads as it did. -/
def schnorrAcceptsUptoRow : OpenClaim := { program := "ytanlnhjjdiaphaadoor", sum := "f7b6587c7b643a074e8bcb67ea26fd370fdf6b49055304da5a517a474ea67712", func := "suffrage/suffragelaw31.SchnorrAccepts", spec := "schnorrAccepts", unfollowed := true, recurses := true, named := ["suffrage/digest.first", "suffrage/digest.k"], apart := false, laid := [("suffrage/digest.k", laid_suffrage_digest_k), ("suffrage/digest.first", laid_suffrage_digest_first)], narrowed := true }
def SchnorrAcceptsUptoSaid : Prop := schnorrAcceptsUptoRow.holds Tryd.pinned (OpenSpec.upto schnorrAcceptsSpec)

end Rows
end Go.Proofs.YtanlnhjjdiaphaaDoor
