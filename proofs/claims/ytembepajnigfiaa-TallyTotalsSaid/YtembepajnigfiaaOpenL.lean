/- How slices among the arguments are opened: ciphertexts, numbers, bytes. -/
import Derived.Test.YtembepajnigfiaaOpenS
import Derived.Test.YtembepajnigfiaaListS
import Derived.Deep.SlicePairs
import Derived.ChangeSlices
namespace Go.Proofs.Ytembepajnigfiaa
open Go.ChangeShapes Go.WideShapes Go.ChangeAt Go.RowKit
set_option linter.unusedSimpArgs false
set_option linter.unusedVariables false
section
variable {H : Type} {enc : TypeId × Value → H} {w : World} {base : Nat} {held : Bool} {r : Reach} {b0 : Nat} {v : Value} {d : DataW H} {p : List MemPlace}
end
end Go.Proofs.Ytembepajnigfiaa
