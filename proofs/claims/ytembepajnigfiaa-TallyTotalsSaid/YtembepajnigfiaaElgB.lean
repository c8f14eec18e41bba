/- elgamal.Decrypt and Refresh. -/
import Derived.Test.YtembepajnigfiaaElgA
namespace Go.Proofs.Ytembepajnigfiaa
open Go.RowKit Num
set_option linter.unusedSimpArgs false
set_option linter.unusedVariables false

end Go.Proofs.Ytembepajnigfiaa
