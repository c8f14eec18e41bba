/- The reference's Power, Make, Plus. -/
import Derived.Test.YtembepajnigfiaaElgB
import Derived.Test.YtembepajnigfiaaRelZ
namespace Go.Proofs.Ytembepajnigfiaa
open Go.RowKit Num
set_option linter.unusedSimpArgs false
set_option linter.unusedVariables false

end Go.Proofs.Ytembepajnigfiaa
