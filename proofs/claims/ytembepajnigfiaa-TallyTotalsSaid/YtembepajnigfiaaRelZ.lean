/- The reference's Power. -/
import Derived.Test.YtembepajnigfiaaPairZ
import Derived.Test.YtembepajnigfiaaRefD
namespace Go.Proofs.Ytembepajnigfiaa
open Go.RowKit Num
set_option linter.unusedSimpArgs false
set_option linter.unusedVariables false

end Go.Proofs.Ytembepajnigfiaa
