/- group.Member and group.Log. -/
import Derived.Test.YtembepajnigfiaaGrp
namespace Go.Proofs.Ytembepajnigfiaa
open Go.RowKit Num



end Go.Proofs.Ytembepajnigfiaa
