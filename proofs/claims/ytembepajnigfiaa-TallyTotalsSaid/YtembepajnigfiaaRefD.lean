/- The reference of chapter 30: Form, Check, IsPrime, Default, Log, FromDigest. -/
import Derived.Test.YtembepajnigfiaaRefC
namespace Go.Proofs.Ytembepajnigfiaa
open Go.RowKit Num







end Go.Proofs.Ytembepajnigfiaa
