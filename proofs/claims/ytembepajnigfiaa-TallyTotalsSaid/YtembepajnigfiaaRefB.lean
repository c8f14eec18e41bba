/- The reference of chapter 30, further: turned, under, asked, and the functions of the chapter. -/
import Derived.Test.YtembepajnigfiaaRefA
namespace Go.Proofs.Ytembepajnigfiaa
open Go.RowKit Num



end Go.Proofs.Ytembepajnigfiaa
