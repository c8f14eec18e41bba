/- The reference of chapter 30, further: turned, under, asked, and the functions of the chapter. -/
import Derived.Test.YtmcpfinnhgbcpaaDoorRefA
namespace Go.Proofs.YtmcpfinnhgbcpaaDoor
open Go.RowKit Num



end Go.Proofs.YtmcpfinnhgbcpaaDoor
