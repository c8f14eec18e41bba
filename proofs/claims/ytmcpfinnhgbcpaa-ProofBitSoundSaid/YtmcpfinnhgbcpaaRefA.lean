/- The reference of chapter 30: Has, prime, Power, turned, under. -/
import Derived.Test.YtmcpfinnhgbcpaaFromD
namespace Go.Proofs.Ytmcpfinnhgbcpaa
open Go.RowKit Num




end Go.Proofs.Ytmcpfinnhgbcpaa
