/- The reference of chapter 30: Form, Check, IsPrime, Default, Log, FromDigest. -/
import Derived.Test.YtmcpfinnhgbcpaaDoorRefC
namespace Go.Proofs.YtmcpfinnhgbcpaaDoor
open Go.RowKit Num







end Go.Proofs.YtmcpfinnhgbcpaaDoor
