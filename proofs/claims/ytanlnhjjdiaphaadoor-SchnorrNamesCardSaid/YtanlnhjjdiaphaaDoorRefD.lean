/- The reference of chapter 30: Form, Check, IsPrime, Default, Log, FromDigest. -/
import Derived.Test.YtanlnhjjdiaphaaDoorRefC
namespace Go.Proofs.YtanlnhjjdiaphaaDoor
open Go.RowKit Num







end Go.Proofs.YtanlnhjjdiaphaaDoor
