/- The reference of chapter 30: Form, Check, IsPrime, Default, Log, FromDigest. -/
import Derived.Test.YtanlnhjjdiaphaaRefC
namespace Go.Proofs.Ytanlnhjjdiaphaa
open Go.RowKit Num







end Go.Proofs.Ytanlnhjjdiaphaa
