/- The reference of chapter 30: Form, Check, IsPrime, Default, Log, FromDigest. -/
import Derived.Test.YtjfaaicbojnpaaaRefC
namespace Go.Proofs.Ytjfaaicbojnpaaa
open Go.RowKit Num







end Go.Proofs.Ytjfaaicbojnpaaa
