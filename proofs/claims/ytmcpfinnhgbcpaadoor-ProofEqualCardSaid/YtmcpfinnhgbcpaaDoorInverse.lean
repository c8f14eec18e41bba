/- group.inverse: the inverse modulo m by Euclid's algorithm. -/
import Derived.Test.YtmcpfinnhgbcpaaDoorArith
namespace Go.Proofs.YtmcpfinnhgbcpaaDoor
open Go.RowKit Num

end Go.Proofs.YtmcpfinnhgbcpaaDoor
