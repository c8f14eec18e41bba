/- The reference of chapter 30, further: turned, under, asked, and the functions of the chapter. -/
import Derived.Test.YtanlnhjjdiaphaaDoorRefA
namespace Go.Proofs.YtanlnhjjdiaphaaDoor
open Go.RowKit Num



end Go.Proofs.YtanlnhjjdiaphaaDoor
