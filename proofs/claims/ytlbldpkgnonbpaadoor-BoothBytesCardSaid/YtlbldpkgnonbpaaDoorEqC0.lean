/- The reference's long, members. -/
import Derived.Test.YtlbldpkgnonbpaaDoorEqB0
namespace Go.Proofs.YtlbldpkgnonbpaaDoor
open Go Go.RowKit Num Sha
set_option linter.unusedSimpArgs false
set_option linter.unusedVariables false


end Go.Proofs.YtlbldpkgnonbpaaDoor
