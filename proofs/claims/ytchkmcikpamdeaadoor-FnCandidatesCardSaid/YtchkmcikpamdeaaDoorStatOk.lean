/-
  StatsOk of spec.
-/
import Derived.Test.YtchkmcikpamdeaaDoorStat
namespace Go.Proofs.YtchkmcikpamdeaaDoor
open Go.RowKit
set_option linter.unusedSimpArgs false
set_option linter.unusedVariables false

end Go.Proofs.YtchkmcikpamdeaaDoor
