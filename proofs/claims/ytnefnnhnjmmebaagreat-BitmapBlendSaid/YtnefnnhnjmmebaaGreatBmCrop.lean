/-
  The walk of bitmap.Crop.
-/
import Derived.Test.YtnefnnhnjmmebaaGreatRowP
import Derived.Test.YtnefnnhnjmmebaaGreatBm3
namespace Go.Proofs.YtnefnnhnjmmebaaGreat
open Go.RowKit
set_option linter.unusedSimpArgs false
set_option linter.unusedVariables false


end Go.Proofs.YtnefnnhnjmmebaaGreat
