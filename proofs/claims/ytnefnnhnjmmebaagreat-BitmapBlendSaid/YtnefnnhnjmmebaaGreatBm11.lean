/-
  The walk of bitmap.DiffBounds.
-/
import Derived.Test.YtnefnnhnjmmebaaGreatBm9
import Derived.Test.YtnefnnhnjmmebaaGreatBm10
namespace Go.Proofs.YtnefnnhnjmmebaaGreat
open Go.RowKit
set_option linter.unusedSimpArgs false
set_option linter.unusedVariables false

end Go.Proofs.YtnefnnhnjmmebaaGreat
