/-
  The walk of bitmap.Paste.
-/
import Derived.Test.YtnefnnhnjmmebaaGreatPasteP
import Derived.Test.YtnefnnhnjmmebaaGreatBm3
import Derived.Test.YtnefnnhnjmmebaaGreatPlC
namespace Go.Proofs.YtnefnnhnjmmebaaGreat
open Go.RowKit
set_option linter.unusedSimpArgs false
set_option linter.unusedVariables false


end Go.Proofs.YtnefnnhnjmmebaaGreat
