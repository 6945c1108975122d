/-
  The walks of grisailleref30.New and bitmap.Bytes.
-/
import Derived.Test.YtnefnnhnjmmebaaGreatBm3
import Derived.Laws.BytesArg
namespace Go.Proofs.YtnefnnhnjmmebaaGreat
open Go.RowKit
set_option linter.unusedSimpArgs false
set_option linter.unusedVariables false


theorem area_bd (r : Rc) : 0 ≤ areaR r ∧ areaR r ≤ 67108864 := by
  have hb := canon_bd r
  unfold areaR
  exact mul_bd (by omega) (by omega) (by omega) (by omega)
end Go.Proofs.YtnefnnhnjmmebaaGreat
