/-
  What a function that makes a bitmap returns.
-/
import Derived.Test.YtnefnnhnjmmebaaPlA
import Derived.Test.YtnefnnhnjmmebaaRcA
import Derived.Test.YtnefnnhnjmmebaaPxEq
import Derived.Test.YtnefnnhnjmmebaaPlB
namespace Go.Proofs.Ytnefnnhnjmmebaa
open Go.RowKit
set_option linter.unusedSimpArgs false
set_option linter.unusedVariables false

theorem Try.infoPx : (Try.prog.info? 25).map (fun i => (i.zero, i.size, i.bytes)) = some (some (.agg #[.int .u8 0, .int .u8 0, .int .u8 0, .int .u8 0]), 4, 4) := by kernel_rfl
/-- What a function that makes a bitmap returns. -/
def RetB (r : Rc) (l : List Px) (w : World) (e : Ending) (w' : World) : Prop :=
  ∃ v, e = .returned (.agg #[.int .i64 r.x0, .int .i64 r.y0, .int .i64 r.x1, .int .i64 r.y1, v]) ∧ OwnL encP 25 4 w' w.heap.size v l ∧ Below w.heap.size w w'
end Go.Proofs.Ytnefnnhnjmmebaa
