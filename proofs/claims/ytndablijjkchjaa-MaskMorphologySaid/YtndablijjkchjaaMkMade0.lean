/-
  What a function that makes a mask returns.
-/
import Derived.Test.YtndablijjkchjaaMkP
import Derived.Test.YtndablijjkchjaaPlA
import Derived.Test.YtndablijjkchjaaPlB
namespace Go.Proofs.Ytndablijjkchjaa
open Go.RowKit
set_option linter.unusedSimpArgs false
set_option linter.unusedVariables false

/-- What a function that makes a mask returns. -/
def RetM (r : Rc) (l : List Int) (w : World) (e : Ending) (w' : World) : Prop :=
  ∃ v, e = .returned (.agg #[.int .i64 r.x0, .int .i64 r.y0, .int .i64 r.x1, .int .i64 r.y1, v]) ∧ OwnL encB 5 1 w' w.heap.size v l ∧ Below w.heap.size w w'
/-- .. or a mask and an error. -/
def RetME (r : Rc) (l : List Int) (er : Int) (w : World) (e : Ending) (w' : World) : Prop :=
  ∃ v, e = .returned (.tuple #[.agg #[.int .i64 r.x0, .int .i64 r.y0, .int .i64 r.x1, .int .i64 r.y1, v], .int .i64 er]) ∧ OwnL encB 5 1 w' w.heap.size v l ∧ Below w.heap.size w w'
theorem RetME.no {w w' : World} (er : Int) (h : Below w.heap.size w w') : RetME ⟨0, 0, 0, 0⟩ [] er w (.returned (.tuple #[.agg #[.int .i64 0, .int .i64 0, .int .i64 0, .int .i64 0, .slice none 0 0], .int .i64 er])) w' := ⟨_, rfl, OwnL.nil _ _, h⟩
end Go.Proofs.Ytndablijjkchjaa
