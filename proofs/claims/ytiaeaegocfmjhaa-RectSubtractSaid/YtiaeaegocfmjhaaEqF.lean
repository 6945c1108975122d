/-
  A function value is not nil.
-/
import Derived.WalkKit
import Derived.Laws.Cover3
import Derived.Test.YtiaeaegocfmjhaaProg
namespace Go.Proofs.Ytiaeaegocfmjhaa
open Go.RowKit
theorem seq_under : Try.prog.underlying 56 = some (.func #[29] #[] false) := by kernel_rfl
theorem equal_nilF (P : Program) (t : TypeId) (a b : Array TypeId) (c : Bool) (h : P.underlying t = some (.func a b c)) (d : Nat) (f : Fn) (bs cs : Array Value) (w : World) : (Op.equalIn (d + 1) t (.func f bs cs) .nilFunc).run P w = .ok false w := by
  simp [Op.equalIn, run_underlying h]
theorem eql_nilF (f : Fn) (bs cs : Array Value) (w : World) : (binOp .eql 56 (.func f bs cs) .nilFunc).run Try.prog w = .ok (.bool false) w := by
  have h := equal_nilF Try.prog _ _ _ _ seq_under 9999 f bs cs w
  simp only [binOp]
  simp [Op.equal, Op.maxDepth, h]
end Go.Proofs.Ytiaeaegocfmjhaa
