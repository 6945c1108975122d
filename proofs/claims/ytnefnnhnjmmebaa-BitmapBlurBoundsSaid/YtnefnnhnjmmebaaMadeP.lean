/-
  Rows of values, row by row: plain Lean.
-/
import Derived.Test.YtnefnnhnjmmebaaRectP
namespace Go.Proofs.Ytnefnnhnjmmebaa

section
variable {α : Type}
def rowL (g : Int → Int → α) (x0 y : Int) (n : Nat) : List α := (List.range n).map fun (i : Nat) => g (x0 + (i : Int)) y
def madeL (g : Int → Int → α) (x0 y0 : Int) (wd ht : Nat) : List α := (List.range ht).flatMap fun (j : Nat) => rowL g x0 (y0 + (j : Int)) wd
theorem rowL_succ (g : Int → Int → α) (x0 y : Int) (n : Nat) : rowL g x0 y (n + 1) = rowL g x0 y n ++ [g (x0 + (n : Int)) y] := by
  unfold rowL; rw [List.range_succ, List.map_append]; rfl
theorem rowL_len (g : Int → Int → α) (x0 y : Int) (n : Nat) : (rowL g x0 y n).length = n := by unfold rowL; simp
theorem madeL_succ (g : Int → Int → α) (x0 y0 : Int) (wd ht : Nat) : madeL g x0 y0 wd (ht + 1) = madeL g x0 y0 wd ht ++ rowL g x0 (y0 + (ht : Int)) wd := by
  unfold madeL; rw [List.range_succ, List.flatMap_append]; simp
theorem madeL_len (g : Int → Int → α) (x0 y0 : Int) (wd ht : Nat) : (madeL g x0 y0 wd ht).length = ht * wd := by
  induction ht with
  | zero => simp [madeL]
  | succ n ih => rw [madeL_succ, List.length_append, ih, rowL_len, Nat.succ_mul]
/-- The values of a rectangle's pixels, row by row. -/
def pixL (g : Int → Int → α) (r : Rc) : List α := madeL g r.x0 r.y0 (r.x1 - r.x0).toNat (r.y1 - r.y0).toNat
end
end Go.Proofs.Ytnefnnhnjmmebaa
