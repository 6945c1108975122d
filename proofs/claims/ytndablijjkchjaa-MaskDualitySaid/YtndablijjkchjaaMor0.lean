/-
  What Dilate and Erode return.
-/
import Derived.Test.YtndablijjkchjaaExtP
import Derived.Test.YtndablijjkchjaaDt3
namespace Go.Proofs.Ytndablijjkchjaa
open Go.RowKit
set_option linter.unusedSimpArgs false
set_option linter.unusedVariables false

/-- A mask dilated (sg = 1) or eroded (sg = -1), or the error. -/
def exV (b : Mk) (n : Int) : Bool := vMk b && (decide (0 ≤ n) && decide (n ≤ 64))
def exR (b : Mk) (n : Int) : Rc := if exV b n then b.r else ⟨0, 0, 0, 0⟩
def exM (sg : Int) (b : Mk) (n : Int) : List Int := if exV b n then exL sg (wdB b) (htB b) n.toNat b.l else []
def exE (b : Mk) (n : Int) : Int := if vMk b then (if exV b n then 0 else 6) else 14
theorem grid_pos {b : Mk} (h : vMk b = true) : (0 < wdB b → 0 < htB b) ∧ (0 < htB b → 0 < wdB b) := by
  obtain ⟨hc, _, _⟩ := mk_cn h
  unfold wdB htB
  cases he : emptyB b.r with
  | true =>
    have h0 : b.r = ⟨0, 0, 0, 0⟩ := by rw [← hc, canon_of_empty he]
    rw [h0]; simp
  | false => have := (emptyB_iff b.r).1 he; omega
theorem exM_len (sg : Int) (b : Mk) (n : Int) : (exM sg b n).length ≤ b.l.length := by
  unfold exM
  split
  · next h =>
    have hv : vMk b = true := by unfold exV at h; simp at h; exact h.1
    rw [exL_len, (grid_dim hv).1, Nat.mul_comm]; exact Nat.le_refl _
  · simp
theorem exM_byte {sg : Int} (hs : sg = 1 ∨ sg = -1) {b : Mk} (hb : bytesB b.l) (n : Int) : bytesB (exM sg b n) := by
  unfold exM
  split
  · exact exL_byte hs hb
  · intro x hx; simp at hx
end Go.Proofs.Ytndablijjkchjaa
