/-
  The walk of grisailleref30.DiffBounds.
-/
import Derived.Test.YtnefnnhnjmmebaaGreatBm9
namespace Go.Proofs.YtnefnnhnjmmebaaGreat
open Go.RowKit
set_option linter.unusedSimpArgs false
set_option linter.unusedVariables false

/-- A bitmap, or the zero bitmap in place of one that is not valid. -/
def nrR (r : Rc) (l : List Px) : Rc := if bmValid r l then r else ⟨0, 0, 0, 0⟩
def nrL (r : Rc) (l : List Px) : List Px := if bmValid r l then l else []
theorem valid_cn {r : Rc} {l : List Px} (h : bmValid r l = true) : canonR r = r ∧ (l.length : Int) = areaR r ∧ l.all pvB = true ∧ areaR r ≤ 65536 := by
  unfold bmValid at h
  simp only [Bool.and_eq_true, decide_eq_true_eq] at h
  exact ⟨(eqB_iff _ _).1 h.1.1.1, h.1.2, h.2, h.1.1.2⟩
theorem nr_cn (r : Rc) (l : List Px) : canonR (nrR r l) = nrR r l ∧ ((nrL r l).length : Int) = areaR (nrR r l) := by
  unfold nrR nrL
  cases h : bmValid r l with
  | true => exact ⟨(valid_cn h).1, (valid_cn h).2.1⟩
  | false => exact ⟨rfl, rfl⟩
/-- The box around the pixels at which two bitmaps differ. -/
def diffR (r : Rc) (l : List Px) (r' : Rc) (l' : List Px) : Rc := boxL (dfP (nrR r l) (nrL r l) (nrR r' l') (nrL r' l')) zR (ptsR (nrR r l) ++ ptsR (nrR r' l'))
theorem diff_two (r : Rc) (l : List Px) (r' : Rc) (l' : List Px) : unionR (boxL (dfP (nrR r l) (nrL r l) (nrR r' l') (nrL r' l')) zR (ptsR (nrR r l))) (boxL (dfP (nrR r' l') (nrL r' l') (nrR r l) (nrL r l)) zR (ptsR (nrR r' l'))) = diffR r l r' l' := by
  unfold diffR
  rw [box_append, box_two (pts_in (nr_cn r' l').1), dfP_comm (nrR r' l')]
end Go.Proofs.YtnefnnhnjmmebaaGreat
