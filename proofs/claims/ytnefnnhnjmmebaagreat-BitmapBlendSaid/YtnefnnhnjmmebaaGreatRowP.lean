/-
  Rows of a list of pixels, and parts of slices.
-/
import Derived.Test.YtnefnnhnjmmebaaGreatBm11
import Derived.Test.YtnefnnhnjmmebaaGreatOpenB
import Derived.Test.YtnefnnhnjmmebaaGreatPlB
import Derived.Test.YtnefnnhnjmmebaaGreatBmClone
namespace Go.Proofs.YtnefnnhnjmmebaaGreat
open Go.RowKit
set_option linter.unusedSimpArgs false
set_option linter.unusedVariables false

theorem inter_cn (a b : Rc) : canonR (interR a b) = interR a b := by unfold interR; rw [canon_canon]
section
variable {α : Type} {enc : α → List Value} {size : Nat}
theorem RdL.drop {w : World} {g o : Nat} {l : List α} (h : RdL enc size w (some ⟨g, o, none⟩) l) (k : Nat) : RdL enc size w (some ⟨g, o + k * size, none⟩) (l.drop k) := fun hn => by
  obtain ⟨g', o', hA, hg, hc⟩ := h (by intro e; rw [e] at hn; simp at hn)
  injection hA with hA
  injection hA with h1 h2
  subst h1 h2
  refine ⟨g, o + k * size, rfl, hg, fun i hi j u hu => ?_⟩
  have h3 := hc (k + i) (by simp at hi; omega) j u (by rw [List.getElem_drop] at hu; exact hu)
  rw [← h3]
  congr 2
  rw [Nat.add_mul]; omega
/-- A row of a rectangle inside another one, in the list of the latter. -/
theorem row_of {z : α} {r q : Rc} {l : List α} (hc : canonR r = r) (hl : (l.length : Int) = areaR r) (hq : emptyB q = false) (h0 : r.x0 ≤ q.x0) (h1 : q.x1 ≤ r.x1) {y : Int} (h2 : r.y0 ≤ y) (h3 : y < r.y1) {wd : Nat} (hwd : q.x1 - q.x0 = (wd : Int)) :
    ∃ k : Nat, pixR r q.x0 y = (k : Int) ∧ k + wd ≤ l.length ∧ (l.drop k).take wd = rowL (atL z r l) q.x0 y wd := by
  have hqf := (emptyB_iff q).1 hq
  have hin : ∀ i : Nat, i < wd → containsB r (q.x0 + i) y = true := fun i hi => (contains_iff hc _ _).2 ⟨by omega, by omega, by omega, by omega⟩
  have hpix : ∀ i : Nat, i < wd → pixR r (q.x0 + i) y = (((y - r.y0).toNat * (r.x1 - r.x0).toNat + (q.x0 - r.x0).toNat + i : Nat) : Int) := fun i hi => by
    rw [pix_form (hin i hi)]
    congr 1
    omega
  have hk0 := hpix 0 (by omega)
  rw [show q.x0 + ((0 : Nat) : Int) = q.x0 by simp, Nat.add_zero] at hk0
  generalize (y - r.y0).toNat * (r.x1 - r.x0).toNat + (q.x0 - r.x0).toNat = k at *
  have hlast := pix_lt (hin (wd - 1) (by omega)) hl
  rw [hpix (wd - 1) (by omega), Int.toNat_natCast] at hlast
  refine ⟨k, hk0, by omega, ?_⟩
  apply List.ext_getElem?
  intro i
  by_cases hi : i < wd
  · rw [row_get _ _ _ hi, List.getElem?_take, if_pos hi, List.getElem?_drop]
    unfold atL
    rw [if_pos (hin i hi), hpix i hi, Int.toNat_natCast, List.getD_eq_getElem?_getD, List.getElem?_eq_getElem (show k + i < l.length by omega)]
    rfl
  · rw [List.getElem?_eq_none (by simp; omega), List.getElem?_eq_none (by rw [rowL_len]; omega)]
end
/-- The part of a bitmap inside a rectangle, or the error. -/
def crR (b : Bm) (r : Rc) : Rc := if bmValid b.r b.l then interR b.r r else ⟨0, 0, 0, 0⟩
def crL (b : Bm) (r : Rc) : List Px := if bmValid b.r b.l then pixL (atL zP b.r b.l) (interR b.r r) else []
def crE (b : Bm) : Int := if bmValid b.r b.l then 0 else 15
end Go.Proofs.YtnefnnhnjmmebaaGreat
