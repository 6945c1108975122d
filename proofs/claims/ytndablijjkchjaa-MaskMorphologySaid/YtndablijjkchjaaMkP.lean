/-
  Masks in plain Lean.
-/
import Derived.Test.YtndablijjkchjaaPlA
import Derived.Test.YtndablijjkchjaaPlB
import Derived.Test.YtndablijjkchjaaRect3
import Derived.Test.YtndablijjkchjaaRef09b
import Derived.Test.YtndablijjkchjaaSame
namespace Go.Proofs.Ytndablijjkchjaa
open Go.RowKit
set_option linter.unusedSimpArgs false
set_option linter.unusedVariables false

def mkValid (r : Rc) (l : List Int) : Bool := eqB (canonR r) r && decide (areaR r ≤ 65536) && decide ((l.length : Int) = areaR r)
theorem mk_cn {r : Rc} {l : List Int} (h : mkValid r l = true) : canonR r = r ∧ (l.length : Int) = areaR r ∧ areaR r ≤ 65536 := by
  unfold mkValid at h
  simp only [Bool.and_eq_true, decide_eq_true_eq] at h
  exact ⟨(eqB_iff _ _).1 h.1.1, h.2, h.1.2⟩
theorem mk_of {r : Rc} {l : List Int} (h0 : canonR r = r) (h1 : (l.length : Int) = areaR r) (h2 : areaR r ≤ 65536) : mkValid r l = true := by
  unfold mkValid; rw [h0, eqB_refl, decide_eq_true h1, decide_eq_true h2]; rfl
/-- A byte of a slice of bytes. -/
theorem rd1 {w : World} {A : Option Addr} {l : List Int} (h : RdL encB 1 w A l) {k : Nat} (hk : k < l.length) : ∃ g o, A = some ⟨g, o, none⟩ ∧ g < w.heap.size ∧ w.cell? ⟨g, o + k, none⟩ = some (.int .u8 l[k]) := by
  obtain ⟨g, o, hA, hg, hc⟩ := h (by intro e; rw [e] at hk; simp at hk)
  exact ⟨g, o, hA, hg, by have := hc k hk 0 _ rfl; rwa [Nat.mul_one, Nat.add_zero] at this⟩
theorem atL_out {α : Type} {z : α} {r : Rc} {l : List α} {x y : Int} (h : containsB r x y = false) : atL z r l x y = z := by unfold atL; rw [h]; rfl
theorem atL_in {α : Type} {z : α} {r : Rc} {l : List α} {x y : Int} (h : containsB r x y = true) (hl : (l.length : Int) = areaR r) : ∃ k : Nat, pixR r x y = (k : Int) ∧ ∃ hk : k < l.length, l[k] = atL z r l x y := by
  obtain ⟨h0, h1⟩ := pix_lt h hl
  refine ⟨(pixR r x y).toNat, by omega, h1, ?_⟩
  unfold atL
  rw [if_pos h, List.getD_eq_getElem?_getD, List.getElem?_eq_getElem h1]; rfl
theorem pixR_out {r : Rc} {x y : Int} (h : containsB r x y = false) : pixR r x y = -1 := by unfold pixR; rw [h]; rfl
theorem area_bd (r : Rc) : 0 ≤ areaR r ∧ areaR r ≤ 67108864 := by
  have hb := canon_bd r
  unfold areaR
  exact mul_bd (by omega) (by omega) (by omega) (by omega)
theorem Try.infoU8 : (Try.prog.info? 5).map (fun i => (i.zero, i.size, i.bytes)) = some (some (.int .u8 0), 1, 1) := by kernel_rfl
/-- All values are bytes. -/
def bytesB (l : List Int) : Prop := ∀ x ∈ l, 0 ≤ x ∧ x ≤ 255
theorem atL_byte {r : Rc} {l : List Int} (h : bytesB l) (x y : Int) : 0 ≤ atL 0 r l x y ∧ atL 0 r l x y ≤ 255 := by
  unfold atL
  split
  · rw [List.getD_eq_getElem?_getD]
    cases he : l[(pixR r x y).toNat]? with
    | none => exact ⟨Int.le_refl _, by decide⟩
    | some v => exact h v (List.mem_of_getElem? he)
  · exact ⟨Int.le_refl _, by decide⟩
end Go.Proofs.Ytndablijjkchjaa
