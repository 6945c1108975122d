/-
  Valid bitmaps in plain Lean: what the blur's texts want of them.
-/
import Derived.Test.YtnefnnhnjmmebaaPlA
import Derived.Test.YtnefnnhnjmmebaaOpenB
import Derived.Test.YtnefnnhnjmmebaaBm6
namespace Go.Proofs.Ytnefnnhnjmmebaa
set_option linter.unusedSimpArgs false
set_option linter.unusedVariables false

def vBm (b : Bm) : Bool := bmValid b.r b.l
theorem valid_cn {r : Rc} {l : List Px} (h : bmValid r l = true) : canonR r = r ∧ (l.length : Int) = areaR r ∧ l.all pvB = true ∧ areaR r ≤ 65536 := by
  unfold bmValid at h
  simp only [Bool.and_eq_true, decide_eq_true_eq] at h
  exact ⟨(eqB_iff _ _).1 h.1.1.1, h.1.2, h.2, h.1.1.2⟩
theorem bm_of {r : Rc} {l : List Px} (h0 : canonR r = r) (h1 : (l.length : Int) = areaR r) (h2 : areaR r ≤ 65536) (h3 : l.all pvB = true) : bmValid r l = true := by
  unfold bmValid; rw [h0, eqB_refl, decide_eq_true h1, decide_eq_true h2, h3]; rfl
theorem bpix_valid {r : Rc} {g : Int → Int → Px} (hc : canonR r = r) (ha : areaR r ≤ 65536) (hg : ∀ x y, pvB (g x y) = true) : bmValid r (pixL g r) = true :=
  bm_of hc (by have := pix_len g r; rw [hc] at this; exact this) ha (List.all_eq_true.2 fun p hp => by
    obtain ⟨x, y, _, _, _, _, rfl⟩ := pix_mem hp
    exact hg x y)
theorem bpix_bytes {g : Int → Int → Px} {r : Rc} (h : ∀ x y, (g x y).byte) : pxsB (pixL g r) := fun p hp => by
  obtain ⟨x, y, _, _, _, _, rfl⟩ := pix_mem hp
  exact h x y
theorem atL_px {r : Rc} {l : List Px} (h : pxsB l) (x y : Int) : (atL zP r l x y).byte := by
  have hz : zP.byte := ⟨by decide, by decide, by decide, by decide, by decide, by decide, by decide, by decide⟩
  unfold atL
  split
  · rw [List.getD_eq_getElem?_getD]
    cases he : l[(pixR r x y).toNat]? with
    | none => exact hz
    | some v => exact h v (List.mem_of_getElem? he)
  · exact hz
theorem atL_pv {r : Rc} {l : List Px} (h : l.all pvB = true) (x y : Int) : pvB (atL zP r l x y) = true := by
  have hz : pvB zP = true := rfl
  unfold atL
  split
  · rw [List.getD_eq_getElem?_getD]
    cases he : l[(pixR r x y).toNat]? with
    | none => exact hz
    | some v => exact List.all_eq_true.1 h v (List.mem_of_getElem? he)
  · exact hz
end Go.Proofs.Ytnefnnhnjmmebaa
