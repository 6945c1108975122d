/-
  Values of the pixels of a rectangle, in a list: plain Lean.
-/
import Derived.Test.YtnefnnhnjmmebaaBmP
namespace Go.Proofs.Ytnefnnhnjmmebaa

section
variable {α : Type}
theorem row_get (g : Int → Int → α) (x0 y : Int) {n i : Nat} (hi : i < n) : (rowL g x0 y n)[i]? = some (g (x0 + i) y) := by
  unfold rowL
  rw [List.getElem?_map, List.getElem?_range hi]; rfl
theorem made_get (g : Int → Int → α) (x0 y0 : Int) {wd i : Nat} (hi : i < wd) : ∀ {ht j : Nat}, j < ht → (madeL g x0 y0 wd ht)[j * wd + i]? = some (g (x0 + i) (y0 + j))
  | 0, j, h => absurd h (Nat.not_lt_zero _)
  | ht + 1, j, h => by
    rw [madeL_succ]
    by_cases hj : j < ht
    · have h1 : j * wd + i < (madeL g x0 y0 wd ht).length := by
        rw [madeL_len]
        have : (j + 1) * wd ≤ ht * wd := Nat.mul_le_mul_right _ hj
        rw [Nat.succ_mul] at this; omega
      rw [List.getElem?_append_left h1]
      exact made_get g x0 y0 hi hj
    · obtain rfl : j = ht := by omega
      rw [List.getElem?_append_right (by rw [madeL_len]; omega), madeL_len, Nat.add_sub_cancel_left]
      exact row_get g x0 _ hi
/-- The value at a pixel: that of the list inside the rectangle, z outside. -/
def atL (z : α) (r : Rc) (l : List α) (x y : Int) : α := if containsB r x y then l.getD (pixR r x y).toNat z else z
theorem contains_iff {r : Rc} (hc : canonR r = r) (x y : Int) : containsB r x y = true ↔ r.x0 ≤ x ∧ x < r.x1 ∧ r.y0 ≤ y ∧ y < r.y1 := by
  rw [contains_canon, hc]; simp [and_assoc]
theorem pix_form {r : Rc} {x y : Int} (h : containsB r x y = true) :
    pixR r x y = (((y - r.y0).toNat * (r.x1 - r.x0).toNat + (x - r.x0).toNat : Nat) : Int) := by
  obtain ⟨he, h0, h1, h2, h3⟩ := contains_true h
  unfold pixR
  rw [if_pos h, Int.natCast_add, Int.natCast_mul, Int.toNat_of_nonneg (by omega), Int.toNat_of_nonneg (by omega), Int.toNat_of_nonneg (by omega)]
  omega
theorem pix_lt {r : Rc} {x y : Int} (h : containsB r x y = true) {n : Nat} (hn : (n : Int) = areaR r) : 0 ≤ pixR r x y ∧ (pixR r x y).toNat < n := by
  obtain ⟨he, h0, h1, h2, h3⟩ := contains_true h
  have hp := pix_form h
  refine ⟨by rw [hp]; exact Int.natCast_nonneg _, ?_⟩
  rw [hp, Int.toNat_natCast]
  have ha : areaR r = (((r.y1 - r.y0).toNat * (r.x1 - r.x0).toNat : Nat) : Int) := by
    unfold areaR
    rw [canon_of_full he, Int.natCast_mul, Int.toNat_of_nonneg (by omega), Int.toNat_of_nonneg (by omega), Int.mul_comm]
  have hn' : n = (r.y1 - r.y0).toNat * (r.x1 - r.x0).toNat := by omega
  rw [hn']
  have hm : ((y - r.y0).toNat + 1) * (r.x1 - r.x0).toNat ≤ (r.y1 - r.y0).toNat * (r.x1 - r.x0).toNat := Nat.mul_le_mul_right _ (by omega)
  rw [Nat.succ_mul] at hm
  omega
theorem pixL_get (g : Int → Int → α) {r : Rc} {x y : Int} (h : containsB r x y = true) : (pixL g r)[(pixR r x y).toNat]? = some (g x y) := by
  obtain ⟨he, h0, h1, h2, h3⟩ := contains_true h
  rw [pix_form h, Int.toNat_natCast]
  unfold pixL
  rw [made_get g r.x0 r.y0 (by omega) (by omega)]
  congr 2 <;> omega
/-- The value at a pixel of the list of a function's values. -/
theorem atL_pix (z : α) (g : Int → Int → α) (r : Rc) (x y : Int) : atL z r (pixL g r) x y = if containsB r x y then g x y else z := by
  unfold atL
  split
  · next h => rw [List.getD_eq_getElem?_getD, pixL_get g h]; rfl
  · rfl
theorem pix_ext {g g' : Int → Int → α} {r : Rc} (h : ∀ x y, r.x0 ≤ x → x < r.x1 → r.y0 ≤ y → y < r.y1 → g x y = g' x y) : pixL g r = pixL g' r := by
  unfold pixL madeL
  rw [List.flatMap_def, List.flatMap_def]
  refine congrArg List.flatten (List.map_congr_left fun j hj => ?_)
  unfold rowL
  refine List.map_congr_left fun i hi => ?_
  have hj' := List.mem_range.1 hj
  have hi' := List.mem_range.1 hi
  exact h _ _ (by omega) (by omega) (by omega) (by omega)
/-- A list is the list of its values at the pixels. -/
theorem pix_at (z : α) {r : Rc} {l : List α} (hc : canonR r = r) (hl : (l.length : Int) = areaR r) : pixL (atL z r l) r = l := by
  have hb := canon_bd r
  rw [hc] at hb
  have hlen : (pixL (atL z r l) r).length = l.length := by
    have := pix_len (atL z r l) r
    rw [hc] at this; omega
  apply List.ext_getElem? 
  intro k
  by_cases hk : k < l.length
  · have hwd : 0 < (r.x1 - r.x0).toNat := by
      rcases Nat.eq_zero_or_pos (r.x1 - r.x0).toNat with h0 | h0
      · have : areaR r = 0 := by unfold areaR; rw [hc, show r.x1 - r.x0 = 0 by omega, Int.zero_mul]
        omega
      · exact h0
    have ha : l.length = (r.y1 - r.y0).toNat * (r.x1 - r.x0).toNat := by
      have : areaR r = (((r.y1 - r.y0).toNat * (r.x1 - r.x0).toNat : Nat) : Int) := by
        unfold areaR
        rw [hc, Int.natCast_mul, Int.toNat_of_nonneg (by omega), Int.toNat_of_nonneg (by omega), Int.mul_comm]
      omega
    have hd := Nat.div_add_mod k (r.x1 - r.x0).toNat
    have hm := Nat.mod_lt k hwd
    have hj : k / (r.x1 - r.x0).toNat < (r.y1 - r.y0).toNat := by
      rw [Nat.div_lt_iff_lt_mul hwd, ← ha]; exact hk
    generalize k / (r.x1 - r.x0).toNat = jj at hd hj
    generalize k % (r.x1 - r.x0).toNat = ii at hd hm
    have hcon : containsB r (r.x0 + (ii : Int)) (r.y0 + (jj : Int)) = true := (contains_iff hc _ _).2 ⟨by omega, by omega, by omega, by omega⟩
    have hp : (pixR r (r.x0 + (ii : Int)) (r.y0 + (jj : Int))).toNat = k := by
      rw [pix_form hcon, Int.toNat_natCast, show (r.y0 + (jj : Int) - r.y0).toNat = jj by omega,
        show (r.x0 + (ii : Int) - r.x0).toNat = ii by omega, Nat.mul_comm]
      exact hd
    have hg := pixL_get (atL z r l) hcon
    rw [hp] at hg
    rw [hg]
    unfold atL
    rw [if_pos hcon, hp, List.getD_eq_getElem?_getD, List.getElem?_eq_getElem hk]; rfl
  · rw [List.getElem?_eq_none (by omega), List.getElem?_eq_none (by omega)]
end
end Go.Proofs.Ytnefnnhnjmmebaa
