/-
  What the distance transform of a valid mask holds, in the coordinates of the mask.
-/
import Derived.Test.YtndablijjkchjaaDt3
import Derived.Test.YtndablijjkchjaaMkQ
namespace Go.Proofs.Ytndablijjkchjaa
set_option linter.unusedSimpArgs false
set_option linter.unusedVariables false

theorem atV_byte {r : Rc} {l : List Int} (h : bytesB l) (x y : Int) : 0 ≤ atV r l x y ∧ atV r l x y ≤ 255 := by
  unfold atV
  split
  · exact atL_byte h x y
  · omega
section
variable {b : Mk}
theorem in_grid (h : vMk b = true) {x y : Int} (hc : containsB b.r x y = true) : inG (wdB b) (htB b) (x - b.r.x0) (y - b.r.y0) := by
  obtain ⟨_, h1, h2, _⟩ := grid_dim h
  have := (contains_iff (mk_cn h).1 x y).1 hc
  unfold inG; omega
theorem atL_gat (h : vMk b = true) (l : List Int) {x y : Int} (hc : containsB b.r x y = true) : atL 0 b.r l x y = gat (wdB b) l (x - b.r.x0) (y - b.r.y0) := by
  have hg := in_grid h hc
  unfold atL
  rw [if_pos hc, pix_form hc, Int.toNat_natCast]
  unfold gat
  congr 1
  obtain ⟨a0, a1, a2, a3⟩ := hg
  have e := gix_nat (wd := wdB b) (x := (x - b.r.x0).toNat) (y := (y - b.r.y0).toNat) trivial
  rw [Int.toNat_of_nonneg a0, Int.toNat_of_nonneg a2] at e
  rw [e]; rfl
theorem dtL_ok (h : vMk b = true) (hb : bytesB b.l) : OkD (wdB b) (htB b) (dtL b) := by
  unfold dtL; rw [h]; exact dt_ok (grid_dim h).1 hb
theorem dtL_valid (h : vMk b = true) (hb : bytesB b.l) : mkValid b.r (dtL b) = true := by
  obtain ⟨h0, h1, h2⟩ := mk_cn h
  have h3 := (dtL_ok h hb).len
  have h4 := (grid_dim h).1
  exact mk_of h0 (by rw [h3, ← h4]; exact h1) h2
theorem dtL_at (h : vMk b = true) (hb : bytesB b.l) {x y : Int} (hc : containsB b.r x y = true) : atV b.r (dtL b) x y = gat (wdB b) (dtP (wdB b) (htB b) b.l) (x - b.r.x0) (y - b.r.y0) := by
  unfold atV
  rw [dtL_valid h hb, if_pos rfl, atL_gat h _ hc]
  unfold dtL; rw [h]; rfl
theorem mk_at (h : vMk b = true) {x y : Int} (hc : containsB b.r x y = true) : atV b.r b.l x y = gat (wdB b) b.l (x - b.r.x0) (y - b.r.y0) := by
  unfold atV
  rw [show mkValid b.r b.l = true from h, if_pos rfl, atL_gat h _ hc]
theorem dtL_zero (h : vMk b = true) (hb : bytesB b.l) {x y : Int} (hc : containsB b.r x y = true) : atV b.r (dtL b) x y = 0 ↔ atV b.r b.l x y = 0 := by
  rw [dtL_at h hb hc, mk_at h hc]
  exact dt_zero (grid_dim h).1 hb _ _ (in_grid h hc)
theorem dtL_lip (h : vMk b = true) (hb : bytesB b.l) {x y u v : Int} (hc : containsB b.r x y = true) (hu : containsB b.r u v = true) (hd : -1 ≤ u - x ∧ u - x ≤ 1 ∧ -1 ≤ v - y ∧ v - y ≤ 1) : atV b.r (dtL b) x y ≤ atV b.r (dtL b) u v + 1 := by
  rw [dtL_at h hb hc, dtL_at h hb hu]
  exact dt_lip (grid_dim h).1 hb (in_grid h hc) (in_grid h hu) (by omega)
end
end Go.Proofs.Ytndablijjkchjaa
