/-
  Dilation and erosion in plain Lean: duality, sums of radii, bounds, and the distance. No program here.
-/
import Derived.Test.YtndablijjkchjaaLineP
import Derived.Test.YtndablijjkchjaaPlA
import Derived.Test.YtndablijjkchjaaDtQ
namespace Go.Proofs.Ytndablijjkchjaa
set_option linter.unusedVariables false
set_option linter.unusedSimpArgs false

def gF (wd : Nat) (l : List Int) (i j : Nat) : Int := l.getD (j * wd + i) 0
theorem gF_gat (wd : Nat) (l : List Int) (i j : Nat) : gat wd l (i : Int) (j : Int) = gF wd l i j := by unfold gat gF; rw [gix_nat trivial]
/-- The extreme values of the squares of radius n. -/
def exL (sg : Int) (wd ht n : Nat) (l : List Int) : List Int := madeL (fun x y => squareV sg (gF wd l) wd ht n x.toNat y.toNat) 0 0 wd ht
theorem exL_len (sg : Int) (wd ht n : Nat) (l : List Int) : (exL sg wd ht n l).length = ht * wd := by unfold exL; rw [madeL_len]
theorem exL_gF (sg : Int) {wd ht : Nat} (n : Nat) (l : List Int) {i j : Nat} (hi : i < wd) (hj : j < ht) : gF wd (exL sg wd ht n l) i j = squareV sg (gF wd l) wd ht n i j := by
  unfold exL
  show (madeL _ 0 0 wd ht).getD (j * wd + i) 0 = _
  rw [List.getD_eq_getElem?_getD, made_get _ 0 0 hi hj]
  simp
theorem idx_lt {wd ht i j : Nat} (hi : i < wd) (hj : j < ht) : j * wd + i < ht * wd := by
  have h : (j + 1) * wd ≤ ht * wd := Nat.mul_le_mul_right _ hj
  rw [Nat.succ_mul] at h; omega
theorem idx_of {wd ht k : Nat} (hk : k < ht * wd) : ∃ i j, i < wd ∧ j < ht ∧ k = j * wd + i := by
  have hw : 0 < wd := by rcases Nat.eq_zero_or_pos wd with h | h; (· rw [h] at hk; simp at hk); (· exact h)
  refine ⟨k % wd, k / wd, Nat.mod_lt _ hw, ?_, ?_⟩
  · rw [Nat.div_lt_iff_lt_mul hw]; exact hk
  · rw [Nat.mul_comm]; exact (Nat.div_add_mod k wd).symm
/-- Lists of a grid are equal if all their values are. -/
theorem grid_ext {wd ht : Nat} {l m : List Int} (hl : l.length = ht * wd) (hm : m.length = ht * wd) (h : ∀ i j, i < wd → j < ht → gF wd l i j = gF wd m i j) : l = m := by
  apply List.ext_getElem?
  intro k
  by_cases hk : k < ht * wd
  · obtain ⟨i, j, hi, hj, rfl⟩ := idx_of hk
    have h1 := h i j hi hj
    unfold gF at h1
    rw [List.getD_eq_getElem?_getD, List.getD_eq_getElem?_getD, List.getElem?_eq_getElem (by omega), List.getElem?_eq_getElem (by omega)] at h1
    rw [List.getElem?_eq_getElem (by omega), List.getElem?_eq_getElem (by omega)]
    exact congrArg some h1
  · rw [List.getElem?_eq_none (by omega), List.getElem?_eq_none (by omega)]
theorem gF_map {wd ht : Nat} {l : List Int} (hl : l.length = ht * wd) (F : Int → Int) {i j : Nat} (hi : i < wd) (hj : j < ht) : gF wd (l.map F) i j = F (gF wd l i j) := by
  have h := idx_lt hi hj
  unfold gF
  rw [List.getD_eq_getElem?_getD, List.getD_eq_getElem?_getD, List.getElem?_map, List.getElem?_eq_getElem (by omega)]; rfl
theorem gF_byte {wd ht : Nat} {l : List Int} (hb : bytesB l) (i j : Nat) : 0 ≤ gF wd l i j ∧ gF wd l i j ≤ 255 := by
  unfold gF
  rw [List.getD_eq_getElem?_getD]
  cases he : l[j * wd + i]? with
  | none => exact ⟨Int.le_refl _, by decide⟩
  | some v => exact hb v (List.mem_of_getElem? he)
theorem exL_byte {sg : Int} (hs : sg = 1 ∨ sg = -1) {wd ht n : Nat} {l : List Int} (hb : bytesB l) : bytesB (exL sg wd ht n l) := by
  intro v hv
  obtain ⟨k, hk, rfl⟩ := List.mem_iff_getElem.1 hv
  have hk' : k < ht * wd := by rw [exL_len] at hk; exact hk
  obtain ⟨i, j, hi, hj, rfl⟩ := idx_of hk'
  have h1 := exL_gF sg n l hi hj
  unfold gF at h1
  rw [List.getD_eq_getElem?_getD, List.getElem?_eq_getElem hk] at h1
  have h2 : (exL sg wd ht n l)[j * wd + i] = squareV sg (fun i j => l.getD (j * wd + i) 0) wd ht n i j := h1
  rw [h2]
  obtain ⟨⟨a, b, _, _, _, _, _, _, e⟩, _⟩ := squareV_spec hs (gF wd l) (n := n) hi hj
  have h3 := gF_byte (wd := wd) (ht := ht) hb a b
  rw [e] at h3
  exact h3
/-- Erosion is the inverted dilation of the inverted mask. -/
theorem ex_dual {wd ht : Nat} (n : Nat) {l : List Int} (hl : l.length = ht * wd) : (exL 1 wd ht n (l.map fun v => 255 - v)).map (fun v => 255 - v) = exL (-1) wd ht n l := by
  refine grid_ext (ht := ht) (wd := wd) (by rw [List.length_map, exL_len]) (exL_len _ _ _ _ _) fun i j hi hj => ?_
  rw [gF_map (exL_len _ _ _ _ _) _ hi hj, exL_gF _ _ _ hi hj, exL_gF _ _ _ hi hj]
  refine best2_unique (sg := -1) (.inr rfl) (f := gF wd l) (wd := wd) (ht := ht) (n := n) (x := i) (y := j) ?_ (squareV_spec (.inr rfl) _ hi hj)
  obtain ⟨⟨a, b, a0, b0, a1, a2, b1, b2, e⟩, h⟩ := squareV_spec (sg := 1) (.inl rfl) (gF wd (l.map fun v => 255 - v)) (n := n) hi hj
  refine ⟨⟨a, b, a0, b0, a1, a2, b1, b2, ?_⟩, fun c d c0 d0 c1 c2 d1 d2 => ?_⟩
  · rw [← e, gF_map hl _ a0 b0]; omega
  · have := h c d c0 d0 c1 c2 d1 d2
    rw [gF_map hl _ c0 d0] at this
    omega
/-- Radii add up. -/
theorem ex_twice {wd ht : Nat} (n m : Nat) {l : List Int} (hl : l.length = ht * wd) : exL 1 wd ht m (exL 1 wd ht n l) = exL 1 wd ht (n + m) l := by
  refine grid_ext (ht := ht) (wd := wd) (exL_len _ _ _ _ _) (exL_len _ _ _ _ _) fun i j hi hj => ?_
  rw [exL_gF _ _ _ hi hj, exL_gF _ _ _ hi hj]
  refine best2_unique (sg := 1) (.inl rfl) (f := gF wd l) (wd := wd) (ht := ht) (n := n + m) (x := i) (y := j) ?_ (squareV_spec (.inl rfl) _ hi hj)
  obtain ⟨⟨a, b, a0, b0, a1, a2, b1, b2, e⟩, h⟩ := squareV_spec (sg := 1) (.inl rfl) (gF wd (exL 1 wd ht n l)) (n := m) hi hj
  constructor
  · rw [exL_gF _ _ _ a0 b0] at e
    obtain ⟨⟨c, d, c0, d0, c1, c2, d1, d2, e2⟩, _⟩ := squareV_spec (sg := 1) (.inl rfl) (gF wd l) (n := n) a0 b0
    exact ⟨c, d, c0, d0, by omega, by omega, by omega, by omega, e2.trans e⟩
  · intro c d c0 d0 c1 c2 d1 d2
    -- a point of the grid within m of (i, j) and within n of (c, d)
    have key : ∀ p q w : Nat, p < w → q < w → p ≤ q + (n + m) → q ≤ p + (n + m) → ∃ t, t < w ∧ p ≤ t + m ∧ t ≤ p + m ∧ t ≤ q + n ∧ q ≤ t + n := fun p q w h0 h1 h2 h3 => by
      by_cases h : p ≤ q
      · exact ⟨min (p + m) q, by omega, by omega, by omega, by omega, by omega⟩
      · exact ⟨max (p - m) q, by omega, by omega, by omega, by omega, by omega⟩
    obtain ⟨t, t0, t1, t2, t3, t4⟩ := key i c wd hi c0 (by omega) (by omega)
    obtain ⟨u, u0, u1, u2, u3, u4⟩ := key j d ht hj d0 (by omega) (by omega)
    have e1 := h t u t0 u0 t1 t2 u1 u2
    rw [exL_gF _ _ _ t0 u0] at e1
    have e2 := (squareV_spec (sg := 1) (.inl rfl) (gF wd l) (n := n) t0 u0).2 c d c0 d0 (by omega) (by omega) (by omega) (by omega)
    omega
/-- A mask lies between its erosion and its dilation. -/
theorem ex_bd {wd ht : Nat} (n : Nat) (l : List Int) {i j : Nat} (hi : i < wd) (hj : j < ht) : gF wd (exL (-1) wd ht n l) i j ≤ gF wd l i j ∧ gF wd l i j ≤ gF wd (exL 1 wd ht n l) i j := by
  rw [exL_gF _ _ _ hi hj, exL_gF _ _ _ hi hj]
  have h1 := (squareV_spec (sg := 1) (.inl rfl) (gF wd l) (n := n) hi hj).2 i j hi hj (by omega) (by omega) (by omega) (by omega)
  have h2 := (squareV_spec (sg := -1) (.inr rfl) (gF wd l) (n := n) hi hj).2 i j hi hj (by omega) (by omega) (by omega) (by omega)
  omega
/-- A pixel survives an erosion exactly if its distance to the nearest 0 is greater than the radius. -/
theorem ex_dist {wd ht n : Nat} (hn : n < 255) {l : List Int} (hl : l.length = wd * ht) (hb : bytesB l) {i j : Nat} (hi : i < wd) (hj : j < ht) :
    0 < gF wd (exL (-1) wd ht n l) i j ↔ (n : Int) < gF wd (dtP wd ht l) i j := by
  have hx : inG wd ht (i : Int) (j : Int) := ⟨by omega, by omega, by omega, by omega⟩
  rw [exL_gF _ _ _ hi hj, ← gF_gat wd (dtP wd ht l) i j, dt_near hl hb hx]
  obtain ⟨g1, g2, g3⟩ := near_spec (fun u v => gat wd l u v == 0) (madeL fpt 0 0 wd ht) (i : Int) (j : Int)
  obtain ⟨⟨a, b, a0, b0, a1, a2, b1, b2, e⟩, h⟩ := squareV_spec (sg := -1) (.inr rfl) (gF wd l) (n := n) hi hj
  constructor
  · intro hp
    rcases g3 with g3 | ⟨q, hq, hz, g3⟩
    · omega
    · obtain ⟨u, v, hu, hv, rfl⟩ := made_mem hq
      simp only [fpt, Int.zero_add] at hz g3
      rw [g3]
      have hz' : gF wd l u v = 0 := by rw [← gF_gat]; simpa using hz
      apply Classical.byContradiction
      intro hc
      unfold chebD at hc
      have := h u v hu hv (by omega) (by omega) (by omega) (by omega)
      omega
  · intro hp
    have hb1 := gF_byte (wd := wd) (ht := ht) hb a b
    rw [← e]
    apply Classical.byContradiction
    intro hc
    have hz : gF wd l a b = 0 := by omega
    have h2 := g2 (fpt (0 + (a : Int)) (0 + (b : Int))) (mem_made fpt 0 0 a0 b0) (by simp only [fpt, Int.zero_add]; rw [gF_gat, hz]; rfl)
    simp only [fpt, Int.zero_add] at h2
    unfold chebD at h2
    omega
end Go.Proofs.Ytndablijjkchjaa
