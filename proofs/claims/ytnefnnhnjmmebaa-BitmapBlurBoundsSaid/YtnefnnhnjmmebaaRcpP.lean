/-
  Plain laws on recipes: the term of a component lies from 0 to a, the weighted terms add up to the luminosity.
-/
import Derived.Test.YtnefnnhnjmmebaaBlendP
namespace Go.Proofs.Ytnefnnhnjmmebaa

theorem low_high (c : C3) : c.low ≤ c.r ∧ c.low ≤ c.g ∧ c.low ≤ c.b ∧ c.r ≤ c.high ∧ c.g ≤ c.high ∧ c.b ≤ c.high := by
  unfold C3.low C3.high; omega
theorem low_in {c : C3} {u v : Int} (h : u ≤ c.r ∧ c.r ≤ v ∧ u ≤ c.g ∧ c.g ≤ v ∧ u ≤ c.b ∧ c.b ≤ v) : u ≤ c.low ∧ c.high ≤ v := by
  unfold C3.low C3.high; omega

/-- The linear facts on a recipe. -/
theorem Rcp.fit.lin {q : Rcp} (h : q.fit) : 0 ≤ q.c.low ∧ q.c.high ≤ q.a ∧ q.c.low ≤ q.c.high ∧ q.c.sat = q.c.high - q.c.low ∧ 0 ≤ q.dark ∧ 0 ≤ q.bright ∧ q.dark + q.bright = 100 * q.c.sat ∧
    q.dark = q.c.lum - 100 * q.c.low ∧ q.bright = 100 * q.c.high - q.c.lum := by
  obtain ⟨r0, r1, g0, g1, b0, b1, t0, t1, l0, l1⟩ := h
  have e1 := low_high q.c
  have e2 := low_in (c := q.c) (u := 0) (v := q.a) (by omega)
  unfold Rcp.dark Rcp.bright C3.sat C3.lum
  omega

/-- The four kinds of a recipe. -/
theorem Rcp.fit.kinds {q : Rcp} (h : q.fit) {x : Int} (hx0 : q.c.low ≤ x) (hx1 : x ≤ q.c.high) : 1 ≤ q.den ∧ q.den ≤ 100 * q.a + 100 ∧ 0 ≤ q.num x ∧ q.num x ≤ q.a * q.den := by
  obtain ⟨k0, k1, k2, k3, k4, k5, k6, _, _⟩ := h.lin
  obtain ⟨r0, r1, g0, g1, b0, b1, t0, t1, l0, l1⟩ := h
  unfold Rcp.num Rcp.den
  have eL : q.level = q.l * q.c.sat - q.t * q.dark := rfl
  generalize q.c.low = lo at *
  generalize q.c.high = hi at *
  generalize q.c.sat = m at *
  generalize q.dark = dk at *
  generalize q.bright = br at *
  generalize q.level = lv at *
  generalize q.t = t at *
  generalize q.l = l at *
  generalize q.a = a at *
  by_cases hm : m = 0
  · simp only [hm, if_true]
    omega
  · simp only [hm, if_false]
    by_cases hl : lv < 0
    · simp only [hl, if_true]
      have p1 := Int.mul_nonneg l0 (show 0 ≤ m by omega)
      have p2 : t * dk ≤ a * dk := Int.mul_le_mul_of_nonneg_right t1 k4
      have p3 : l * (x - lo) ≤ l * m := Int.mul_le_mul_of_nonneg_left (by omega) l0
      have p4 := Int.mul_nonneg l0 (show 0 ≤ x - lo by omega)
      have hd : 0 < dk := by
        rcases Int.lt_or_le 0 dk with e | e
        · exact e
        · have : dk = 0 := by omega
          subst this; simp at eL; omega
      refine ⟨by omega, by omega, p4, by omega⟩
    · simp only [hl, if_false]
      by_cases hb : 100 * a * m < 100 * m * t + lv
      · simp only [hb, if_true]
        have p1 : 100 * m * t = 100 * (m * t) := Int.mul_assoc _ _ _
        have p2 : 100 * a * m = 100 * (a * m) := Int.mul_assoc _ _ _
        have p3 : (100 * a - l) * m = 100 * (a * m) - l * m := by rw [Int.sub_mul, Int.mul_assoc]
        have p4 : t * dk + t * br = 100 * (m * t) := by rw [← Int.mul_add, k6, Int.mul_comm t, Int.mul_assoc]
        have p5 : t * br ≤ a * br := Int.mul_le_mul_of_nonneg_right t1 k5
        have p6 : (100 * a - l) * (hi - x) ≤ (100 * a - l) * m := Int.mul_le_mul_of_nonneg_left (by omega) (by omega)
        have p7 := Int.mul_nonneg (show 0 ≤ 100 * a - l by omega) (show 0 ≤ hi - x by omega)
        have p8 := Int.mul_nonneg (show 0 ≤ 100 * a - l by omega) (show 0 ≤ m by omega)
        have hd : 0 < br := by
          rcases Int.lt_or_le 0 br with e | e
          · exact e
          · have : br = 0 := by omega
            subst this; simp at p4; omega
        refine ⟨by omega, by omega, by omega, by omega⟩
      · simp only [hb, if_false]
        have p1 : 100 * m * t = 100 * (m * t) := Int.mul_assoc _ _ _
        have p2 : 100 * a * m = 100 * (a * m) := Int.mul_assoc _ _ _
        have p3 : 100 * (x - lo) * t = 100 * ((x - lo) * t) := Int.mul_assoc _ _ _
        have p4 := Int.mul_nonneg (show 0 ≤ x - lo by omega) t0
        have p5 : (x - lo) * t ≤ m * t := Int.mul_le_mul_of_nonneg_right (by omega) t0
        have p6 : a * (100 * m) = 100 * (a * m) := by rw [Int.mul_left_comm]
        refine ⟨by omega, by omega, by omega, by omega⟩

/-- The products that a term is made of are small. -/
theorem Rcp.fit.parts {q : Rcp} (h : q.fit) (ha : q.a ≤ 65025) {x : Int} (hx0 : q.c.low ≤ x) (hx1 : x ≤ q.c.high) :
    (0 ≤ q.l * q.c.sat ∧ q.l * q.c.sat ≤ 500000000000) ∧ (0 ≤ q.t * q.dark ∧ q.t * q.dark ≤ 500000000000) ∧ (0 ≤ 100 * q.c.sat * q.t ∧ 100 * q.c.sat * q.t ≤ 500000000000) ∧ (0 ≤ 100 * q.a * q.c.sat ∧ 100 * q.a * q.c.sat ≤ 500000000000) ∧
    (0 ≤ q.l * (x - q.c.low) ∧ q.l * (x - q.c.low) ≤ 500000000000) ∧ (0 ≤ q.a * q.bright ∧ q.a * q.bright ≤ 500000000000) ∧ (0 ≤ (100 * q.a - q.l) * (q.c.high - x) ∧ (100 * q.a - q.l) * (q.c.high - x) ≤ 500000000000) ∧ (0 ≤ 100 * (x - q.c.low) * q.t ∧ 100 * (x - q.c.low) * q.t ≤ 500000000000) := by
  obtain ⟨k0, k1, k2, k3, k4, k5, k6, _, _⟩ := h.lin
  obtain ⟨r0, r1, g0, g1, b0, b1, t0, t1, l0, l1⟩ := h
  have a1 := mul_le (x := q.l) (y := q.c.sat) (a := 6502500) (b := 65025) l0 (by omega) (by omega) (by omega)
  have a2 := mul_le (x := q.t) (y := q.dark) (a := 65025) (b := 6502500) t0 (by omega) (by omega) (by omega)
  have a3 := mul_le (x := 100 * q.c.sat) (y := q.t) (a := 6502500) (b := 65025) (by omega) (by omega) (by omega) (by omega)
  have a4 := mul_le (x := 100 * q.a) (y := q.c.sat) (a := 6502500) (b := 65025) (by omega) (by omega) (by omega) (by omega)
  have a5 := mul_le (x := q.l) (y := x - q.c.low) (a := 6502500) (b := 65025) l0 (by omega) (by omega) (by omega)
  have a6 := mul_le (x := q.a) (y := q.bright) (a := 65025) (b := 6502500) (by omega) (by omega) (by omega) (by omega)
  have a7 := mul_le (x := 100 * q.a - q.l) (y := q.c.high - x) (a := 6502500) (b := 65025) (by omega) (by omega) (by omega) (by omega)
  have a8 := mul_le (x := 100 * (x - q.c.low)) (y := q.t) (a := 6502500) (b := 65025) (by omega) (by omega) (by omega) (by omega)
  omega
end Go.Proofs.Ytnefnnhnjmmebaa
