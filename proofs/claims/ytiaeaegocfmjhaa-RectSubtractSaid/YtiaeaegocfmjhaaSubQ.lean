/-
  Plain laws: the parts that Subtract leaves, and the tiles, as areas and as sets of pixels. No program here.
-/
import Derived.Test.YtiaeaegocfmjhaaRTiles
import Derived.Test.YtiaeaegocfmjhaaRectQ
namespace Go.Proofs.Ytiaeaegocfmjhaa
set_option linter.unusedVariables false
set_option linter.unusedSimpArgs false

theorem contains_iff (r : Rc) (x y : Int) : containsB r x y = true ↔ fullP r ∧ r.x0 ≤ x ∧ x < r.x1 ∧ r.y0 ≤ y ∧ y < r.y1 := by
  unfold containsB fullP
  rw [← emptyB_iff]
  simp only [Bool.and_eq_true, Bool.not_eq_true', decide_eq_true_eq]
  constructor
  · rintro ⟨⟨⟨⟨a, b⟩, c⟩, d⟩, e⟩; exact ⟨a, b, c, d, e⟩
  · rintro ⟨a, b, c, d, e⟩; exact ⟨⟨⟨⟨a, b⟩, c⟩, d⟩, e⟩
theorem inter_of {a b : Rc} (ha : emptyB a = false) (hb : emptyB b = false) : interR a b = canonR ⟨max a.x0 b.x0, max a.y0 b.y0, min a.x1 b.x1, min a.y1 b.y1⟩ := by
  unfold interR
  rw [canon_of_full ha, canon_of_full hb]
theorem contains_inter (a b : Rc) (x y : Int) : containsB (interR a b) x y = (containsB a x y && containsB b x y) := by
  rw [Bool.eq_iff_iff, Bool.and_eq_true, contains_iff, contains_iff, contains_iff]
  constructor
  · rintro ⟨h, h1, h2, h3, h4⟩
    obtain ⟨ha, hb, e⟩ := inter_full ((emptyB_iff _).2 h)
    rw [e] at h1 h2 h3 h4
    dsimp only at h1 h2 h3 h4
    exact ⟨⟨(emptyB_iff _).1 ha, by omega, by omega, by omega, by omega⟩, (emptyB_iff _).1 hb, by omega, by omega, by omega, by omega⟩
  · rintro ⟨⟨ha, a1, a2, a3, a4⟩, hb, b1, b2, b3, b4⟩
    have e := inter_of ((emptyB_iff _).2 ha) ((emptyB_iff _).2 hb)
    obtain ⟨f1, f2, f3, f4, f5, f6⟩ := ha
    obtain ⟨k1, k2, k3, k4, k5, k6⟩ := hb
    have hf : emptyB ⟨max a.x0 b.x0, max a.y0 b.y0, min a.x1 b.x1, min a.y1 b.y1⟩ = false := by
      rw [emptyB_iff]; dsimp only; omega
    rw [canon_of_full hf] at e
    rw [e]
    exact ⟨(emptyB_iff _).1 hf, by dsimp only; omega, by dsimp only; omega, by dsimp only; omega, by dsimp only; omega⟩
theorem sub_len (a b : Rc) : (subL a b).length ≤ 4 := by
  unfold subL
  refine Nat.le_trans (List.length_filter_le _ _) ?_
  unfold partsL
  split <;> simp
theorem count_full (l : List Rc) (x y : Int) : (l.filter fullB).countP (fun r => containsB r x y) = l.countP (fun r => containsB r x y) := by
  rw [List.countP_filter]
  refine List.countP_congr fun r _ => ?_
  show (containsB r x y && fullB r) = true ↔ _
  unfold containsB fullB
  cases emptyB r <;> simp
theorem contains_of_canon (r : Rc) (x y : Int) : containsB (canonR r) x y = containsB r x y := by
  cases he : emptyB r with
  | true => rw [canon_of_empty he]; unfold containsB; rw [he, zero_empty]; rfl
  | false => rw [canon_of_full he]
/-- A pixel of a that is not in b lies in exactly one part, every other pixel in none. -/
theorem sub_count (a b : Rc) (x y : Int) : (subL a b).countP (fun r => containsB r x y) = if (containsB a x y && !containsB b x y) = true then 1 else 0 := by
  unfold subL
  rw [count_full, inter_canon]
  have hi := contains_inter a b x y
  rw [← contains_of_canon a] at hi ⊢
  unfold partsL
  cases hq : emptyB (interR a b) with
  | true =>
    have h0 : containsB (interR a b) x y = false := by unfold containsB; rw [hq]; rfl
    rw [h0] at hi
    simp only [if_true, List.countP_cons, List.countP_nil]
    revert hi
    cases containsB (canonR a) x y <;> cases containsB b x y <;> simp
  | false =>
    obtain ⟨ha, hb, e⟩ := inter_full hq
    have hf := (emptyB_iff _).1 hq
    have hfa := (emptyB_iff _).1 ha
    rw [canon_of_full ha] at hi ⊢
    obtain ⟨p, hp⟩ : ∃ p, interR a b = p := ⟨_, rfl⟩
    rw [hp] at hi hf e ⊢
    have q1 : a.x0 ≤ p.x0 ∧ p.x1 ≤ a.x1 ∧ a.y0 ≤ p.y0 ∧ p.y1 ≤ a.y1 := by rw [e]; dsimp only; omega
    obtain ⟨f1, f2, f3, f4, f5, f6⟩ := hf
    have c0 : containsB p x y = true ↔ p.x0 ≤ x ∧ x < p.x1 ∧ p.y0 ≤ y ∧ y < p.y1 := by rw [contains_iff]; unfold fullP; omega
    have c1 : containsB a x y = true ↔ a.x0 ≤ x ∧ x < a.x1 ∧ a.y0 ≤ y ∧ y < a.y1 := by rw [contains_iff]; unfold fullP; omega
    have d1 : containsB ⟨a.x0, a.y0, a.x1, p.y0⟩ x y = true ↔ a.x0 ≤ x ∧ x < a.x1 ∧ a.y0 ≤ y ∧ y < p.y0 := by rw [contains_iff]; unfold fullP; dsimp only; omega
    have d2 : containsB ⟨a.x0, p.y0, p.x0, p.y1⟩ x y = true ↔ a.x0 ≤ x ∧ x < p.x0 ∧ p.y0 ≤ y ∧ y < p.y1 := by rw [contains_iff]; unfold fullP; dsimp only; omega
    have d3 : containsB ⟨p.x1, p.y0, a.x1, p.y1⟩ x y = true ↔ p.x1 ≤ x ∧ x < a.x1 ∧ p.y0 ≤ y ∧ y < p.y1 := by rw [contains_iff]; unfold fullP; dsimp only; omega
    have d4 : containsB ⟨a.x0, p.y1, a.x1, a.y1⟩ x y = true ↔ a.x0 ≤ x ∧ x < a.x1 ∧ p.y1 ≤ y ∧ y < a.y1 := by rw [contains_iff]; unfold fullP; dsimp only; omega
    have hR : (containsB a x y && !containsB b x y) = true ↔ (a.x0 ≤ x ∧ x < a.x1 ∧ a.y0 ≤ y ∧ y < a.y1) ∧ ¬ (p.x0 ≤ x ∧ x < p.x1 ∧ p.y0 ≤ y ∧ y < p.y1) := by
      rw [← c0, ← c1, hi]
      cases containsB a x y <;> cases containsB b x y <;> simp
    simp only [Bool.false_eq_true, if_false, List.countP_cons, List.countP_nil, d1, d2, d3, d4, hR]
    split <;> split <;> split <;> split <;> split <;> omega
theorem area_empty {r : Rc} (h : emptyB r = true) : areaR r = 0 := by unfold areaR; rw [canon_of_empty h]; rfl
theorem area_box {x0 y0 x1 y1 : Int} (hx : -4096 ≤ x0 ∧ x0 ≤ x1 ∧ x1 ≤ 4096) (hy : -4096 ≤ y0 ∧ y0 ≤ y1 ∧ y1 ≤ 4096) : areaR ⟨x0, y0, x1, y1⟩ = (x1 - x0) * (y1 - y0) := by
  cases he : emptyB ⟨x0, y0, x1, y1⟩ with
  | false => unfold areaR; rw [canon_of_full he]
  | true =>
    rw [area_empty he]
    by_cases h1 : x0 = x1
    · rw [h1]; simp
    · by_cases h2 : y0 = y1
      · rw [h2]; simp
      · have : emptyB ⟨x0, y0, x1, y1⟩ = false := by rw [emptyB_iff]; dsimp only; omega
        rw [this] at he; cases he
theorem area_bd (r : Rc) : 0 ≤ areaR r ∧ areaR r ≤ 67108864 := by
  have h := canon_bd r
  exact mul_bd (by omega) (by omega) (by omega) (by omega)
theorem sum_full (l : List Rc) : ((l.filter fullB).map areaR).sum = (l.map areaR).sum := by
  induction l with
  | nil => rfl
  | cons r l ih =>
    rw [List.filter_cons]
    cases he : emptyB r with
    | true => rw [if_neg (by simp [fullB, he]), ih, List.map_cons, List.sum_cons, area_empty he]; omega
    | false => rw [if_pos (by simp [fullB, he]), List.map_cons, List.sum_cons, ih, List.map_cons, List.sum_cons]
theorem area_canon (r : Rc) : areaR (canonR r) = areaR r := by unfold areaR; rw [canon_idem]
/-- The areas add up. -/
theorem sub_area (a b : Rc) : areaR (interR a b) + ((subL a b).map areaR).sum = areaR a := by
  unfold subL
  rw [sum_full, inter_canon]
  unfold partsL
  cases hq : emptyB (interR a b) with
  | true =>
    rw [area_empty hq]
    simp [area_canon]
  | false =>
    obtain ⟨ha, hb, e⟩ := inter_full hq
    have hf := (emptyB_iff _).1 hq
    have hfa := (emptyB_iff _).1 ha
    rw [canon_of_full ha]
    obtain ⟨p, hp⟩ : ∃ p, interR a b = p := ⟨_, rfl⟩
    rw [hp] at hf e ⊢
    have q1 : a.x0 ≤ p.x0 ∧ p.x1 ≤ a.x1 ∧ a.y0 ≤ p.y0 ∧ p.y1 ≤ a.y1 := by rw [e]; dsimp only; omega
    obtain ⟨f1, f2, f3, f4, f5, f6⟩ := hf
    have e0 : areaR p = (p.x1 - p.x0) * (p.y1 - p.y0) := area_box (x0 := p.x0) (y0 := p.y0) (x1 := p.x1) (y1 := p.y1) (by omega) (by omega)
    have e1 : areaR a = (a.x1 - a.x0) * (a.y1 - a.y0) := area_box (x0 := a.x0) (y0 := a.y0) (x1 := a.x1) (y1 := a.y1) (by omega) (by omega)
    simp only [Bool.false_eq_true, if_false, List.map_cons, List.map_nil, List.sum_cons, List.sum_nil]
    rw [e0, e1, area_box (by omega) (by omega), area_box (by omega) (by omega), area_box (by omega) (by omega), area_box (by omega) (by omega)]
    simp only [Int.sub_mul, Int.mul_sub]
    omega
/-- A pixel of a lies in exactly one tile, if there are tiles at all. -/
theorem tiles_one {a : Rc} (ha : emptyB a = false) (w h x y : Int) : (tilesL a w h).countP (fun r => containsB r x y) = if (containsB a x y && (decide (0 < w) && decide (0 < h))) = true then 1 else 0 := by
  unfold tilesL
  rw [canon_of_full ha]
  have hf := (emptyB_iff _).1 ha
  by_cases hw : 1 ≤ w ∧ 1 ≤ h
  · rw [if_pos hw, tiles_count hf hw.1 hw.2]
    have h1 : (containsB a x y && (decide (0 < w) && decide (0 < h))) = true ↔ (a.x0 ≤ x ∧ x < a.x1) ∧ a.y0 ≤ y ∧ y < a.y1 := by
      simp only [Bool.and_eq_true, decide_eq_true_eq, contains_iff]
      constructor
      · rintro ⟨⟨_, h1, h2, h3, h4⟩, _⟩; exact ⟨⟨h1, h2⟩, h3, h4⟩
      · rintro ⟨⟨h1, h2⟩, h3, h4⟩; exact ⟨⟨hf, h1, h2, h3, h4⟩, by omega, by omega⟩
    simp only [h1]
  · rw [if_neg hw]
    have h1 : (decide (0 < w) && decide (0 < h)) = false := by
      rw [Bool.and_eq_false_iff, decide_eq_false_iff_not, decide_eq_false_iff_not]; omega
    rw [h1]
    simp
theorem tiles_few {a : Rc} (h2 : areaR a ≤ 200) (w h : Int) : (tilesL a w h).length ≤ 200 := by
  unfold tilesL
  split
  · rename_i hwh
    have hb := canon_bd a
    have h1 := cnt_max (a := (canonR a).x0) (b := (canonR a).x1) hwh.1
    have h3 := cnt_max (a := (canonR a).y0) (b := (canonR a).y1) hwh.2
    show (rowsT (canonR a) w h (startP (canonR a).y0 (canonR a).y1 h)).length ≤ _
    rw [rowsT_len, startP_len]
    unfold areaR at h2
    have h4 : cntP (canonR a).y0 (canonR a).y1 h * cntP (canonR a).x0 (canonR a).x1 w ≤ ((canonR a).y1 - (canonR a).y0).toNat * ((canonR a).x1 - (canonR a).x0).toNat := Nat.mul_le_mul (by omega) (by omega)
    have h5 : ((((canonR a).y1 - (canonR a).y0).toNat * ((canonR a).x1 - (canonR a).x0).toNat : Nat) : Int) = ((canonR a).x1 - (canonR a).x0) * ((canonR a).y1 - (canonR a).y0) := by
      rw [Int.natCast_mul, Int.toNat_of_nonneg (by omega), Int.toNat_of_nonneg (by omega), Int.mul_comm]
    omega
  · simp
end Go.Proofs.Ytiaeaegocfmjhaa
