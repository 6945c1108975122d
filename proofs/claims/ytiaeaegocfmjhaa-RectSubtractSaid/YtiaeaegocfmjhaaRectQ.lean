/-
  Plain facts on rectangles: the intersection lies within both, both lie within the union; outsetting.
-/
import Derived.Test.YtiaeaegocfmjhaaRectP
namespace Go.Proofs.Ytiaeaegocfmjhaa

theorem within_of {x y : Rc} (h : emptyB x = false → emptyB y = false ∧ y.x0 ≤ x.x0 ∧ x.x1 ≤ y.x1 ∧ y.y0 ≤ x.y0 ∧ x.y1 ≤ y.y1) : withinB x y = true := by
  rw [← rwithin_eq]
  unfold rwithinB
  cases hx : emptyB x with
  | true => rfl
  | false =>
    obtain ⟨h1, h2, h3, h4, h5⟩ := h hx
    simp [h1, h2, h3, h4, h5]
theorem canon_full {r : Rc} (h : emptyB (canonR r) = false) : emptyB r = false := by
  cases hr : emptyB r with
  | false => rfl
  | true => rw [canon_of_empty hr, zero_empty] at h; cases h
theorem inter_full {a b : Rc} (h : emptyB (interR a b) = false) : emptyB a = false ∧ emptyB b = false ∧ interR a b = ⟨max a.x0 b.x0, max a.y0 b.y0, min a.x1 b.x1, min a.y1 b.y1⟩ := by
  rw [← rinter_eq] at h ⊢
  unfold rinterR at h ⊢
  cases ha : emptyB a with
  | true => rw [ha] at h; simp [zero_empty] at h
  | false =>
    cases hb : emptyB b with
    | true => rw [ha, hb] at h; simp [zero_empty] at h
    | false =>
      rw [ha, hb] at h
      simp only [Bool.or_self, Bool.false_eq_true, if_false] at h ⊢
      exact ⟨trivial, trivial, canon_of_full (canon_full h)⟩
theorem within_inter_l (a b : Rc) : withinB (interR a b) a = true := within_of fun h => by
  obtain ⟨ha, _, e⟩ := inter_full h
  rw [e]; simp only; exact ⟨ha, by omega, by omega, by omega, by omega⟩
theorem within_inter_r (a b : Rc) : withinB (interR a b) b = true := within_of fun h => by
  obtain ⟨_, hb, e⟩ := inter_full h
  rw [e]; simp only; exact ⟨hb, by omega, by omega, by omega, by omega⟩
theorem inter_comm (a b : Rc) : interR a b = interR b a := by
  unfold interR
  rw [Int.max_comm (canonR a).x0, Int.max_comm (canonR a).y0, Int.min_comm (canonR a).x1, Int.min_comm (canonR a).y1]
theorem union_full {a b : Rc} (ha : emptyB a = false) (hb : emptyB b = false) : unionR a b = ⟨min a.x0 b.x0, min a.y0 b.y0, max a.x1 b.x1, max a.y1 b.y1⟩ ∧ emptyB (unionR a b) = false := by
  have e : unionR a b = ⟨min a.x0 b.x0, min a.y0 b.y0, max a.x1 b.x1, max a.y1 b.y1⟩ := by unfold unionR; rw [ha, hb]; rfl
  refine ⟨e, ?_⟩
  have h1 := emptyB_false ha
  have h2 := emptyB_false hb
  rw [e]
  exact emptyB_false_of (by simp only; omega) (by simp only; omega) (by simp only; omega) (by simp only; omega) (by simp only; omega) (by simp only; omega)
theorem union_comm (a b : Rc) : unionR a b = unionR b a := by
  unfold unionR
  cases ha : emptyB a with
  | true =>
    cases hb : emptyB b with
    | true => simp only [if_true]; rw [canon_of_empty ha, canon_of_empty hb]
    | false => simp only [if_true, Bool.false_eq_true, if_false]; rw [canon_of_full hb]
  | false =>
    cases hb : emptyB b with
    | true => simp only [if_true, Bool.false_eq_true, if_false]; rw [canon_of_full ha]
    | false =>
      simp only [Bool.false_eq_true, if_false]
      rw [Int.min_comm a.x0, Int.min_comm a.y0, Int.max_comm a.x1, Int.max_comm a.y1]
theorem within_union_l (a b : Rc) : withinB a (unionR a b) = true := within_of fun ha => by
  cases hb : emptyB b with
  | true =>
    have e : unionR a b = a := by unfold unionR; rw [ha, hb]; rfl
    rw [e]; exact ⟨ha, by omega, by omega, by omega, by omega⟩
  | false =>
    obtain ⟨e, he⟩ := union_full ha hb
    refine ⟨he, ?_⟩
    rw [e]; simp only; exact ⟨by omega, by omega, by omega, by omega⟩
theorem within_union_r (a b : Rc) : withinB b (unionR a b) = true := by rw [union_comm]; exact within_union_l b a
theorem outset_pos {a : Rc} {m : Int} (ha : emptyB a = false) (h0 : 0 ≤ m) (h1 : m ≤ 4095) : outsetR a m = ⟨max (a.x0 - m) (-4096), max (a.y0 - m) (-4096), min (a.x1 + m) 4096, min (a.y1 + m) 4096⟩ ∧ emptyB (outsetR a m) = false := by
  have h := emptyB_false ha
  have hf : farN m = m := by unfold farN; omega
  have hfull : emptyB ⟨max (a.x0 - m) (-4096), max (a.y0 - m) (-4096), min (a.x1 + m) 4096, min (a.y1 + m) 4096⟩ = false :=
    emptyB_false_of (by simp only; omega) (by simp only; omega) (by simp only; omega) (by simp only; omega) (by simp only; omega) (by simp only; omega)
  have e : outsetR a m = ⟨max (a.x0 - m) (-4096), max (a.y0 - m) (-4096), min (a.x1 + m) 4096, min (a.y1 + m) 4096⟩ := by
    unfold outsetR; rw [ha, hf]; simp only [Bool.false_eq_true, if_false]; exact canon_of_full hfull
  exact ⟨e, by rw [e]; exact hfull⟩
theorem outset_neg {a : Rc} {m : Int} (h0 : 0 ≤ m) (h1 : m ≤ 4095) (h : emptyB (outsetR a (-m)) = false) : emptyB a = false ∧ outsetR a (-m) = ⟨max (a.x0 + m) (-4096), max (a.y0 + m) (-4096), min (a.x1 - m) 4096, min (a.y1 - m) 4096⟩ := by
  unfold outsetR at h ⊢
  cases ha : emptyB a with
  | true => rw [ha] at h; simp [zero_empty] at h
  | false =>
    rw [ha] at h
    have hf : farN (-m) = -m := by unfold farN; omega
    rw [hf] at h ⊢
    simp only [Bool.false_eq_true, if_false] at h ⊢
    rw [canon_of_full (canon_full h)]
    exact ⟨trivial, Rc.eq (by simp only; omega) (by simp only; omega) (by simp only; omega) (by simp only; omega)⟩
theorem within_outset {a : Rc} {m : Int} (h0 : 0 ≤ m) (h1 : m ≤ 4095) : withinB a (outsetR a m) = true := within_of fun ha => by
  obtain ⟨e, he⟩ := outset_pos ha h0 h1
  have h := emptyB_false ha
  refine ⟨he, ?_⟩
  rw [e]; simp only; exact ⟨by omega, by omega, by omega, by omega⟩
theorem within_back {a : Rc} {m : Int} (h0 : 0 ≤ m) (h1 : m ≤ 4095) : withinB (outsetR (outsetR a m) (-m)) a = true := within_of fun hg => by
  obtain ⟨hf, e⟩ := outset_neg h0 h1 hg
  cases ha : emptyB a with
  | true => unfold outsetR at hf; rw [ha] at hf; simp [zero_empty] at hf
  | false =>
    obtain ⟨e2, _⟩ := outset_pos ha h0 h1
    have h := emptyB_false ha
    refine ⟨rfl, ?_⟩
    rw [e, e2]; simp only; exact ⟨by omega, by omega, by omega, by omega⟩
theorem within_inset {a : Rc} {m : Int} (h0 : 0 ≤ m) (h1 : m ≤ 4095) : withinB (outsetR a (-m)) a = true := within_of fun hg => by
  obtain ⟨ha, e⟩ := outset_neg h0 h1 hg
  have h := emptyB_false ha
  refine ⟨ha, ?_⟩
  rw [e]; simp only; exact ⟨by omega, by omega, by omega, by omega⟩
end Go.Proofs.Ytiaeaegocfmjhaa
