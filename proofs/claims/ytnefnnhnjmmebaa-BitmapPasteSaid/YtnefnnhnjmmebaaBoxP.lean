/-
  The box around the pixels at which a test holds: plain Lean.
-/
import Derived.Test.YtnefnnhnjmmebaaRectQ
import Derived.Test.YtnefnnhnjmmebaaGrid
namespace Go.Proofs.Ytnefnnhnjmmebaa

def zR : Rc := ⟨0, 0, 0, 0⟩
theorem union_zero_l (b : Rc) : unionR zR b = canonR b := by unfold unionR; rw [show emptyB zR = true from zero_empty]; rfl
theorem canon_zero : canonR zR = zR := by unfold canonR; rw [show emptyB zR = true from zero_empty]; rfl
theorem union_cn {a b : Rc} : canonR (unionR a b) = unionR a b := by
  cases ha : emptyB a with
  | true => have : unionR a b = canonR b := by unfold unionR; rw [ha]; rfl
            rw [this, canon_canon]
  | false =>
    cases hb : emptyB b with
    | true => have : unionR a b = a := by unfold unionR; rw [ha, hb]; rfl
              rw [this, canon_of_full ha]
    | false => exact canon_of_full (union_full ha hb).2
theorem union_zero_r {b : Rc} (h : canonR b = b) : unionR b zR = b := by rw [union_comm, union_zero_l, h]
theorem cn_empty {a : Rc} (h : canonR a = a) (he : emptyB a = true) : a = zR := by rw [← h, canon_of_empty he]; rfl
theorem union_assoc {a b c : Rc} (ha : canonR a = a) (hb : canonR b = b) (hc : canonR c = c) : unionR (unionR a b) c = unionR a (unionR b c) := by
  cases ea : emptyB a with
  | true => obtain rfl := cn_empty ha ea; rw [union_zero_l, union_zero_l, hb, union_cn]
  | false =>
    cases eb : emptyB b with
    | true => obtain rfl := cn_empty hb eb; rw [union_zero_l, union_zero_r ha, hc]
    | false =>
      cases ec : emptyB c with
      | true => obtain rfl := cn_empty hc ec; rw [union_zero_r hb, union_zero_r union_cn]
      | false =>
        obtain ⟨e1, f1⟩ := union_full ea eb
        obtain ⟨e2, f2⟩ := union_full eb ec
        rw [(union_full f1 ec).1, (union_full ea f2).1, e1, e2]
        apply Rc.eq <;> simp only <;> omega
def dotR (x y : Int) : Rc := ⟨x, y, x + 1, y + 1⟩
def stepB (f : Int → Int → Bool) (b : Rc) (p : Int × Int) : Rc := if f p.1 p.2 then unionR b (dotR p.1 p.2) else b
/-- The box around b and the pixels of l at which f holds. -/
def boxL (f : Int → Int → Bool) (b : Rc) (l : List (Int × Int)) : Rc := l.foldl (stepB f) b
def inP (p : Int × Int) : Prop := -4096 ≤ p.1 ∧ p.1 < 4096 ∧ -4096 ≤ p.2 ∧ p.2 < 4096
theorem dot_full {x y : Int} (h : inP (x, y)) : emptyB (dotR x y) = false := by
  obtain ⟨a, b, c, d⟩ := h
  simp only at a b c d
  exact emptyB_false_of a (by show x < x + 1; omega) (by show x + 1 ≤ 4096; omega) c (by show y < y + 1; omega) (by show y + 1 ≤ 4096; omega)
theorem step_cn {f : Int → Int → Bool} {b : Rc} (hb : canonR b = b) (p : Int × Int) : canonR (stepB f b p) = stepB f b p := by
  unfold stepB; split
  · exact union_cn
  · exact hb
theorem box_cn {f : Int → Int → Bool} : ∀ (l : List (Int × Int)) {b : Rc}, canonR b = b → canonR (boxL f b l) = boxL f b l
  | [], _, h => h
  | p :: l, _, h => box_cn l (step_cn h p)
theorem box_snoc (f : Int → Int → Bool) (b : Rc) (l : List (Int × Int)) (p : Int × Int) : boxL f b (l ++ [p]) = stepB f (boxL f b l) p := by
  unfold boxL; rw [List.foldl_append]; rfl
theorem box_append (f : Int → Int → Bool) (b : Rc) (l m : List (Int × Int)) : boxL f b (l ++ m) = boxL f (boxL f b l) m := by
  unfold boxL; rw [List.foldl_append]
theorem box_from {f : Int → Int → Bool} : ∀ (l : List (Int × Int)), (∀ p ∈ l, inP p) → ∀ {b : Rc}, canonR b = b → boxL f b l = unionR b (boxL f zR l)
  | [], _, b, h => (union_zero_r h).symm
  | p :: l, hl, b, h => by
    show boxL f (stepB f b p) l = unionR b (boxL f (stepB f zR p) l)
    have hl' : ∀ q ∈ l, inP q := fun q hq => hl q (List.mem_cons_of_mem _ hq)
    rw [box_from l hl' (step_cn h p), box_from l hl' (step_cn canon_zero p)]
    unfold stepB
    split
    · have hf := canon_of_full (dot_full (hl p List.mem_cons_self))
      rw [union_zero_l, hf, union_assoc h hf (box_cn l canon_zero)]
    · rw [union_zero_l, box_cn l canon_zero]
/-- Two boxes, one behind the other. -/
theorem box_two {f : Int → Int → Bool} {l m : List (Int × Int)} (hm : ∀ p ∈ m, inP p) : boxL f (boxL f zR l) m = unionR (boxL f zR l) (boxL f zR m) := box_from m hm (box_cn l canon_zero)
theorem contains_of {r : Rc} {x y : Int} (h : emptyB r = false) (h0 : r.x0 ≤ x) (h1 : x < r.x1) (h2 : r.y0 ≤ y) (h3 : y < r.y1) : containsB r x y = true := by
  unfold containsB; simp [h, h0, h1, h2, h3]
theorem contains_union_l {a b : Rc} {x y : Int} (h : containsB a x y = true) : containsB (unionR a b) x y = true := by
  obtain ⟨he, h0, h1, h2, h3⟩ := contains_true h
  cases hb : emptyB b with
  | true => have : unionR a b = a := by unfold unionR; rw [he, hb]; rfl
            rw [this]; exact h
  | false =>
    obtain ⟨e, f⟩ := union_full he hb
    refine contains_of f ?_ ?_ ?_ ?_ <;> rw [e] <;> simp only <;> omega
theorem contains_dot {x y : Int} (h : inP (x, y)) : containsB (dotR x y) x y = true :=
  contains_of (dot_full h) (Int.le_refl _) (by show x < x + 1; omega) (Int.le_refl _) (by show y < y + 1; omega)
theorem box_contains {f : Int → Int → Bool} {x y : Int} (hf : f x y = true) : ∀ (l : List (Int × Int)), (∀ p ∈ l, inP p) → (x, y) ∈ l → containsB (boxL f zR l) x y = true
  | [], _, h => absurd h List.not_mem_nil
  | p :: l, hl, h => by
    show containsB (boxL f (stepB f zR p) l) x y = true
    have hl' : ∀ q ∈ l, inP q := fun q hq => hl q (List.mem_cons_of_mem _ hq)
    rw [box_from l hl' (step_cn canon_zero p)]
    rcases List.mem_cons.1 h with rfl | h
    · refine contains_union_l ?_
      have hp := hl _ List.mem_cons_self
      unfold stepB
      rw [if_pos hf, union_zero_l, canon_of_full (dot_full hp)]
      exact contains_dot hp
    · rw [union_comm]
      exact contains_union_l (box_contains hf l hl' h)
/-- The pixels of a rectangle. -/
def ptsR (r : Rc) : List (Int × Int) := pixL (fun x y => (x, y)) r
theorem pts_in {r : Rc} (hc : canonR r = r) : ∀ p ∈ ptsR r, inP p := fun p hp => by
  obtain ⟨x, y, h0, h1, h2, h3, rfl⟩ := pix_mem hp
  have hb := canon_bd r
  rw [hc] at hb
  exact ⟨by show -4096 ≤ x; omega, by show x < 4096; omega, by show -4096 ≤ y; omega, by show y < 4096; omega⟩
theorem pts_mem {r : Rc} {x y : Int} (h : containsB r x y = true) : (x, y) ∈ ptsR r := by
  have := pixL_get (fun x y => (x, y)) h
  exact List.mem_of_getElem? this
theorem box_none {f : Int → Int → Bool} {b : Rc} : ∀ (l : List (Int × Int)), (∀ p ∈ l, f p.1 p.2 = false) → boxL f b l = b
  | [], _ => rfl
  | p :: l, h => by
    show boxL f (stepB f b p) l = b
    have : stepB f b p = b := by unfold stepB; rw [h p List.mem_cons_self]; rfl
    rw [this]
    exact box_none l fun q hq => h q (List.mem_cons_of_mem _ hq)
theorem box_congr {f g : Int → Int → Bool} (l : List (Int × Int)) (h : ∀ p ∈ l, f p.1 p.2 = g p.1 p.2) {b : Rc} : boxL f b l = boxL g b l := by
  induction l generalizing b with
  | nil => rfl
  | cons p l ih =>
    show boxL f (stepB f b p) l = boxL g (stepB g b p) l
    have : stepB f b p = stepB g b p := by unfold stepB; rw [h p List.mem_cons_self]
    rw [this]
    exact ih fun q hq => h q (List.mem_cons_of_mem _ hq)
end Go.Proofs.Ytnefnnhnjmmebaa
