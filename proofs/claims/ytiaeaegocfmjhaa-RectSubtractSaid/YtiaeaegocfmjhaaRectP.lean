/-
  Rectangles in plain Lean: what the functions of package rect compute. No program here.
-/
import Derived.WalkKit
import Derived.Lib.Hide
namespace Go.Proofs.Ytiaeaegocfmjhaa

/-- A rectangle. -/
structure Rc where
  x0 : Int
  y0 : Int
  x1 : Int
  y1 : Int

theorem Rc.eq {p q : Rc} (h0 : p.x0 = q.x0) (h1 : p.y0 = q.y0) (h2 : p.x1 = q.x1) (h3 : p.y1 = q.y1) : p = q := by
  cases p; cases q; simp_all

def mayB (n : Int) : Bool := decide (-4096 ≤ n ∧ n ≤ 4096)
def validB (r : Rc) : Bool := mayB r.x0 && mayB r.y0 && mayB r.x1 && mayB r.y1
def emptyB (r : Rc) : Bool := !validB r || decide (r.x1 ≤ r.x0) || decide (r.y1 ≤ r.y0)
def canonR (r : Rc) : Rc := if emptyB r then ⟨0, 0, 0, 0⟩ else r
def areaR (r : Rc) : Int := ((canonR r).x1 - (canonR r).x0) * ((canonR r).y1 - (canonR r).y0)
def containsB (r : Rc) (x y : Int) : Bool := !emptyB r && decide (r.x0 ≤ x) && decide (x < r.x1) && decide (r.y0 ≤ y) && decide (y < r.y1)
def pixR (r : Rc) (x y : Int) : Int := if containsB r x y then (y - r.y0) * (r.x1 - r.x0) + x - r.x0 else -1
def interR (a b : Rc) : Rc := canonR ⟨max (canonR a).x0 (canonR b).x0, max (canonR a).y0 (canonR b).y0, min (canonR a).x1 (canonR b).x1, min (canonR a).y1 (canonR b).y1⟩
def eqB (p q : Rc) : Bool := p.x0 == q.x0 && p.y0 == q.y0 && p.x1 == q.x1 && p.y1 == q.y1
def withinB (a b : Rc) : Bool := eqB (interR a b) (canonR a)
def unionR (a b : Rc) : Rc := if emptyB a then canonR b else if emptyB b then a else ⟨min a.x0 b.x0, min a.y0 b.y0, max a.x1 b.x1, max a.y1 b.y1⟩
def farN (n : Int) : Int := min (max n (-16384)) 16384
def outsetR (r : Rc) (n : Int) : Rc := if emptyB r then ⟨0, 0, 0, 0⟩ else canonR ⟨max (r.x0 - farN n) (-4096), max (r.y0 - farN n) (-4096), min (r.x1 + farN n) 4096, min (r.y1 + farN n) 4096⟩

theorem mayB_true {n : Int} (h : mayB n = true) : -4096 ≤ n ∧ n ≤ 4096 := by simpa [mayB] using h
theorem mayB_of {n : Int} (h0 : -4096 ≤ n) (h1 : n ≤ 4096) : mayB n = true := by simp [mayB, h0, h1]
theorem emptyB_false {r : Rc} (h : emptyB r = false) : -4096 ≤ r.x0 ∧ r.x0 < r.x1 ∧ r.x1 ≤ 4096 ∧ -4096 ≤ r.y0 ∧ r.y0 < r.y1 ∧ r.y1 ≤ 4096 := by
  simp [emptyB, validB] at h
  have h0 := mayB_true h.1.1.1.1.1
  have h1 := mayB_true h.1.1.1.1.2
  have h2 := mayB_true h.1.1.1.2
  have h3 := mayB_true h.1.1.2
  omega
theorem emptyB_false_of {r : Rc} (h0 : -4096 ≤ r.x0) (h1 : r.x0 < r.x1) (h2 : r.x1 ≤ 4096) (h3 : -4096 ≤ r.y0) (h4 : r.y0 < r.y1) (h5 : r.y1 ≤ 4096) : emptyB r = false := by
  simp [emptyB, validB, mayB_of (n := r.x0) (by omega) (by omega), mayB_of (n := r.y0) (by omega) (by omega), mayB_of (n := r.x1) (by omega) (by omega), mayB_of (n := r.y1) (by omega) (by omega)]
  omega
theorem emptyB_true_of {r : Rc} (h : ¬ (-4096 ≤ r.x0 ∧ r.x0 < r.x1 ∧ r.x1 ≤ 4096 ∧ -4096 ≤ r.y0 ∧ r.y0 < r.y1 ∧ r.y1 ≤ 4096)) : emptyB r = true := by
  cases he : emptyB r with
  | true => rfl
  | false => exact absurd (emptyB_false he) h
theorem emptyB_iff (r : Rc) : emptyB r = false ↔ (-4096 ≤ r.x0 ∧ r.x0 < r.x1 ∧ r.x1 ≤ 4096 ∧ -4096 ≤ r.y0 ∧ r.y0 < r.y1 ∧ r.y1 ≤ 4096) :=
  ⟨emptyB_false, fun ⟨a, b, c, d, e, f⟩ => emptyB_false_of a b c d e f⟩
theorem canon_bd (r : Rc) : (-4096 ≤ (canonR r).x0 ∧ (canonR r).x1 ≤ 4096 ∧ (canonR r).x0 ≤ (canonR r).x1) ∧ (-4096 ≤ (canonR r).y0 ∧ (canonR r).y1 ≤ 4096 ∧ (canonR r).y0 ≤ (canonR r).y1) := by
  unfold canonR
  split
  · simp
  · rename_i h
    have := emptyB_false (r := r) (by simpa using h)
    omega
theorem mul_bd {a b : Int} (ha : 0 ≤ a) (hb : 0 ≤ b) (ha' : a ≤ 8192) (hb' : b ≤ 8192) : 0 ≤ a * b ∧ a * b ≤ 67108864 := by
  have h1 := Int.mul_nonneg ha hb
  have h2 : a * b ≤ 8192 * b := Int.mul_le_mul_of_nonneg_right ha' hb
  omega
theorem contains_true {r : Rc} {x y : Int} (h : containsB r x y = true) : emptyB r = false ∧ r.x0 ≤ x ∧ x < r.x1 ∧ r.y0 ≤ y ∧ y < r.y1 := by
  simp [containsB] at h
  exact ⟨h.1.1.1.1, h.1.1.1.2, h.1.1.2, h.1.2, h.2⟩
theorem canon_of_empty {r : Rc} (h : emptyB r = true) : canonR r = ⟨0, 0, 0, 0⟩ := by simp [canonR, h]
theorem canon_of_full {r : Rc} (h : emptyB r = false) : canonR r = r := by simp [canonR, h]
theorem contains_canon (r : Rc) (x y : Int) : containsB r x y = (decide ((canonR r).x0 ≤ x) && decide (x < (canonR r).x1) && decide ((canonR r).y0 ≤ y) && decide (y < (canonR r).y1)) := by
  cases he : emptyB r with
  | true =>
    rw [canon_of_empty he]
    simp only [containsB, he]
    simp
    try omega
  | false =>
    rw [canon_of_full he]
    simp only [containsB, he]
    try simp
def fullP (r : Rc) : Prop := -4096 ≤ r.x0 ∧ r.x0 < r.x1 ∧ r.x1 ≤ 4096 ∧ -4096 ≤ r.y0 ∧ r.y0 < r.y1 ∧ r.y1 ≤ 4096
theorem canon_eq {p q : Rc} (h : fullP p ↔ fullP q) (h2 : fullP p → p = q) : canonR p = canonR q := by
  cases hp : emptyB p with
  | true =>
    have hq : emptyB q = true := by
      cases hq : emptyB q with
      | true => rfl
      | false => have := (emptyB_iff p).2 (h.2 ((emptyB_iff q).1 hq)); rw [hp] at this; cases this
    rw [canon_of_empty hp, canon_of_empty hq]
  | false => rw [h2 ((emptyB_iff p).1 hp)]
def clampI (n lo hi : Int) : Int := max lo (min hi n)
def routsetR (r : Rc) (n : Int) : Rc := if emptyB r then ⟨0, 0, 0, 0⟩ else canonR ⟨clampI (r.x0 - clampI n (-12288) 12288) (-4096) 4096, clampI (r.y0 - clampI n (-12288) 12288) (-4096) 4096, clampI (r.x1 + clampI n (-12288) 12288) (-4096) 4096, clampI (r.y1 + clampI n (-12288) 12288) (-4096) 4096⟩
theorem routset_eq (r : Rc) (n : Int) : routsetR r n = outsetR r n := by
  unfold routsetR outsetR
  cases he : emptyB r with
  | true => rfl
  | false =>
    obtain ⟨k1, k2, k3, k4, k5, k6⟩ := emptyB_false he
    simp only [Bool.false_eq_true, if_false]
    refine canon_eq ?_ ?_
    · unfold fullP clampI farN; simp only; omega
    · unfold fullP clampI farN; simp only; intro h; exact Rc.eq (by simp only; omega) (by simp only; omega) (by simp only; omega) (by simp only; omega)
def rinterR (a b : Rc) : Rc := if emptyB a || emptyB b then ⟨0, 0, 0, 0⟩ else canonR ⟨max a.x0 b.x0, max a.y0 b.y0, min a.x1 b.x1, min a.y1 b.y1⟩
theorem zero_empty : emptyB ⟨0, 0, 0, 0⟩ = true := by decide
theorem rinter_eq (a b : Rc) : rinterR a b = interR a b := by
  unfold rinterR interR
  cases ha : emptyB a with
  | true =>
    rw [canon_of_empty ha]
    simp only [Bool.true_or, if_true]
    have hbd := canon_bd b
    rw [canon_of_empty (emptyB_true_of _)]
    simp only
    omega
  | false =>
    cases hb : emptyB b with
    | true =>
      rw [canon_of_empty hb, canon_of_full ha]
      simp only [Bool.or_true, if_true]
      have hbd := emptyB_false ha
      rw [canon_of_empty (emptyB_true_of _)]
      simp only
      omega
    | false => rw [canon_of_full ha, canon_of_full hb]; rfl
def rwithinB (a b : Rc) : Bool := if emptyB a then true else !emptyB b && decide (b.x0 ≤ a.x0) && decide (a.x1 ≤ b.x1) && decide (b.y0 ≤ a.y0) && decide (a.y1 ≤ b.y1)
theorem eqB_iff (p q : Rc) : eqB p q = true ↔ p = q := by
  cases p; cases q; simp [eqB, and_assoc]
theorem eqB_refl (p : Rc) : eqB p p = true := (eqB_iff p p).2 rfl
theorem rwithin_eq (a b : Rc) : rwithinB a b = withinB a b := by
  unfold withinB rwithinB
  rw [← rinter_eq]
  unfold rinterR
  cases ha : emptyB a with
  | true => rw [canon_of_empty ha]; simp [eqB]
  | false =>
    have h1 := emptyB_false ha
    cases hb : emptyB b with
    | true =>
      rw [canon_of_full ha]
      simp only [Bool.false_eq_true, if_false, Bool.not_true, Bool.false_and, Bool.or_true, if_true]
      symm
      rw [Bool.eq_false_iff]
      intro h
      have := (eqB_iff _ _).1 h
      rw [← this] at h1
      simp at h1
    | false =>
      have h2 := emptyB_false hb
      rw [canon_of_full ha]
      simp only [Bool.false_eq_true, if_false, Bool.not_false, Bool.true_and, Bool.or_false]
      rw [Bool.eq_iff_iff, eqB_iff]
      constructor
      · intro h
        simp at h
        have e : (⟨max a.x0 b.x0, max a.y0 b.y0, min a.x1 b.x1, min a.y1 b.y1⟩ : Rc) = a := Rc.eq (by simp only; omega) (by simp only; omega) (by simp only; omega) (by simp only; omega)
        rw [e, canon_of_full ha]
      · intro h
        cases he : emptyB ⟨max a.x0 b.x0, max a.y0 b.y0, min a.x1 b.x1, min a.y1 b.y1⟩ with
        | true => rw [canon_of_empty he] at h; rw [← h] at h1; simp at h1
        | false =>
          rw [canon_of_full he] at h
          have e0 := congrArg Rc.x0 h
          have e1 := congrArg Rc.y0 h
          have e2 := congrArg Rc.x1 h
          have e3 := congrArg Rc.y1 h
          simp only at e0 e1 e2 e3
          simp
          omega
end Go.Proofs.Ytiaeaegocfmjhaa
