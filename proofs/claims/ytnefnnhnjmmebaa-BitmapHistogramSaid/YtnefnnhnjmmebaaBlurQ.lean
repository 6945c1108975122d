/-
  Blurred bitmaps in plain Lean: the reference's sums over a square that reaches beyond the bitmap, and one pixel spread over a square. No program here.
-/
import Derived.Test.YtnefnnhnjmmebaaBlurP
namespace Go.Proofs.Ytnefnnhnjmmebaa
set_option linter.unusedVariables false
set_option linter.unusedSimpArgs false

theorem rowS_zero {f : Nat → Int} {n : Nat} (h : ∀ i, i < n → f i = 0) : rowS f n = 0 := by
  rw [rowS_congr h, rowS_const]; simp
/-- A window of values that are 0 outside: only its part inside counts. -/
theorem win_pad (f : Int → Int) {wd X n : Nat} (hX : X < wd) (hz : ∀ i : Int, i < 0 ∨ (wd : Int) ≤ i → f i = 0) :
    rowS (fun i => f ((X : Int) - n + i)) (2 * n + 1) = rowS (fun i => f ((winA X n + i : Nat) : Int)) (winN wd X n) := by
  have e : 2 * n + 1 = (n - X) + (winN wd X n + (2 * n + 1 - (n - X) - winN wd X n)) := by unfold winN; omega
  rw [e, rowS_add, rowS_add]
  have h1 : rowS (fun i => f ((X : Int) - n + i)) (n - X) = 0 := rowS_zero fun i hi => hz _ (by omega)
  have h2 : rowS (fun i => f ((X : Int) - n + ((n - X + (winN wd X n + i) : Nat) : Int))) (2 * n + 1 - (n - X) - winN wd X n) = 0 :=
    rowS_zero fun i hi => hz _ (by unfold winN at *; omega)
  have h3 : rowS (fun i => f ((X : Int) - n + ((n - X + i : Nat) : Int))) (winN wd X n) = rowS (fun i => f ((winA X n + i : Nat) : Int)) (winN wd X n) :=
    rowS_congr fun i hi => congrArg f (by unfold winA; omega)
  rw [h1, h2, h3]; omega
/-- The reference's sum over the square around X, Y. -/
def sqS (F : Int → Int → Int) (X Y n : Nat) : Int := rowS (fun j => rowS (fun i => F ((X : Int) - n + i) ((Y : Int) - n + j)) (2 * n + 1)) (2 * n + 1)
theorem sq_win (F : Int → Int → Int) {wd ht X Y n : Nat} (hX : X < wd) (hY : Y < ht) (hz : ∀ i j : Int, i < 0 ∨ (wd : Int) ≤ i ∨ j < 0 ∨ (ht : Int) ≤ j → F i j = 0) :
    sqS F X Y n = boxS (fun i j => F (i : Int) (j : Int)) (winA X n) (winA Y n) (winN wd X n) (winN ht Y n) := by
  unfold sqS boxS
  have h1 := win_pad (fun j => rowS (fun i => F ((X : Int) - n + i) j) (2 * n + 1)) (n := n) hY (fun j hj => rowS_zero fun i hi => hz _ _ (by omega))
  rw [h1]
  exact rowS_congr fun j hj => win_pad (fun i => F i ((winA Y n + j : Nat) : Int)) hX (fun i hi => hz _ _ (by omega))
/-- The components of a bitmap at columns and rows, 0 outside. -/
def atN (l : List Px) (r : Rc) (c : Nat) (i j : Int) : Int := pxc (atL ⟨0, 0, 0, 0⟩ r l (r.x0 + i) (r.y0 + j)) c
theorem pxc_zero (c : Nat) : pxc ⟨0, 0, 0, 0⟩ c = 0 := by unfold pxc; split <;> rfl
theorem atN_out {l : List Px} {r : Rc} (hc : canonR r = r) (c : Nat) {i j : Int} (h : i < 0 ∨ (((r.x1 - r.x0).toNat : Nat) : Int) ≤ i ∨ j < 0 ∨ (((r.y1 - r.y0).toNat : Nat) : Int) ≤ j) : atN l r c i j = 0 := by
  unfold atN atL
  rw [if_neg (fun hh => by have := (contains_iff hc _ _).1 hh; omega)]
  exact pxc_zero c
theorem atN_in {l : List Px} {r : Rc} (hc : canonR r = r) (c : Nat) {i j : Nat} (hi : i < (r.x1 - r.x0).toNat) (hj : j < (r.y1 - r.y0).toNat) : atN l r c i j = cF l (r.x1 - r.x0).toNat c i j := by
  have hcon : containsB r (r.x0 + (i : Int)) (r.y0 + (j : Int)) = true := (contains_iff hc _ _).2 ⟨by omega, by omega, by omega, by omega⟩
  unfold atN atL cF
  rw [if_pos hcon, pix_form hcon, Int.toNat_natCast, show (r.y0 + (j : Int) - r.y0).toNat = j by omega, show (r.x0 + (i : Int) - r.x0).toNat = i by omega]
theorem boxS_congr {f g : Nat → Nat → Int} {x0 y0 nx ny : Nat} (h : ∀ i j, i < nx → j < ny → f (x0 + i) (y0 + j) = g (x0 + i) (y0 + j)) : boxS f x0 y0 nx ny = boxS g x0 y0 nx ny :=
  rowS_congr fun j hj => rowS_congr fun i hi => h i j hi hj
theorem sq_blur {l : List Px} {r : Rc} (hc : canonR r = r) (c n : Nat) {X Y : Nat} (hX : X < (r.x1 - r.x0).toNat) (hY : Y < (r.y1 - r.y0).toNat) :
    sqS (atN l r c) X Y n = winS l (r.x1 - r.x0).toNat (r.y1 - r.y0).toNat c X Y n := by
  rw [sq_win (atN l r c) hX hY (fun i j h => atN_out hc c h)]
  unfold winS
  exact boxS_congr fun i j hi hj => atN_in hc c (by unfold winN at hi; unfold winA; omega) (by unfold winN at hj; unfold winA; omega)

-- one pixel in the middle
theorem row_ind (a m n : Nat) (v : Int) : rowS (fun i => if a + i = m then v else 0) n = if a ≤ m ∧ m < a + n then v else 0 := by
  induction n with
  | zero => rw [if_neg (by omega)]; rfl
  | succ n ih =>
    simp only [rowS]
    rw [ih]
    by_cases h1 : a + n = m
    · rw [if_neg (by omega), if_pos h1, if_pos (by omega)]; omega
    · rw [if_neg h1]
      by_cases h2 : a ≤ m ∧ m < a + n
      · rw [if_pos h2, if_pos (by omega)]; omega
      · rw [if_neg h2, if_neg (by omega)]; rfl
theorem box_ind (m m' : Nat) (v : Int) (x0 y0 nx ny : Nat) : boxS (fun i j => if i = m ∧ j = m' then v else 0) x0 y0 nx ny = if (x0 ≤ m ∧ m < x0 + nx) ∧ y0 ≤ m' ∧ m' < y0 + ny then v else 0 := by
  unfold boxS
  have h : rowS (fun j => rowS (fun i => if x0 + i = m ∧ y0 + j = m' then v else 0) nx) ny = rowS (fun j => if y0 + j = m' then (if x0 ≤ m ∧ m < x0 + nx then v else 0) else 0) ny := by
    refine rowS_congr fun j hj => ?_
    by_cases e : y0 + j = m'
    · rw [if_pos e, ← row_ind]
      refine rowS_congr fun i hi => ?_
      by_cases e2 : x0 + i = m
      · rw [if_pos ⟨e2, e⟩, if_pos e2]
      · rw [if_neg (fun hh => e2 hh.1), if_neg e2]
    · rw [if_neg e]
      exact rowS_zero fun i hi => if_neg (fun hh => e hh.2)
  rw [h, row_ind]
  by_cases h1 : x0 ≤ m ∧ m < x0 + nx
  · by_cases h2 : y0 ≤ m' ∧ m' < y0 + ny
    · rw [if_pos h2, if_pos h1, if_pos ⟨h1, h2⟩]
    · rw [if_neg h2, if_neg (fun hh => h2 hh.2)]
  · have e1 : (if x0 ≤ m ∧ m < x0 + nx then v else 0) = 0 := if_neg h1
    have e2 : (if (x0 ≤ m ∧ m < x0 + nx) ∧ y0 ≤ m' ∧ m' < y0 + ny then v else 0) = 0 := if_neg (fun hh => h1 hh.1)
    rw [e1, e2]; split <;> rfl
theorem rndP_none {a : Int} (ha : 1 ≤ a) : rndP 0 a = 0 := by
  unfold rndP
  exact Int.ediv_eq_zero_of_lt (by omega) (by omega)
theorem areaN_nat (k : Nat) : areaN k = (((2 * k + 1) * (2 * k + 1) : Nat) : Int) := by unfold areaN; rw [Int.natCast_mul]; simp
/-- One pixel in the middle of a bitmap of 2k+3 columns and rows, blurred. -/
theorem center_blur {l : List Px} {k : Nat} {v : Int} (hl : ∀ i j, i < 2 * k + 3 → j < 2 * k + 3 → l.getD (j * (2 * k + 3) + i) ⟨0, 0, 0, 0⟩ = if i = k + 1 ∧ j = k + 1 then ⟨v, v, v, v⟩ else ⟨0, 0, 0, 0⟩) {x y : Nat} (hx : x < 2 * k + 3) (hy : y < 2 * k + 3) :
    blurN l (2 * k + 3) (2 * k + 3) k x y = if (0 < x ∧ x < 2 * k + 2) ∧ 0 < y ∧ y < 2 * k + 2 then ⟨rndP v (areaN k), rndP v (areaN k), rndP v (areaN k), rndP v (areaN k)⟩ else ⟨0, 0, 0, 0⟩ := by
  have hw : ∀ c, winS l (2 * k + 3) (2 * k + 3) c x y k = if (0 < x ∧ x < 2 * k + 2) ∧ 0 < y ∧ y < 2 * k + 2 then v else 0 := fun c => by
    unfold winS
    have h1 : boxS (cF l (2 * k + 3) c) (winA x k) (winA y k) (winN (2 * k + 3) x k) (winN (2 * k + 3) y k) = boxS (fun i j => if i = k + 1 ∧ j = k + 1 then v else 0) (winA x k) (winA y k) (winN (2 * k + 3) x k) (winN (2 * k + 3) y k) := by
      refine boxS_congr fun i j hi hj => ?_
      unfold cF
      rw [hl _ _ (by unfold winN at hi; unfold winA; omega) (by unfold winN at hj; unfold winA; omega)]
      split
      · unfold pxc; split <;> rfl
      · exact pxc_zero c
    rw [h1, box_ind]
    by_cases e : (0 < x ∧ x < 2 * k + 2) ∧ 0 < y ∧ y < 2 * k + 2
    · rw [if_pos e, if_pos (by unfold winA winN; omega)]
    · rw [if_neg e, if_neg (by unfold winA winN; omega)]
  unfold blurN
  simp only [hw]
  by_cases e : (0 < x ∧ x < 2 * k + 2) ∧ 0 < y ∧ y < 2 * k + 2
  · simp only [if_pos e]
  · simp only [if_neg e, rndP_none (area_pos k)]
end Go.Proofs.Ytnefnnhnjmmebaa
