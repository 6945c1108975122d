/-
  Blurred bitmaps in plain Lean: sums over rows and rectangles, the square around a pixel. No program here.
-/
import Derived.Test.YtnefnnhnjmmebaaPlA
namespace Go.Proofs.Ytnefnnhnjmmebaa
set_option linter.unusedVariables false
set_option linter.unusedSimpArgs false

/-- A component of a pixel by its number. -/
def pxc (p : Px) : Nat → Int
  | 0 => p.r
  | 1 => p.g
  | 2 => p.b
  | _ => p.a
theorem pxc_byte {p : Px} (h : p.byte) (c : Nat) : 0 ≤ pxc p c ∧ pxc p c ≤ 255 := by
  obtain ⟨r0, r1, g0, g1, b0, b1, a0, a1⟩ := h
  unfold pxc; split <;> omega
/-- The sum of the first n values. -/
def rowS (f : Nat → Int) : Nat → Int
  | 0 => 0
  | k + 1 => rowS f k + f k
/-- The sum over the columns below x and the rows below y. -/
def sumS (f : Nat → Nat → Int) (x y : Nat) : Int := rowS (fun j => rowS (fun i => f i j) x) y
theorem rowS_mono {f g : Nat → Int} {n : Nat} (h : ∀ i, i < n → f i ≤ g i) : rowS f n ≤ rowS g n := by
  induction n with
  | zero => exact Int.le_refl _
  | succ n ih => have := ih (fun i hi => h i (by omega)); have := h n (by omega); simp only [rowS]; omega
theorem rowS_congr {f g : Nat → Int} {n : Nat} (h : ∀ i, i < n → f i = g i) : rowS f n = rowS g n := by
  induction n with
  | zero => rfl
  | succ n ih => simp only [rowS]; rw [ih (fun i hi => h i (by omega)), h n (by omega)]
theorem rowS_const (m : Int) (n : Nat) : rowS (fun _ => m) n = (n : Int) * m := by
  induction n with
  | zero => simp [rowS]
  | succ n ih => simp only [rowS]; rw [ih, Int.natCast_add, Int.add_mul]; simp
theorem rowS_add (f : Nat → Int) (a n : Nat) : rowS f (a + n) = rowS f a + rowS (fun i => f (a + i)) n := by
  induction n with
  | zero => simp [rowS]
  | succ n ih => rw [← Nat.add_assoc]; simp only [rowS]; rw [ih]; omega
theorem rowS_sub (f g : Nat → Int) (n : Nat) : rowS (fun i => f i - g i) n = rowS f n - rowS g n := by
  induction n with
  | zero => simp [rowS]
  | succ n ih => simp only [rowS]; rw [ih]; omega
theorem rowS_nonneg {f : Nat → Int} {n : Nat} (h : ∀ i, i < n → 0 ≤ f i) : 0 ≤ rowS f n := by
  have := rowS_mono (f := fun _ => 0) (g := f) (n := n) h
  rw [rowS_const] at this; simpa using this
theorem rowS_le {f : Nat → Int} {n : Nat} {m : Int} (h : ∀ i, i < n → f i ≤ m) : rowS f n ≤ n * m := by
  have := rowS_mono (f := f) (g := fun _ => m) (n := n) h
  rwa [rowS_const] at this
theorem sumS_bd {f : Nat → Nat → Int} {x y : Nat} (h : ∀ i j, i < x → j < y → 0 ≤ f i j ∧ f i j ≤ 255) : 0 ≤ sumS f x y ∧ sumS f x y ≤ (y : Int) * ((x : Int) * 255) :=
  ⟨rowS_nonneg fun j hj => rowS_nonneg fun i hi => (h i j hi hj).1, rowS_le fun j hj => rowS_le fun i hi => (h i j hi hj).2⟩
/-- The sum over a rectangle of columns x0.. and rows y0... -/
def boxS (f : Nat → Nat → Int) (x0 y0 nx ny : Nat) : Int := rowS (fun j => rowS (fun i => f (x0 + i) (y0 + j)) nx) ny
theorem box_of_sums (f : Nat → Nat → Int) (x0 y0 nx ny : Nat) :
    sumS f (x0 + nx) (y0 + ny) + (sumS f x0 y0 - sumS f x0 (y0 + ny) - sumS f (x0 + nx) y0) = boxS f x0 y0 nx ny := by
  unfold sumS boxS
  rw [rowS_add _ y0 ny, rowS_add _ y0 ny]
  have e : rowS (fun i => rowS (fun i_1 => f i_1 (y0 + i)) (x0 + nx)) ny = rowS (fun i => rowS (fun i_1 => f i_1 (y0 + i)) x0) ny + rowS (fun j => rowS (fun i => f (x0 + i) (y0 + j)) nx) ny := by
    have h1 : rowS (fun i => rowS (fun i_1 => f i_1 (y0 + i)) (x0 + nx)) ny = rowS (fun i => rowS (fun i_1 => f i_1 (y0 + i)) x0 + rowS (fun k => f (x0 + k) (y0 + i)) nx) ny := rowS_congr fun j _ => rowS_add _ _ _
    have h2 := rowS_sub (fun i => rowS (fun i_1 => f i_1 (y0 + i)) x0 + rowS (fun k => f (x0 + k) (y0 + i)) nx) (fun i => rowS (fun i_1 => f i_1 (y0 + i)) x0) ny
    have h3 : rowS (fun i => rowS (fun i_1 => f i_1 (y0 + i)) x0 + rowS (fun k => f (x0 + k) (y0 + i)) nx - rowS (fun i_1 => f i_1 (y0 + i)) x0) ny = rowS (fun j => rowS (fun i => f (x0 + i) (y0 + j)) nx) ny := rowS_congr fun j _ => by omega
    omega
  omega
theorem boxS_mono {f g : Nat → Nat → Int} {x0 y0 nx ny : Nat} (h : ∀ i j, i < nx → j < ny → f (x0 + i) (y0 + j) ≤ g (x0 + i) (y0 + j)) : boxS f x0 y0 nx ny ≤ boxS g x0 y0 nx ny :=
  rowS_mono fun j hj => rowS_mono fun i hi => h i j hi hj
theorem boxS_bd {f : Nat → Nat → Int} {x0 y0 nx ny : Nat} {m : Int} (h : ∀ i j, i < nx → j < ny → 0 ≤ f (x0 + i) (y0 + j) ∧ f (x0 + i) (y0 + j) ≤ m) : 0 ≤ boxS f x0 y0 nx ny ∧ boxS f x0 y0 nx ny ≤ (ny : Int) * ((nx : Int) * m) :=
  ⟨rowS_nonneg fun j hj => rowS_nonneg fun i hi => (h i j hi hj).1, rowS_le fun j hj => rowS_le fun i hi => (h i j hi hj).2⟩

/-- The component c at column i, row j. -/
def cF (l : List Px) (wd c i j : Nat) : Int := pxc (l.getD (j * wd + i) ⟨0, 0, 0, 0⟩) c
def px0 : Px := ⟨0, 0, 0, 0⟩
theorem px0_byte : px0.byte := by constructor <;> decide
theorem getD_byte {l : List Px} (h : ∀ p ∈ l, p.byte) (k : Nat) : (l.getD k ⟨0, 0, 0, 0⟩).byte := by
  rw [List.getD_eq_getElem?_getD]
  cases he : l[k]? with
  | none => exact px0_byte
  | some v => exact h v (List.mem_of_getElem? he)
theorem cF_bd {l : List Px} (h : ∀ p ∈ l, p.byte) (wd c i j : Nat) : 0 ≤ cF l wd c i j ∧ cF l wd c i j ≤ 255 := pxc_byte (getD_byte h _) c
/-- The first column of the square around x, and the number of its columns. -/
def winA (x n : Nat) : Nat := x - n
def winN (wd x n : Nat) : Nat := min (x + n + 1) wd - (x - n)
theorem win_le (wd x n : Nat) : winN wd x n ≤ 2 * n + 1 ∧ winA x n + winN wd x n = max (min (x + n + 1) wd) (x - n) := by unfold winA winN; omega
theorem win_in {wd x n : Nat} (h : x < wd) : winA x n + winN wd x n = min (x + n + 1) wd ∧ winA x n ≤ x ∧ x < winA x n + winN wd x n := by unfold winA winN; omega
/-- The sum of a component over the square of radius n around a pixel. -/
def winS (l : List Px) (wd ht c x y n : Nat) : Int := boxS (cF l wd c) (winA x n) (winA y n) (winN wd x n) (winN ht y n)
def areaN (n : Nat) : Int := (2 * (n : Int) + 1) * (2 * (n : Int) + 1)
theorem area_pos (n : Nat) : 1 ≤ areaN n := by
  unfold areaN
  have h : (1 : Int) * 1 ≤ (2 * (n : Int) + 1) * (2 * (n : Int) + 1) := Int.mul_le_mul (by omega) (by omega) (by omega) (by omega)
  omega
theorem winS_bd {l : List Px} {wd ht c x y n : Nat} {m : Int} (h : ∀ i j, i < wd → j < ht → 0 ≤ cF l wd c i j ∧ cF l wd c i j ≤ m) (hm : 0 ≤ m) : 0 ≤ winS l wd ht c x y n ∧ winS l wd ht c x y n ≤ areaN n * m := by
  have h1 : ∀ i j, i < winN wd x n → j < winN ht y n → 0 ≤ cF l wd c (winA x n + i) (winA y n + j) ∧ cF l wd c (winA x n + i) (winA y n + j) ≤ m := fun i j hi hj =>
    h _ _ (by unfold winA; unfold winN at hi; omega) (by unfold winA; unfold winN at hj; omega)
  obtain ⟨a, b⟩ := boxS_bd h1
  refine ⟨a, Int.le_trans b ?_⟩
  unfold areaN
  rw [Int.mul_assoc]
  have w1 := (win_le wd x n).1
  have w2 := (win_le ht y n).1
  have p1 : ((winN wd x n : Nat) : Int) * m ≤ (2 * (n : Int) + 1) * m := Int.mul_le_mul_of_nonneg_right (by omega) hm
  have p0 : 0 ≤ ((winN wd x n : Nat) : Int) * m := Int.mul_nonneg (by omega) hm
  exact Int.mul_le_mul (by omega) p1 p0 (by omega)
theorem rndP_le {s a m : Int} (ha : 1 ≤ a) (h : s ≤ a * m) : rndP s a ≤ m := by
  unfold rndP
  have : (2 * s + a) / (2 * a) < m + 1 := by
    rw [Int.ediv_lt_iff_lt_mul (by omega), Int.add_mul, Int.mul_left_comm, Int.mul_comm m]
    omega
  omega
theorem rndP_nonneg {s a : Int} (ha : 1 ≤ a) (h : 0 ≤ s) : 0 ≤ rndP s a := by
  unfold rndP; exact Int.ediv_nonneg (by omega) (by omega)
theorem rndP_mono {s t a : Int} (ha : 1 ≤ a) (h : s ≤ t) : rndP s a ≤ rndP t a := by
  unfold rndP; exact Int.ediv_le_ediv (by omega) (by omega)
theorem rndP_one (s : Int) : rndP s 1 = s := by unfold rndP; omega
/-- A blurred pixel, by column and row. -/
def blurN (l : List Px) (wd ht n x y : Nat) : Px := ⟨rndP (winS l wd ht 0 x y n) (areaN n), rndP (winS l wd ht 1 x y n) (areaN n), rndP (winS l wd ht 2 x y n) (areaN n), rndP (winS l wd ht 3 x y n) (areaN n)⟩
theorem winS_byte {l : List Px} (h : ∀ p ∈ l, p.byte) (wd ht c x y n : Nat) : 0 ≤ winS l wd ht c x y n ∧ winS l wd ht c x y n ≤ areaN n * 255 :=
  winS_bd (fun i j _ _ => cF_bd h wd c i j) (by decide)
theorem blurN_byte {l : List Px} (h : ∀ p ∈ l, p.byte) (wd ht n x y : Nat) : (blurN l wd ht n x y).byte := by
  have ha := area_pos n
  have b := fun c => winS_byte h wd ht c x y n
  constructor <;> first | exact rndP_nonneg ha (b _).1 | exact rndP_le ha (b _).2
/-- The blurred bitmap's pixel at x, y. -/
def blurG (l : List Px) (r : Rc) (n : Nat) (x y : Int) : Px := blurN l (r.x1 - r.x0).toNat (r.y1 - r.y0).toNat n (x - r.x0).toNat (y - r.y0).toNat
theorem winS_mono {l : List Px} {wd ht c d x y n : Nat} (h : ∀ p ∈ l, pxc p c ≤ pxc p d) : winS l wd ht c x y n ≤ winS l wd ht d x y n := by
  refine boxS_mono fun i j _ _ => ?_
  unfold cF
  rw [List.getD_eq_getElem?_getD]
  cases he : l[(winA y n + j) * wd + (winA x n + i)]? with
  | none => unfold pxc; simp; split <;> split <;> exact Int.le_refl _
  | some v => exact h v (List.mem_of_getElem? he)
/-- A blurred valid bitmap's pixels are valid. -/
theorem blurN_valid {l : List Px} (h : l.all pvB = true) (wd ht n x y : Nat) : pvB (blurN l wd ht n x y) = true := by
  have ha := area_pos n
  have hv : ∀ p ∈ l, p.r ≤ p.a ∧ p.g ≤ p.a ∧ p.b ≤ p.a := fun p hp => by have := List.all_eq_true.1 h p hp; unfold pvB at this; simpa using this
  unfold pvB
  exact decide_eq_true ⟨rndP_mono ha (winS_mono (c := 0) (d := 3) fun p hp => (hv p hp).1), rndP_mono ha (winS_mono (c := 1) (d := 3) fun p hp => (hv p hp).2.1), rndP_mono ha (winS_mono (c := 2) (d := 3) fun p hp => (hv p hp).2.2)⟩
/-- A blur of radius 0. -/
theorem winS_zero (l : List Px) {wd ht c x y : Nat} (hx : x < wd) (hy : y < ht) : winS l wd ht c x y 0 = cF l wd c x y := by
  have e1 : winN wd x 0 = 1 := by unfold winN; omega
  have e2 : winN ht y 0 = 1 := by unfold winN; omega
  unfold winS boxS
  rw [e1, e2]
  simp only [rowS]
  rw [show winA x 0 + 0 = x by unfold winA; omega, show winA y 0 + 0 = y by unfold winA; omega]
  omega
theorem blurN_zero (l : List Px) {wd ht x y : Nat} (hx : x < wd) (hy : y < ht) : blurN l wd ht 0 x y = l.getD (y * wd + x) ⟨0, 0, 0, 0⟩ := by
  have ha : areaN 0 = 1 := by decide
  unfold blurN
  rw [ha]
  simp only [rndP_one, winS_zero l hx hy]
  rfl
/-- No component exceeds its maximum in the bitmap. -/
theorem blurN_most {l : List Px} {m : Int} {c : Nat} (hm : 0 ≤ m) (h : ∀ p ∈ l, 0 ≤ pxc p c ∧ pxc p c ≤ m) (wd ht n x y : Nat) : rndP (winS l wd ht c x y n) (areaN n) ≤ m := by
  refine rndP_le (area_pos n) (winS_bd (fun i j _ _ => ?_) hm).2
  unfold cF
  rw [List.getD_eq_getElem?_getD]
  cases he : l[j * wd + i]? with
  | none => unfold pxc; simp; split <;> exact ⟨Int.le_refl _, hm⟩
  | some v => exact h v (List.mem_of_getElem? he)
end Go.Proofs.Ytnefnnhnjmmebaa
