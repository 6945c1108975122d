/-
  Extreme values of windows by a queue of candidates, and of squares axis by axis: plain Lean. No program here.
-/
import Derived.WalkKit
import Derived.Lib.Hide
namespace Go.Proofs.Ytndablijjkchjaa
set_option linter.unusedVariables false
set_option linter.unusedSimpArgs false

/-- The queue of the candidates for the window from lo to next (k: the key, the greater the better). -/
structure QG (k : Nat → Int) (lo next : Nat) (q : List Nat) : Prop where
  inc : q.Pairwise (fun a b => a < b ∧ k b < k a)
  lt : ∀ a ∈ q, a < next
  cov : ∀ j, lo ≤ j → j < next → ∃ a ∈ q, j ≤ a ∧ k j ≤ k a
/-- The same while next is about to come in. -/
structure QP (k : Nat → Int) (lo next : Nat) (q : List Nat) : Prop where
  inc : q.Pairwise (fun a b => a < b ∧ k b < k a)
  lt : ∀ a ∈ q, a < next
  cov : ∀ j, lo ≤ j → j < next → (∃ a ∈ q, j ≤ a ∧ k j ≤ k a) ∨ k j ≤ k next
section
variable {k : Nat → Int} {lo next : Nat} {q : List Nat}
theorem QG.nil (k : Nat → Int) (lo : Nat) : QG k lo 0 [] := ⟨List.Pairwise.nil, fun a h => by simp at h, fun j _ h => absurd h (Nat.not_lt_zero _)⟩
theorem QG.start (h : QG k lo next q) : QP k lo next q := ⟨h.inc, h.lt, fun j h0 h1 => .inl (h.cov j h0 h1)⟩
/-- The last candidate goes if it is no better than the one that comes. -/
theorem QP.pop {a : Nat} (h : QP k lo next (q ++ [a])) (hk : ¬ k next < k a) : QP k lo next q := by
  refine ⟨(List.pairwise_append.1 h.inc).1, fun b hb => h.lt b (List.mem_append_left _ hb), fun j h0 h1 => ?_⟩
  rcases h.cov j h0 h1 with ⟨b, hb, h2, h3⟩ | h2
  · rcases List.mem_append.1 hb with hb | hb
    · exact .inl ⟨b, hb, h2, h3⟩
    · have : b = a := by simpa using hb
      subst this
      exact .inr (by omega)
  · exact .inr h2
theorem QP.push (h : QP k lo next q) (hq : ∀ q' a, q = q' ++ [a] → k next < k a) : QG k lo (next + 1) (q ++ [next]) := by
  refine ⟨?_, fun b hb => ?_, fun j h0 h1 => ?_⟩
  · refine List.pairwise_append.2 ⟨h.inc, List.pairwise_singleton _ _, fun b hb c hc => ?_⟩
    have : c = next := by simpa using hc
    subst this
    refine ⟨h.lt b hb, ?_⟩
    rcases List.eq_nil_or_concat q with e | ⟨q', a, e⟩
    · rw [e] at hb; simp at hb
    · have e' : q = q' ++ [a] := by rw [e]; simp
      have hka := hq q' a e'
      rw [e'] at hb
      rcases List.mem_append.1 hb with hb | hb
      · have h2 := h.inc
        rw [e'] at h2
        have := (List.pairwise_append.1 h2).2.2 b hb a (by simp)
        omega
      · have : b = a := by simpa using hb
        subst this; exact hka
  · rcases List.mem_append.1 hb with hb | hb
    · have := h.lt b hb; omega
    · have : b = next := by simpa using hb
      omega
  · by_cases hj : j = next
    · exact ⟨next, by simp, by omega, by rw [hj]; exact Int.le_refl _⟩
    · rcases h.cov j h0 (by omega) with ⟨b, hb, h2, h3⟩ | h2
      · exact ⟨b, List.mem_append_left _ hb, h2, h3⟩
      · exact ⟨next, by simp, by omega, h2⟩
theorem QG.raise (h : QG k lo next q) {lo' : Nat} (hl : lo ≤ lo') : QG k lo' next q := ⟨h.inc, h.lt, fun j h0 h1 => h.cov j (by omega) h1⟩
/-- The first candidate goes if it lies ahead of the window. -/
theorem QG.front {a : Nat} (h : QG k lo next (a :: q)) (ha : a < lo) : QG k lo next q := by
  refine ⟨(List.pairwise_cons.1 h.inc).2, fun b hb => h.lt b (List.mem_cons_of_mem _ hb), fun j h0 h1 => ?_⟩
  obtain ⟨b, hb, h2, h3⟩ := h.cov j h0 h1
  rcases List.mem_cons.1 hb with rfl | hb
  · omega
  · exact ⟨b, hb, h2, h3⟩
theorem QG.ne (h : QG k lo next q) (hl : lo < next) : q ≠ [] := fun e => by
  obtain ⟨b, hb, _⟩ := h.cov lo (Nat.le_refl _) hl
  rw [e] at hb; simp at hb
/-- The first candidate is the best of the window. -/
theorem QG.best {a : Nat} (h : QG k lo next (a :: q)) (hl : lo ≤ a) : a < next ∧ ∀ j, lo ≤ j → j < next → k j ≤ k a := by
  refine ⟨h.lt a (by simp), fun j h0 h1 => ?_⟩
  obtain ⟨b, hb, h2, h3⟩ := h.cov j h0 h1
  rcases List.mem_cons.1 hb with rfl | hb
  · exact h3
  · have := (List.pairwise_cons.1 h.inc).1 b hb; omega
end

/-- v is the best of f's values from lo to hi (sg = 1: the greatest, sg = -1: the least). -/
def Best (sg : Int) (f : Nat → Int) (lo hi : Nat) (v : Int) : Prop := (∃ j, lo ≤ j ∧ j < hi ∧ f j = v) ∧ ∀ j, lo ≤ j → j < hi → sg * f j ≤ sg * v
theorem best_unique {sg : Int} (hs : sg = 1 ∨ sg = -1) {f : Nat → Int} {lo hi : Nat} {u v : Int} (h : Best sg f lo hi u) (h' : Best sg f lo hi v) : u = v := by
  obtain ⟨⟨a, a0, a1, a2⟩, a3⟩ := h
  obtain ⟨⟨b, b0, b1, b2⟩, b3⟩ := h'
  have h1 := a3 b b0 b1
  have h2 := b3 a a0 a1
  rw [b2] at h1
  rw [a2] at h2
  rcases hs with rfl | rfl <;> omega
/-- The best value, reckoned from left to right. -/
def best1 (sg x y : Int) : Int := if sg * x < sg * y then y else x
def bestF (sg : Int) (f : Nat → Int) (lo : Nat) : Nat → Int
  | 0 => f lo
  | n + 1 => best1 sg (bestF sg f lo n) (f (lo + n + 1))
theorem bestF_spec {sg : Int} (hs : sg = 1 ∨ sg = -1) (f : Nat → Int) (lo : Nat) : ∀ n, Best sg f lo (lo + n + 1) (bestF sg f lo n)
  | 0 => ⟨⟨lo, Nat.le_refl _, by omega, rfl⟩, fun j h0 h1 => by rw [show j = lo by omega]; exact Int.le_refl _⟩
  | n + 1 => by
    obtain ⟨⟨a, a0, a1, a2⟩, a3⟩ := bestF_spec hs f lo n
    simp only [bestF, best1]
    split
    · refine ⟨⟨lo + n + 1, by omega, by omega, rfl⟩, fun j h0 h1 => ?_⟩
      by_cases hj : j = lo + n + 1
      · rw [hj]; exact Int.le_refl _
      · have := a3 j h0 (by omega); omega
    · refine ⟨⟨a, a0, by omega, a2⟩, fun j h0 h1 => ?_⟩
      by_cases hj : j = lo + n + 1
      · rw [hj]; omega
      · exact a3 j h0 (by omega)
/-- The best of the window of radius n around i, of count values. -/
def lineV (sg : Int) (f : Nat → Int) (count n i : Nat) : Int := bestF sg f (i - n) (min (i + n + 1) count - (i - n) - 1)
theorem lineV_spec {sg : Int} (hs : sg = 1 ∨ sg = -1) (f : Nat → Int) {count n i : Nat} (hi : i < count) : Best sg f (i - n) (min (i + n + 1) count) (lineV sg f count n i) := by
  have h := bestF_spec hs f (i - n) (min (i + n + 1) count - (i - n) - 1)
  rw [show i - n + (min (i + n + 1) count - (i - n) - 1) + 1 = min (i + n + 1) count by omega] at h
  exact h
theorem lineV_eq {sg : Int} (hs : sg = 1 ∨ sg = -1) {f : Nat → Int} {count n i : Nat} (hi : i < count) {v : Int} (h : Best sg f (i - n) (min (i + n + 1) count) v) : v = lineV sg f count n i :=
  best_unique hs h (lineV_spec hs f hi)
theorem lineV_congr {sg : Int} {f g : Nat → Int} {count n i : Nat} (hi : i < count) (h : ∀ j, j < count → f j = g j) : lineV sg f count n i = lineV sg g count n i := by
  unfold lineV
  have key : ∀ m, i - n + m < count → bestF sg f (i - n) m = bestF sg g (i - n) m := fun m => by
    induction m with
    | zero => intro hm; exact h _ (by omega)
    | succ m ih => intro hm; simp only [bestF]; rw [ih (by omega), h _ (by omega)]
  exact key _ (by omega)

/-- v is the best of f's values in the square of radius n around (x, y) in a grid of wd columns and ht rows. -/
def Best2 (sg : Int) (f : Nat → Nat → Int) (wd ht n x y : Nat) (v : Int) : Prop :=
  (∃ i j, i < wd ∧ j < ht ∧ x ≤ i + n ∧ i ≤ x + n ∧ y ≤ j + n ∧ j ≤ y + n ∧ f i j = v) ∧ ∀ i j, i < wd → j < ht → x ≤ i + n → i ≤ x + n → y ≤ j + n → j ≤ y + n → sg * f i j ≤ sg * v
theorem best2_unique {sg : Int} (hs : sg = 1 ∨ sg = -1) {f : Nat → Nat → Int} {wd ht n x y : Nat} {u v : Int} (h : Best2 sg f wd ht n x y u) (h' : Best2 sg f wd ht n x y v) : u = v := by
  obtain ⟨⟨a, a', a0, a1, a2, a3, a4, a5, a6⟩, a7⟩ := h
  obtain ⟨⟨b, b', b0, b1, b2, b3, b4, b5, b6⟩, b7⟩ := h'
  have h1 := a7 b b' b0 b1 b2 b3 b4 b5
  have h2 := b7 a a' a0 a1 a2 a3 a4 a5
  rw [b6] at h1
  rw [a6] at h2
  rcases hs with rfl | rfl <;> omega
/-- One axis after the other. -/
def squareV (sg : Int) (f : Nat → Nat → Int) (wd ht n x y : Nat) : Int := lineV sg (fun j => lineV sg (fun i => f i j) wd n x) ht n y
theorem squareV_spec {sg : Int} (hs : sg = 1 ∨ sg = -1) (f : Nat → Nat → Int) {wd ht n x y : Nat} (hx : x < wd) (hy : y < ht) : Best2 sg f wd ht n x y (squareV sg f wd ht n x y) := by
  obtain ⟨⟨j, j0, j1, j2⟩, j3⟩ := lineV_spec hs (fun j => lineV sg (fun i => f i j) wd n x) (n := n) hy
  obtain ⟨⟨i, i0, i1, i2⟩, i3⟩ := lineV_spec hs (fun i => f i j) (n := n) hx
  refine ⟨⟨i, j, by omega, by omega, by omega, by omega, by omega, by omega, (show f i j = _ from i2).trans j2⟩, fun a b h0 h1 h2 h3 h4 h5 => ?_⟩
  have e1 := (lineV_spec hs (fun i => f i b) (n := n) hx).2 a (by omega) (by omega)
  have e2 := j3 b (by omega) (by omega)
  exact Int.le_trans e1 e2
end Go.Proofs.Ytndablijjkchjaa
