/-
  Addition, subtraction, multiplication and division of digits in base 2^32, step by step, in plain Lean. No program here.
-/
import Derived.Test.YtnefnnhnjmmebaaNatP
namespace Go.Proofs.Ytnefnnhnjmmebaa
set_option linter.unusedVariables false
set_option linter.unusedSimpArgs false

theorem okD_nil : okD [] := fun d hd => by cases hd
theorem pow_pos32 (k : Nat) : 0 < 4294967296 ^ k := Nat.pow_pos (by decide)

/-- Addition: the digits and the carry behind k rounds. -/
def addS (a b : List Nat) : Nat → List Nat × Nat
  | 0 => ([], 0)
  | k + 1 => ((addS a b k).1 ++ [(a.getD k 0 + b.getD k 0 + (addS a b k).2) % 4294967296], (a.getD k 0 + b.getD k 0 + (addS a b k).2) / 4294967296)
theorem addS_spec {a b : List Nat} (ha : okD a) (hb : okD b) : ∀ k, (addS a b k).1.length = k ∧ okD (addS a b k).1 ∧ (addS a b k).2 ≤ 1 ∧ valD (addS a b k).1 + (addS a b k).2 * 4294967296 ^ k = valT a k + valT b k
  | 0 => ⟨rfl, okD_nil, by simp [addS], by simp [addS, valD, valT]⟩
  | k + 1 => by
    obtain ⟨h1, h2, h3, h4⟩ := addS_spec ha hb k
    have ga := okD_get ha k
    have gb := okD_get hb k
    refine ⟨by simp [addS, h1], okD_snoc h2 (Nat.mod_lt _ (by decide)), ?_, ?_⟩
    · show (a.getD k 0 + b.getD k 0 + (addS a b k).2) / 4294967296 ≤ 1
      omega
    · show valD ((addS a b k).1 ++ [_]) + _ = _
      rw [val_snoc, h1]
      show _ + (a.getD k 0 + b.getD k 0 + (addS a b k).2) / 4294967296 * 4294967296 ^ (k + 1) = _
      simp only [valT]
      have hm := Nat.div_add_mod (a.getD k 0 + b.getD k 0 + (addS a b k).2) 4294967296
      generalize (a.getD k 0 + b.getD k 0 + (addS a b k).2) / 4294967296 = q at *
      generalize (a.getD k 0 + b.getD k 0 + (addS a b k).2) % 4294967296 = r at *
      rw [Nat.pow_succ]
      have e1 : q * (4294967296 ^ k * 4294967296) + r * 4294967296 ^ k = (a.getD k 0 + b.getD k 0 + (addS a b k).2) * 4294967296 ^ k := by
        rw [← hm, Nat.add_mul, Nat.mul_comm (4294967296 ^ k) 4294967296, ← Nat.mul_assoc, Nat.mul_comm q]
      rw [Nat.add_mul, Nat.add_mul] at e1
      omega
theorem addS_all {a b : List Nat} (ha : okD a) (hb : okD b) {k : Nat} (hk : a.length ≤ k ∧ b.length ≤ k) : okD ((addS a b k).1 ++ [(addS a b k).2]) ∧ valD ((addS a b k).1 ++ [(addS a b k).2]) = valD a + valD b := by
  obtain ⟨h1, h2, h3, h4⟩ := addS_spec ha hb k
  refine ⟨okD_snoc h2 (by omega), ?_⟩
  rw [val_snoc, h1, h4, valT_len hk.1, valT_len hk.2]

/-- Subtraction: the digits and what was lent. -/
def subS (a b : List Nat) : Nat → List Nat × Nat
  | 0 => ([], 0)
  | k + 1 => ((subS a b k).1 ++ [(4294967296 + a.getD k 0 - b.getD k 0 - (subS a b k).2) % 4294967296], 1 - (4294967296 + a.getD k 0 - b.getD k 0 - (subS a b k).2) / 4294967296)
theorem subS_spec {a b : List Nat} (ha : okD a) (hb : okD b) : ∀ k, (subS a b k).1.length = k ∧ okD (subS a b k).1 ∧ (subS a b k).2 ≤ 1 ∧ valD (subS a b k).1 + valT b k = valT a k + (subS a b k).2 * 4294967296 ^ k
  | 0 => ⟨rfl, okD_nil, by simp [subS], by simp [subS, valD, valT]⟩
  | k + 1 => by
    obtain ⟨h1, h2, h3, h4⟩ := subS_spec ha hb k
    have ga := okD_get ha k
    have gb := okD_get hb k
    refine ⟨by simp [subS, h1], okD_snoc h2 (Nat.mod_lt _ (by decide)), ?_, ?_⟩
    · show 1 - _ ≤ 1
      omega
    · show valD ((subS a b k).1 ++ [_]) + _ = _
      rw [val_snoc, h1]
      show _ = _ + (1 - (4294967296 + a.getD k 0 - b.getD k 0 - (subS a b k).2) / 4294967296) * 4294967296 ^ (k + 1)
      simp only [valT]
      have hm := Nat.div_add_mod (4294967296 + a.getD k 0 - b.getD k 0 - (subS a b k).2) 4294967296
      have hq : (4294967296 + a.getD k 0 - b.getD k 0 - (subS a b k).2) / 4294967296 ≤ 1 := by omega
      obtain ⟨q, Hq⟩ : ∃ q, (4294967296 + a.getD k 0 - b.getD k 0 - (subS a b k).2) / 4294967296 = q := ⟨_, rfl⟩
      obtain ⟨r, Hr⟩ : ∃ r, (4294967296 + a.getD k 0 - b.getD k 0 - (subS a b k).2) % 4294967296 = r := ⟨_, rfl⟩
      rw [Hq, Hr] at hm
      rw [Hq] at hq ⊢
      rw [Hr]
      have hn : 4294967296 * q + r + b.getD k 0 + (subS a b k).2 = 4294967296 + a.getD k 0 := by omega
      have e1 : (4294967296 * q + r + b.getD k 0 + (subS a b k).2) * 4294967296 ^ k = (4294967296 + a.getD k 0) * 4294967296 ^ k := by rw [hn]
      rw [Nat.pow_succ]
      rcases (show q = 0 ∨ q = 1 by omega) with rfl | rfl
      · simp only [Nat.mul_zero, Nat.zero_add, Nat.add_mul] at e1
        rw [Nat.sub_zero, Nat.one_mul, Nat.mul_comm (4294967296 ^ k) 4294967296]
        omega
      · simp only [Nat.mul_one, Nat.add_mul] at e1
        rw [Nat.sub_self, Nat.zero_mul]
        omega
theorem subS_all {a b : List Nat} (ha : okD a) (hb : okD b) (h : valD b ≤ valD a) {k : Nat} (hk : a.length = k) : okD (subS a b k).1 ∧ valD (subS a b k).1 = valD a - valD b := by
  obtain ⟨h1, h2, h3, h4⟩ := subS_spec ha hb k
  refine ⟨h2, ?_⟩
  rw [valT_len (l := a) (by omega)] at h4
  have hl : valD (subS a b k).1 < 4294967296 ^ k := by have := val_lt h2; rwa [h1] at this
  have hbt : valT b k ≤ valD b ∧ ((subS a b k).2 = 0 → valT b k = valD b) := by
    by_cases hbl : b.length ≤ k
    · rw [valT_len hbl]; exact ⟨Nat.le_refl _, fun _ => rfl⟩
    · have e1 : valD b = valT b k + 4294967296 ^ k * valD (b.drop k) := by
        conv => lhs; rw [← List.take_append_drop k b]
        rw [val_append, valT_take, List.length_take, Nat.min_eq_left (by omega)]
      have hal : valD a < 4294967296 ^ k := by have := val_lt ha; rwa [hk] at this
      have h0 : valD (b.drop k) = 0 := by
        apply Classical.byContradiction
        intro hne
        have : 4294967296 ^ k * 1 ≤ 4294967296 ^ k * valD (b.drop k) := Nat.mul_le_mul_left _ (by omega)
        omega
      rw [h0] at e1
      exact ⟨by omega, fun _ => by omega⟩
  have hbe : valT b k = valD b := by
    by_cases hbl : b.length ≤ k
    · exact valT_len hbl
    · have e1 : valD b = valT b k + 4294967296 ^ k * valD (b.drop k) := by
        conv => lhs; rw [← List.take_append_drop k b]
        rw [val_append, valT_take, List.length_take, Nat.min_eq_left (by omega)]
      have hal : valD a < 4294967296 ^ k := by have := val_lt ha; rwa [hk] at this
      have h0 : valD (b.drop k) = 0 := by
        apply Classical.byContradiction
        intro hne
        have : 4294967296 ^ k * 1 ≤ 4294967296 ^ k * valD (b.drop k) := Nat.mul_le_mul_left _ (by omega)
        omega
      rw [h0] at e1
      omega
  rw [hbe] at h4
  rcases (show (subS a b k).2 = 0 ∨ (subS a b k).2 = 1 by omega) with e | e
  · rw [e] at h4; omega
  · rw [e] at h4
    omega

/-- Multiplication by one digit (or by a power of 2 below 2^32). -/
def timesS (a : List Nat) (d : Nat) : Nat → List Nat × Nat
  | 0 => ([], 0)
  | k + 1 => ((timesS a d k).1 ++ [(a.getD k 0 * d + (timesS a d k).2) % 4294967296], (a.getD k 0 * d + (timesS a d k).2) / 4294967296)
theorem digit_mul {x d c : Nat} (hx : x < 4294967296) (hd : d < 4294967296) (hc : c < 4294967296) : x * d + c < 18446744073709551616 ∧ (x * d + c) / 4294967296 < 4294967296 := by
  have : x * d ≤ 4294967295 * 4294967295 := Nat.mul_le_mul (by omega) (by omega)
  omega
theorem timesS_spec {a : List Nat} {d : Nat} (ha : okD a) (hd : d < 4294967296) : ∀ k, (timesS a d k).1.length = k ∧ okD (timesS a d k).1 ∧ (timesS a d k).2 < 4294967296 ∧ valD (timesS a d k).1 + (timesS a d k).2 * 4294967296 ^ k = valT a k * d
  | 0 => ⟨rfl, okD_nil, by simp [timesS], by simp [timesS, valD, valT]⟩
  | k + 1 => by
    obtain ⟨h1, h2, h3, h4⟩ := timesS_spec ha hd k
    have ga := okD_get ha k
    have hdm := digit_mul ga hd h3
    refine ⟨by simp [timesS, h1], okD_snoc h2 (Nat.mod_lt _ (by decide)), hdm.2, ?_⟩
    show valD ((timesS a d k).1 ++ [_]) + (a.getD k 0 * d + (timesS a d k).2) / 4294967296 * 4294967296 ^ (k + 1) = _
    rw [val_snoc, h1]
    simp only [valT]
    have hm := Nat.div_add_mod (a.getD k 0 * d + (timesS a d k).2) 4294967296
    generalize (a.getD k 0 * d + (timesS a d k).2) / 4294967296 = q at *
    generalize (a.getD k 0 * d + (timesS a d k).2) % 4294967296 = r at *
    rw [Nat.pow_succ, Nat.add_mul]
    have e1 : q * (4294967296 ^ k * 4294967296) + r * 4294967296 ^ k = (a.getD k 0 * d + (timesS a d k).2) * 4294967296 ^ k := by
      rw [← hm, Nat.add_mul, Nat.mul_comm (4294967296 ^ k) 4294967296, ← Nat.mul_assoc, Nat.mul_comm q]
    rw [Nat.add_mul] at e1
    have e2 : a.getD k 0 * 4294967296 ^ k * d = a.getD k 0 * d * 4294967296 ^ k := by rw [Nat.mul_assoc, Nat.mul_comm _ d, Nat.mul_assoc]
    omega
theorem timesS_all {a : List Nat} {d : Nat} (ha : okD a) (hd : d < 4294967296) {k : Nat} (hk : a.length ≤ k) : okD ((timesS a d k).1 ++ [(timesS a d k).2]) ∧ valD ((timesS a d k).1 ++ [(timesS a d k).2]) = valD a * d := by
  obtain ⟨h1, h2, h3, h4⟩ := timesS_spec ha hd k
  refine ⟨okD_snoc h2 h3, ?_⟩
  rw [val_snoc, h1, h4, valT_len hk]

/-- A digit is put in. -/
theorem okD_set {l : List Nat} (h : okD l) (i x : Nat) (hx : x < 4294967296) : okD (l.set i x) := fun d hd => by
  rcases List.mem_or_eq_of_mem_set hd with hd | rfl
  · exact h d hd
  · exact hx
theorem val_set : ∀ {l : List Nat} {i : Nat} (x : Nat), i < l.length → valD (l.set i x) + l.getD i 0 * 4294967296 ^ i = valD l + x * 4294967296 ^ i
  | [], i, x, h => by simp at h
  | d :: l, 0, x, _ => by simp [valD]; omega
  | d :: l, i + 1, x, h => by
    have ih := val_set (l := l) (i := i) x (by simpa using h)
    simp only [List.set_cons_succ, valD, List.getD_cons_succ, Nat.pow_succ]
    have e : ∀ y z : Nat, y * (z * 4294967296) = 4294967296 * (y * z) := fun y z => by rw [← Nat.mul_assoc, Nat.mul_comm]
    rw [e, e]
    omega
theorem getD_set {l : List Nat} {i j x : Nat} : (l.set i x).getD j 0 = if i = j ∧ i < l.length then x else l.getD j 0 := by
  rw [List.getD_eq_getElem?_getD, List.getD_eq_getElem?_getD, List.getElem?_set]
  split
  · rename_i h; subst h
    split
    · rename_i h2; simp [h2]
    · rename_i h2; simp [h2]
  · rename_i h
    simp [h]

/-- Multiplication: one row, and all rows. -/
def mulI (x : Nat) (b : List Nat) (i : Nat) (o : List Nat) : Nat → List Nat × Nat
  | 0 => (o, 0)
  | k + 1 => ((mulI x b i o k).1.set (i + k) ((x * b.getD k 0 + (mulI x b i o k).1.getD (i + k) 0 + (mulI x b i o k).2) % 4294967296), (x * b.getD k 0 + (mulI x b i o k).1.getD (i + k) 0 + (mulI x b i o k).2) / 4294967296)
theorem digit_mul2 {x d c e : Nat} (hx : x < 4294967296) (hd : d < 4294967296) (hc : c < 4294967296) (he : e < 4294967296) : x * d + e + c < 18446744073709551616 ∧ (x * d + e + c) / 4294967296 < 4294967296 := by
  have : x * d ≤ 4294967295 * 4294967295 := Nat.mul_le_mul (by omega) (by omega)
  omega
theorem mulI_spec {x : Nat} {b o : List Nat} {i : Nat} (hx : x < 4294967296) (hb : okD b) (ho : okD o) (hl : i + b.length < o.length) : ∀ k, k ≤ b.length → (mulI x b i o k).1.length = o.length ∧ okD (mulI x b i o k).1 ∧ (mulI x b i o k).2 < 4294967296 ∧
    (∀ j, i + k ≤ j → (mulI x b i o k).1.getD j 0 = o.getD j 0) ∧ valD (mulI x b i o k).1 + (mulI x b i o k).2 * 4294967296 ^ (i + k) = valD o + x * valT b k * 4294967296 ^ i
  | 0, _ => ⟨rfl, ho, by show (0 : Nat) < _; decide, fun _ _ => rfl, by simp [mulI, valT]⟩
  | k + 1, hk => by
    obtain ⟨h1, h2, h3, h4, h5⟩ := mulI_spec hx hb ho hl k (by omega)
    have gb := okD_get hb k
    have go := okD_get h2 (i + k)
    have hdm := digit_mul2 hx gb h3 go
    refine ⟨by simp [mulI, h1], okD_set h2 _ _ (Nat.mod_lt _ (by decide)), hdm.2, fun j hj => ?_, ?_⟩
    · show ((mulI x b i o k).1.set _ _).getD j 0 = _
      rw [getD_set, if_neg (by omega)]
      exact h4 j (by omega)
    · show valD ((mulI x b i o k).1.set (i + k) ((x * b.getD k 0 + (mulI x b i o k).1.getD (i + k) 0 + (mulI x b i o k).2) % 4294967296)) + (x * b.getD k 0 + (mulI x b i o k).1.getD (i + k) 0 + (mulI x b i o k).2) / 4294967296 * 4294967296 ^ (i + (k + 1)) = _
      have hs := val_set (l := (mulI x b i o k).1) (i := i + k) ((x * b.getD k 0 + (mulI x b i o k).1.getD (i + k) 0 + (mulI x b i o k).2) % 4294967296) (by omega)
      simp only [valT]
      have hm := Nat.div_add_mod (x * b.getD k 0 + (mulI x b i o k).1.getD (i + k) 0 + (mulI x b i o k).2) 4294967296
      generalize valD ((mulI x b i o k).1.set (i + k) ((x * b.getD k 0 + (mulI x b i o k).1.getD (i + k) 0 + (mulI x b i o k).2) % 4294967296)) = V at *
      generalize (x * b.getD k 0 + (mulI x b i o k).1.getD (i + k) 0 + (mulI x b i o k).2) / 4294967296 = q at *
      generalize (x * b.getD k 0 + (mulI x b i o k).1.getD (i + k) 0 + (mulI x b i o k).2) % 4294967296 = r at *
      have e1 : q * (4294967296 ^ (i + k) * 4294967296) + r * 4294967296 ^ (i + k) = (x * b.getD k 0 + (mulI x b i o k).1.getD (i + k) 0 + (mulI x b i o k).2) * 4294967296 ^ (i + k) := by
        rw [← hm, Nat.add_mul, Nat.mul_comm (4294967296 ^ (i + k)) 4294967296, ← Nat.mul_assoc, Nat.mul_comm q]
      rw [Nat.add_mul, Nat.add_mul] at e1
      rw [← Nat.add_assoc, Nat.pow_succ, Nat.mul_add, Nat.add_mul]
      have e2 : x * (b.getD k 0 * 4294967296 ^ k) * 4294967296 ^ i = x * b.getD k 0 * 4294967296 ^ (i + k) := by
        rw [Nat.pow_add, Nat.mul_comm (4294967296 ^ i), Nat.mul_assoc, Nat.mul_assoc, Nat.mul_assoc]
      omega
def mulS (a b : List Nat) (o : List Nat) : Nat → List Nat
  | 0 => o
  | i + 1 => (mulI (a.getD i 0) b i (mulS a b o i) b.length).1.set (i + b.length) (mulI (a.getD i 0) b i (mulS a b o i) b.length).2
theorem mulS_spec {a b o : List Nat} (ha : okD a) (hb : okD b) (ho : okD o) (hl : a.length + b.length < o.length) (hz : ∀ j, o.getD j 0 = 0) (hv : valD o = 0) : ∀ i, i ≤ a.length → (mulS a b o i).length = o.length ∧ okD (mulS a b o i) ∧ (∀ j, i + b.length ≤ j → (mulS a b o i).getD j 0 = 0) ∧ valD (mulS a b o i) = valT a i * valD b
  | 0, _ => ⟨rfl, ho, fun j _ => hz j, by simp [mulS, valT, hv]⟩
  | i + 1, hi => by
    obtain ⟨h1, h2, h3, h4⟩ := mulS_spec ha hb ho hl hz hv i (by omega)
    obtain ⟨g1, g2, g3, g4, g5⟩ := mulI_spec (x := a.getD i 0) (i := i) (okD_get ha i) hb h2 (by omega) b.length (Nat.le_refl _)
    refine ⟨by rw [mulS, List.length_set, g1, h1], okD_set g2 _ _ g3, fun j hj => ?_, ?_⟩
    · show ((mulI (a.getD i 0) b i (mulS a b o i) b.length).1.set _ _).getD j 0 = 0
      rw [getD_set, if_neg (by omega), g4 j (by omega)]
      exact h3 j (by omega)
    · show valD ((mulI (a.getD i 0) b i (mulS a b o i) b.length).1.set _ _) = _
      have hs := val_set (l := (mulI (a.getD i 0) b i (mulS a b o i) b.length).1) (i := i + b.length) (mulI (a.getD i 0) b i (mulS a b o i) b.length).2 (by omega)
      rw [g4 _ (Nat.le_refl _), h3 _ (Nat.le_refl _), Nat.zero_mul, Nat.add_zero] at hs
      rw [hs, g5, h4, valT_len (Nat.le_refl _)]
      simp only [valT]
      rw [Nat.add_mul, Nat.mul_assoc (a.getD i 0), Nat.mul_assoc (a.getD i 0), Nat.mul_comm (valD b)]
theorem zeros_val : ∀ n, valD (List.replicate n 0) = 0
  | 0 => rfl
  | n + 1 => by rw [List.replicate_succ, valD, zeros_val n]
theorem zeros_ok (n : Nat) : okD (List.replicate n 0) := fun d hd => by rw [(List.mem_replicate.1 hd).2]; decide
theorem zeros_get (n j : Nat) : (List.replicate n 0).getD j 0 = 0 := by
  rw [List.getD_eq_getElem?_getD, List.getElem?_replicate]; split <;> rfl

/-- Comparison: the values are compared digit by digit from the top. -/
theorem valT_mono {l : List Nat} (k : Nat) : valT l k ≤ valT l (k + 1) := by simp only [valT]; omega
theorem cmp_lt {a b : List Nat} (ha : okD a) (hb : okD b) {m k : Nat} (hk : k < m) (hm : a.length ≤ m ∧ b.length ≤ m) (he : ∀ j, k < j → a.getD j 0 = b.getD j 0) (hlt : a.getD k 0 < b.getD k 0) : valD a < valD b := by
  have key : ∀ j, valT a (k + 1 + j) < valT b (k + 1 + j) := fun j => by
    induction j with
    | zero =>
      simp only [Nat.add_zero, valT]
      have h1 := valT_lt ha k
      have h2 : (a.getD k 0 + 1) * 4294967296 ^ k ≤ b.getD k 0 * 4294967296 ^ k := Nat.mul_le_mul_right _ hlt
      rw [Nat.add_mul, Nat.one_mul] at h2
      omega
    | succ j ih => rw [← Nat.add_assoc]; simp only [valT]; rw [he (k + 1 + j) (by omega)]; omega
  have h := key (m - (k + 1))
  rw [show k + 1 + (m - (k + 1)) = m by omega, valT_len hm.1, valT_len hm.2] at h
  exact h
theorem cmp_eq {a b : List Nat} {m : Nat} (hm : a.length ≤ m ∧ b.length ≤ m) (he : ∀ j, a.getD j 0 = b.getD j 0) : valD a = valD b := by
  have key : ∀ j, valT a j = valT b j := fun j => by
    induction j with
    | zero => rfl
    | succ j ih => simp only [valT]; rw [he j, ih]
  have h := key m
  rwa [valT_len hm.1, valT_len hm.2] at h
def cmpP (a b : Nat) : Int := if a < b then -1 else if b < a then 1 else 0

/-- A value below a power of the base is that of the digits below it. -/
theorem val_low {r : List Nat} {k : Nat} (h : valD r < 4294967296 ^ k) : valD r = valT r k := by
  by_cases hl : r.length ≤ k
  · rw [valT_len hl]
  · have e1 : valD r = valT r k + 4294967296 ^ k * valD (r.drop k) := by
      conv => lhs; rw [← List.take_append_drop k r]
      rw [val_append, valT_take, List.length_take, Nat.min_eq_left (by omega)]
    have hp := pow_pos32 k
    generalize 4294967296 ^ k = p at *
    rcases Nat.eq_zero_or_pos (valD (r.drop k)) with h0 | h0
    · rw [h0] at e1; omega
    · have h2 : p * 1 ≤ p * valD (r.drop k) := Nat.mul_le_mul_left _ h0
      omega
theorem valT_two (r : List Nat) (n : Nat) : valT r (n + 1 + 1) = valT r n + (r.getD (n + 1) 0 * 4294967296 + r.getD n 0) * 4294967296 ^ n := by
  rw [valT, valT, Nat.pow_succ, Nat.add_mul, Nat.mul_assoc, Nat.mul_comm 4294967296]
  generalize r.getD (n + 1) 0 * (4294967296 ^ n * 4294967296) = x
  generalize r.getD n 0 * 4294967296 ^ n = y
  omega
/-- The digit that is tried first is no smaller than the quotient's (p: the base's power below the top digits). -/
theorem top_arith {q vb vr lo t r2 p : Nat} (h1 : q * vb ≤ vr) (h2 : t * p ≤ vb) (h3 : vr = lo + r2 * p) (h4 : lo < p) (ht : 0 < t) : q ≤ r2 / t := by
  rw [Nat.le_div_iff_mul_le ht]
  have h5 : q * (t * p) ≤ q * vb := Nat.mul_le_mul_left _ h2
  have h6 : q * t * p < (r2 + 1) * p := by
    rw [Nat.add_mul, Nat.one_mul, Nat.mul_assoc]
    omega
  have h7 := Nat.lt_of_mul_lt_mul_right h6
  omega
theorem often_top {r b : List Nat} (hr : okD r) (hb : okD b) (hn : b ≠ []) (htop : b.getD (b.length - 1) 0 ≠ 0) (hlt : valD r < 4294967296 * valD b) :
    valD r / valD b ≤ (r.getD b.length 0 * 4294967296 + r.getD (b.length - 1) 0) / b.getD (b.length - 1) 0 ∧ valD r / valD b ≤ 4294967295 ∧ 0 < valD b := by
  have hbl : 0 < b.length := List.length_pos_iff.2 hn
  obtain ⟨n, hn1⟩ : ∃ n, b.length = n + 1 := ⟨b.length - 1, by omega⟩
  rw [hn1] at htop ⊢
  rw [Nat.add_sub_cancel] at htop ⊢
  have hvb : valD b = valT b n + b.getD n 0 * 4294967296 ^ n := by rw [← valT_len (l := b) (k := n + 1) (by omega)]; rw [valT]
  have hp := pow_pos32 n
  have hb1 : 4294967296 ^ n ≤ b.getD n 0 * 4294967296 ^ n := Nat.le_mul_of_pos_left _ (by omega)
  have hbp : 0 < valD b := by omega
  have hvbl : valD b < 4294967296 ^ (n + 1) := by have := val_lt hb; rwa [hn1] at this
  have hq2 : valD r / valD b < 4294967296 := (Nat.div_lt_iff_lt_mul hbp).2 hlt
  have hr0 : valD r < 4294967296 ^ (n + 1 + 1) := by
    rw [Nat.pow_succ]
    generalize 4294967296 ^ (n + 1) = p at *
    omega
  have hrv := (val_low hr0).trans (valT_two r n)
  refine ⟨?_, by omega, hbp⟩
  exact top_arith (Nat.div_mul_le_self (valD r) (valD b)) (by omega) hrv (valT_lt hr n) (by omega)

/-- Long division: the quotient and the rest behind one more digit. -/
theorem div_step {V r d : Nat} (hV : 0 < V) (hr : r < V) (u : Nat) : (u * 4294967296 + d) / V = u / V * 4294967296 + (u % V * 4294967296 + d) / V ∧ (u * 4294967296 + d) % V = (u % V * 4294967296 + d) % V := by
  have h := Nat.div_add_mod u V
  have e : u * 4294967296 + d = (u % V * 4294967296 + d) + V * (u / V * 4294967296) := by
    conv => lhs; rw [← h]
    rw [Nat.add_mul, Nat.mul_assoc]
    omega
  rw [e, Nat.add_mul_div_left _ _ hV, Nat.add_mul_mod_self_left]
  exact ⟨by omega, rfl⟩
theorem drop_val {l : List Nat} {i : Nat} (hi : i < l.length) : valD (l.drop i) = l.getD i 0 + 4294967296 * valD (l.drop (i + 1)) := by
  rw [List.drop_eq_getElem_cons hi, valD, List.getD_eq_getElem?_getD, List.getElem?_eq_getElem hi]; rfl
theorem set_drop {l : List Nat} {i : Nat} (hi : i < l.length) (d : Nat) : (l.set i d).drop i = d :: l.drop (i + 1) := by
  rw [List.set_eq_take_append_cons_drop, if_pos hi, List.drop_append_of_le_length (by rw [List.length_take]; omega), List.drop_of_length_le (by rw [List.length_take]; omega), List.nil_append]
theorem set_drop_after {l : List Nat} {i : Nat} (d : Nat) : (l.set i d).drop (i + 1) = l.drop (i + 1) := List.drop_set_of_lt (by omega)
end Go.Proofs.Ytnefnnhnjmmebaa
