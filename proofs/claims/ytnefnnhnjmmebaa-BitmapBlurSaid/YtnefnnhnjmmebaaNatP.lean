/-
  Digits in base 2^32 in plain Lean. No program here.
-/
import Derived.WalkKit
import Derived.Lib.Hide
namespace Go.Proofs.Ytnefnnhnjmmebaa
set_option linter.unusedVariables false

/-- The value of digits, the least significant one first. -/
def valD : List Nat → Nat
  | [] => 0
  | d :: l => d + 4294967296 * valD l
def okD (l : List Nat) : Prop := ∀ d ∈ l, d < 4294967296
/-- The digits of a number, without zeros at the end. -/
def dig (n : Nat) : List Nat := if h : n = 0 then [] else (n % 4294967296) :: dig (n / 4294967296)
termination_by n
decreasing_by omega
theorem dig_zero : dig 0 = [] := by unfold dig; simp
theorem dig_pos {n : Nat} (h : n ≠ 0) : dig n = (n % 4294967296) :: dig (n / 4294967296) := by
  conv => lhs; unfold dig
  rw [dif_neg h]
theorem dig_ok (n : Nat) : okD (dig n) := by
  induction n using Nat.strongRecOn with
  | ind n ih =>
    by_cases h : n = 0
    · subst h; rw [dig_zero]; intro d hd; cases hd
    · rw [dig_pos h]
      intro d hd
      rcases List.mem_cons.1 hd with rfl | hd
      · omega
      · exact ih (n / 4294967296) (by omega) d hd
theorem val_dig (n : Nat) : valD (dig n) = n := by
  induction n using Nat.strongRecOn with
  | ind n ih =>
    by_cases h : n = 0
    · subst h; rw [dig_zero]; rfl
    · rw [dig_pos h]
      have := ih (n / 4294967296) (by omega)
      unfold valD
      rw [this]
      omega
theorem okD_cons {d : Nat} {l : List Nat} (h : okD (d :: l)) : d < 4294967296 ∧ okD l := ⟨h d (by simp), fun x hx => h x (by simp [hx])⟩
theorem okD_take {l : List Nat} (h : okD l) (n : Nat) : okD (l.take n) := fun d hd => h d (List.mem_of_mem_take hd)
theorem okD_snoc {l : List Nat} {x : Nat} (h : okD l) (hx : x < 4294967296) : okD (l ++ [x]) := fun d hd => by
  rcases List.mem_append.1 hd with hd | hd
  · exact h d hd
  · have : d = x := by simpa using hd
    omega
theorem okD_get {l : List Nat} (h : okD l) (i : Nat) : l.getD i 0 < 4294967296 := by
  rw [List.getD_eq_getElem?_getD]
  by_cases hi : i < l.length
  · rw [List.getElem?_eq_getElem hi]; exact h _ (List.getElem_mem hi)
  · rw [List.getElem?_eq_none (by omega)]; decide
theorem val_append (l m : List Nat) : valD (l ++ m) = valD l + 4294967296 ^ l.length * valD m := by
  induction l with
  | nil => simp [valD]
  | cons d l ih =>
    simp only [List.cons_append, valD, ih, List.length_cons, Nat.pow_succ]
    rw [Nat.mul_add, Nat.mul_comm (4294967296 ^ l.length) 4294967296, Nat.mul_assoc]
    omega
theorem val_snoc (l : List Nat) (x : Nat) : valD (l ++ [x]) = valD l + x * 4294967296 ^ l.length := by
  rw [val_append]; simp only [valD]; rw [Nat.mul_zero, Nat.add_zero, Nat.mul_comm x]
theorem val_lt {l : List Nat} (h : okD l) : valD l < 4294967296 ^ l.length := by
  induction l with
  | nil => simp [valD]
  | cons d l ih =>
    obtain ⟨hd, hl⟩ := okD_cons h
    have := ih hl
    simp only [valD, List.length_cons, Nat.pow_succ]
    have h2 : 4294967296 * valD l + 4294967296 ≤ 4294967296 * 4294967296 ^ l.length := by rw [← Nat.mul_succ]; exact Nat.mul_le_mul_left _ this
    rw [Nat.mul_comm (4294967296 ^ l.length)]
    omega
/-- The value of the first k digits. -/
def valT (l : List Nat) : Nat → Nat
  | 0 => 0
  | k + 1 => valT l k + l.getD k 0 * 4294967296 ^ k
theorem valT_take (l : List Nat) : ∀ k, valT l k = valD (l.take k)
  | 0 => by simp [valT, valD]
  | k + 1 => by
    rw [valT, valT_take l k]
    by_cases hk : k < l.length
    · rw [List.take_succ_eq_append_getElem hk, val_snoc, List.getD_eq_getElem?_getD, List.getElem?_eq_getElem hk, List.length_take, Nat.min_eq_left (by omega)]; rfl
    · rw [List.take_of_length_le (by omega), List.take_of_length_le (by omega), List.getD_eq_getElem?_getD, List.getElem?_eq_none (by omega)]; simp
theorem valT_len {l : List Nat} {k : Nat} (h : l.length ≤ k) : valT l k = valD l := by rw [valT_take, List.take_of_length_le h]
theorem valT_lt {l : List Nat} (h : okD l) (k : Nat) : valT l k < 4294967296 ^ k := by
  rw [valT_take]
  have := val_lt (okD_take h k)
  have h2 : (l.take k).length ≤ k := List.length_take_le _ _
  exact Nat.lt_of_lt_of_le this (Nat.pow_le_pow_right (by decide) h2)
/-- Digits without zeros at the end are those of their value. -/
theorem dig_unique : ∀ {l : List Nat}, okD l → (∀ h : l ≠ [], l.getLast h ≠ 0) → dig (valD l) = l
  | [], _, _ => dig_zero
  | d :: l, h, hn => by
    obtain ⟨hd, hl⟩ := okD_cons h
    have hn' : ∀ h : l ≠ [], l.getLast h ≠ 0 := fun h' => by
      have := hn (by simp)
      rwa [List.getLast_cons h'] at this
    have ih := dig_unique hl hn'
    have hv : valD (d :: l) ≠ 0 := by
      cases l with
      | nil =>
        have := hn (by simp)
        simp at this
        simp [valD]; exact this
      | cons e l =>
        intro h0
        simp only [valD] at h0
        have hz : valD (e :: l) = 0 := by simp only [valD]; omega
        have := ih
        rw [hz, dig_zero] at this
        cases this
    rw [dig_pos hv]
    have e1 : valD (d :: l) % 4294967296 = d := by simp only [valD]; omega
    have e2 : valD (d :: l) / 4294967296 = valD l := by simp only [valD]; omega
    rw [e1, e2, ih]
/-- What Normalize finds: the first n digits, where all behind are 0 and the last one is not. -/
theorem dig_take {l : List Nat} (h : okD l) {n : Nat} (hn : n ≤ l.length) (hz : ∀ i, n ≤ i → l.getD i 0 = 0) (hl : n = 0 ∨ l.getD (n - 1) 0 ≠ 0) : dig (valD l) = l.take n := by
  have hv : valD l = valD (l.take n) := by
    have key : ∀ j, valT l (n + j) = valT l n := fun j => by
      induction j with
      | zero => rfl
      | succ j ih => rw [← Nat.add_assoc, valT, ih, hz (n + j) (by omega)]; simp
    have h1 := key (l.length - n)
    rw [show n + (l.length - n) = l.length by omega, valT_len (Nat.le_refl _), valT_take] at h1
    exact h1
  rw [hv]
  apply dig_unique (okD_take h n)
  intro hne
  rcases hl with rfl | hl
  · simp at hne
  · rw [List.getLast_eq_getElem]
    have hlen : (l.take n).length = n := by rw [List.length_take]; omega
    have hn0 : 0 < n := by
      rcases Nat.eq_zero_or_pos n with e | e
      · subst e; simp at hne
      · exact e
    rw [List.getElem_take]
    rw [List.getD_eq_getElem?_getD, List.getElem?_eq_getElem (by omega)] at hl
    simpa [hlen] using hl
end Go.Proofs.Ytnefnnhnjmmebaa
