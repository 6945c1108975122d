/-
  Plain laws on packing squares of one size.
-/
import Derived.Test.YtiaeaegocfmjhaaPackQ
namespace Go.Proofs.Ytiaeaegocfmjhaa
set_option linter.unusedVariables false

section
variable {w h s : Int} {q p : Nat}

/-- The shelves behind m full shelves and c squares on the last one. -/
def shelvesQ (s : Int) (q m c : Nat) : List Sf := (List.range m).map (fun (i : Nat) => (⟨(i : Int) * s, s, (q : Int) * s⟩ : Sf)) ++ [⟨(m : Int) * s, s, (c : Int) * s⟩]

theorem sq_mul {a b : Nat} {s : Int} (hs : 1 ≤ s) (h : a ≤ b) : (a : Int) * s ≤ (b : Int) * s := Int.mul_le_mul_of_nonneg_right (by omega) (by omega)
theorem sq_succ (a : Nat) (s : Int) : ((a + 1 : Nat) : Int) * s = (a : Int) * s + s := by rw [Int.natCast_add, Int.add_mul]; simp

theorem fit_full (hq : w < ((q + 1 : Nat) : Int) * s) (t : Int) : fitsB w s s ⟨t, s, (q : Int) * s⟩ = false := by
  rw [sq_succ] at hq
  simp [fitsB]; omega
theorem fit_last (hs : 1 ≤ s) (hq0 : (q : Int) * s ≤ w) {c : Nat} (hc : c < q) (t : Int) : fitsB w s s ⟨t, s, (c : Int) * s⟩ = true := by
  have h1 := sq_mul hs (show c + 1 ≤ q from hc)
  rw [sq_succ] at h1
  simp [fitsB]; omega

theorem find_full (hq : w < ((q + 1 : Nat) : Int) * s) (m : Nat) : ((List.range m).map (fun (i : Nat) => (⟨(i : Int) * s, s, (q : Int) * s⟩ : Sf))).findIdx? (fitsB w s s) = none := by
  rw [List.findIdx?_eq_none_iff]
  intro x hx
  obtain ⟨i, _, rfl⟩ := List.mem_map.1 hx
  exact fit_full hq _

theorem place_more (hs : 1 ≤ s) (hw : s ≤ w) (hq0 : (q : Int) * s ≤ w) (hq : w < ((q + 1 : Nat) : Int) * s) {m c : Nat} (hc : c < q) (nx : Int) :
    ∃ r, placeP w h (shelvesQ s q m c) nx s s = some (r, shelvesQ s q m (c + 1), nx) := by
  unfold placeP
  rw [if_neg (by omega)]
  have hf : (shelvesQ s q m c).findIdx? (fitsB w s s) = some m := by
    unfold shelvesQ
    rw [List.findIdx?_append, find_full hq]
    have hl := fit_last (w := w) hs hq0 hc ((m : Int) * s)
    simp [List.findIdx?_cons, hl]
  rw [hf]
  have hg : (shelvesQ s q m c).getD m ⟨0, 0, 0⟩ = ⟨(m : Int) * s, s, (c : Int) * s⟩ := by
    unfold shelvesQ
    rw [List.getD_eq_getElem?_getD, List.getElem?_append_right (by simp)]
    simp
  simp only [hg]
  have he : (shelvesQ s q m c).set m ⟨(m : Int) * s, s, (c : Int) * s + s⟩ = shelvesQ s q m (c + 1) := by
    unfold shelvesQ
    rw [List.set_append_right _ _ (by simp), sq_succ c]
    simp
  rw [he]
  exact ⟨_, rfl⟩

theorem place_next (hs : 1 ≤ s) (hw : s ≤ w) (hq : w < ((q + 1 : Nat) : Int) * s) (m : Nat) :
    placeP w h (shelvesQ s q m q) (((m + 1 : Nat) : Int) * s) s s = if h < ((m + 1 + 1 : Nat) : Int) * s then none else some (⟨0, ((m + 1 : Nat) : Int) * s, s, ((m + 1 + 1 : Nat) : Int) * s⟩, shelvesQ s q (m + 1) 1, ((m + 1 + 1 : Nat) : Int) * s) := by
  unfold placeP
  rw [if_neg (by omega)]
  have hall : shelvesQ s q m q = (List.range (m + 1)).map (fun (i : Nat) => (⟨(i : Int) * s, s, (q : Int) * s⟩ : Sf)) := by
    unfold shelvesQ; rw [List.range_succ, List.map_append]; rfl
  have hf : (shelvesQ s q m q).findIdx? (fitsB w s s) = none := by rw [hall]; exact find_full hq _
  rw [hf]
  simp only
  have e := sq_succ (m + 1) s
  by_cases hh : h < ((m + 1 + 1 : Nat) : Int) * s
  · rw [if_pos hh, if_pos (by omega)]
  · rw [if_neg hh, if_neg (by omega), e]
    have h2 : shelvesQ s q (m + 1) 1 = shelvesQ s q m q ++ [⟨((m + 1 : Nat) : Int) * s, s, s⟩] := by
      rw [hall]; unfold shelvesQ; simp
    rw [h2]

theorem place_first (hs : 1 ≤ s) (hw : s ≤ w) : placeP w h [] 0 s s = if h < s then none else some (⟨0, 0, s, s⟩, shelvesQ s q 0 1, s) := by
  unfold placeP
  rw [if_neg (by omega)]
  simp only [List.findIdx?_nil]
  by_cases hh : h < s
  · rw [if_pos hh, if_pos (by omega)]
  · rw [if_neg hh, if_neg (by omega)]
    simp [shelvesQ]

/-- Squares of one size, one after the other. -/
theorem run_squares (hs : 1 ≤ s) (hw : s ≤ w) (hq1 : 1 ≤ q) (hq0 : (q : Int) * s ≤ w) (hq : w < ((q + 1 : Nat) : Int) * s) (hp0 : (p : Int) * s ≤ h) (hp : h < ((p + 1 : Nat) : Int) * s) :
    ∀ k, (k + 1 ≤ q * p → ∃ o m c, m * q + c = k + 1 ∧ 1 ≤ c ∧ c ≤ q ∧ runP w h (List.replicate (k + 1) (s, s)) = some (o, shelvesQ s q m c, ((m + 1 : Nat) : Int) * s)) ∧ (q * p < k + 1 → runP w h (List.replicate (k + 1) (s, s)) = none) := by
  have hrun : ∀ k, runP w h (List.replicate (k + 1) (s, s)) = stepP w h (runP w h (List.replicate k (s, s))) (s, s) := fun k => by
    rw [List.replicate_succ', run_snoc]
  intro k
  induction k with
  | zero =>
    have h0 : runP w h (List.replicate 0 (s, s)) = some ([], [], 0) := rfl
    have hst : stepP w h (some ([], [], 0)) (s, s) = match placeP w h [] 0 s s with | none => none | some (r, ss', nx') => some ([] ++ [r], ss', nx') := rfl
    rw [hrun, h0, hst, place_first (q := q) hs hw]
    have hpp : 1 ≤ p ↔ ¬ h < s := by
      constructor
      · intro h1; have := sq_mul hs h1; simp at this; omega
      · intro h1
        rcases Nat.eq_zero_or_pos p with e | e
        · subst e; simp at hp; omega
        · exact e
    constructor
    · intro h1
      have : 1 ≤ p := by
        rcases Nat.eq_zero_or_pos p with e | e
        · subst e; omega
        · exact e
      rw [if_neg (hpp.1 this)]
      exact ⟨[⟨0, 0, s, s⟩], 0, 1, by omega, by omega, hq1, by simp⟩
    · intro h1
      have : ¬ 1 ≤ p := fun h2 => by
        have := Nat.mul_le_mul hq1 h2
        omega
      rw [if_pos (Decidable.byContradiction fun hn => this (hpp.2 hn))]
  | succ k ih =>
    rw [hrun]
    by_cases hk : k + 1 ≤ q * p
    · obtain ⟨o, m, c, e1, c1, c2, hr⟩ := ih.1 hk
      rw [hr]
      simp only [stepP]
      by_cases hc : c < q
      · obtain ⟨r, hpl⟩ := place_more (h := h) (m := m) hs hw hq0 hq hc (((m + 1 : Nat) : Int) * s)
        rw [hpl]
        refine ⟨fun _ => ⟨_, m, c + 1, by omega, by omega, hc, rfl⟩, fun h2 => ?_⟩
        exfalso
        -- the shelf m still has room, and m < p
        have hm : m < p := by
          rcases Nat.lt_or_ge m p with e | e
          · exact e
          · have := Nat.mul_le_mul_left q e
            rw [Nat.mul_comm q m] at this; omega
        have h3 : (m + 1) * q ≤ p * q := Nat.mul_le_mul_right q hm
        rw [Nat.succ_mul, Nat.mul_comm p q] at h3
        omega
      · obtain rfl : c = q := by omega
        rw [place_next hs hw hq m]
        have e2 : (m + 1) * c = k + 1 := by rw [Nat.succ_mul]; omega
        by_cases hh : h < ((m + 1 + 1 : Nat) : Int) * s
        · rw [if_pos hh]
          refine ⟨fun h2 => ?_, fun _ => rfl⟩
          exfalso
          -- m + 2 ≤ p would give room
          have hm : p ≤ m + 1 := by
            rcases Nat.lt_or_ge (m + 1) p with e | e
            · have := sq_mul hs (show m + 1 + 1 ≤ p from e); omega
            · exact e
          have := Nat.mul_le_mul_left c hm
          rw [Nat.mul_comm c (m + 1)] at this
          omega
        · rw [if_neg hh]
          refine ⟨fun _ => ⟨_, m + 1, 1, by omega, by omega, hq1, rfl⟩, fun h2 => ?_⟩
          exfalso
          have hm : m + 1 + 1 ≤ p := by
            rcases Nat.lt_or_ge (m + 1) p with e | e
            · exact e
            · have := sq_mul hs (show p + 1 ≤ m + 1 + 1 by omega); omega
          have := Nat.mul_le_mul_left c hm
          rw [Nat.mul_comm c (m + 1 + 1), Nat.succ_mul] at this
          omega
    · rw [ih.2 (by omega)]
      exact ⟨fun h2 => by omega, fun _ => rfl⟩

/-- Squares fit just if there are at most as many as fit side by side. -/
theorem pack_squares {n : Nat} (hw1 : 1 ≤ w) (hw2 : w ≤ 64) (hh1 : 1 ≤ h) (hh2 : h ≤ 64) (hs1 : 1 ≤ s) (hs2 : s ≤ 64) (hn : n ≤ 255) :
    (packR w h (List.replicate n (s, s))).isSome = decide ((n : Int) ≤ w / s * (h / s)) := by
  have g : packR w h (List.replicate n (s, s)) = (runP w h (List.replicate n (s, s))).map (·.1) := by
    unfold packR
    rw [if_pos]
    have e1 : sideB w = true := by simp [sideB]; omega
    have e2 : sideB h = true := by simp [sideB]; omega
    have e3 : sideB s = true := by simp [sideB]; omega
    rw [e1, e2, List.all_replicate]
    simp [sizeB, e3]; omega
  rw [g]
  cases n with
  | zero =>
    have h0 : runP w h (List.replicate 0 (s, s)) = some ([], [], 0) := rfl
    rw [h0]
    have h1 := Int.ediv_nonneg (show 0 ≤ w by omega) (show 0 ≤ s by omega)
    have h2 := Int.ediv_nonneg (show 0 ≤ h by omega) (show 0 ≤ s by omega)
    have h3 := Int.mul_nonneg h1 h2
    simp [h3]
  | succ k =>
    by_cases hws : s ≤ w
    · obtain ⟨q, hq⟩ : ∃ q : Nat, w / s = (q : Int) := ⟨(w / s).toNat, by have := Int.ediv_nonneg (show 0 ≤ w by omega) (show 0 ≤ s by omega); omega⟩
      obtain ⟨p, hp⟩ : ∃ q : Nat, h / s = (q : Int) := ⟨(h / s).toNat, by have := Int.ediv_nonneg (show 0 ≤ h by omega) (show 0 ≤ s by omega); omega⟩
      have a1 : (q : Int) * s ≤ w := by rw [← hq]; exact Int.ediv_mul_le w (by omega)
      have a2 : w < ((q + 1 : Nat) : Int) * s := by rw [sq_succ, ← hq]; have := Int.lt_ediv_add_one_mul_self w (show 0 < s by omega); rw [Int.add_mul] at this; omega
      have a3 : (p : Int) * s ≤ h := by rw [← hp]; exact Int.ediv_mul_le h (by omega)
      have a4 : h < ((p + 1 : Nat) : Int) * s := by rw [sq_succ, ← hp]; have := Int.lt_ediv_add_one_mul_self h (show 0 < s by omega); rw [Int.add_mul] at this; omega
      have a5 : 1 ≤ q := by
        rcases Nat.eq_zero_or_pos q with e | e
        · subst e; simp at a2; omega
        · exact e
      have := run_squares hs1 hws a5 a1 a2 a3 a4 k
      rw [hq, hp]
      by_cases hk : k + 1 ≤ q * p
      · obtain ⟨o, m, c, _, _, _, hr⟩ := this.1 hk
        rw [hr]
        have : ((k + 1 : Nat) : Int) ≤ (q : Int) * (p : Int) := by exact_mod_cast hk
        simp only [Option.map_some, Option.isSome_some]
        exact (decide_eq_true this).symm
      · rw [this.2 (by omega)]
        have : ¬ ((k + 1 : Nat) : Int) ≤ (q : Int) * (p : Int) := by exact_mod_cast hk
        simp only [Option.map_none, Option.isSome_none]
        exact (decide_eq_false this).symm
    · have e0 : w / s = 0 := Int.ediv_eq_zero_of_lt (by omega) (by omega)
      have hn : runP w h (List.replicate (k + 1) (s, s)) = none := by
        unfold runP
        rw [List.replicate_succ, List.foldl_cons]
        have : stepP w h (some ([], [], 0)) (s, s) = none := by
          simp only [stepP]
          have : placeP w h [] 0 s s = none := by unfold placeP; rw [if_pos (by omega)]
          rw [this]
        rw [this, foldl_none]
      rw [hn, e0, Int.zero_mul]
      simp only [Option.map_none, Option.isSome_none]
      exact (decide_eq_false (by omega)).symm
end
end Go.Proofs.Ytiaeaegocfmjhaa
