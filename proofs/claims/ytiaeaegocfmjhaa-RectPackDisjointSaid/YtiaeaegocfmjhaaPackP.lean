/-
  The first-fit shelf algorithm in plain Lean.
-/
import Derived.Test.YtiaeaegocfmjhaaRectP
namespace Go.Proofs.Ytiaeaegocfmjhaa

/-- A shelf: its first row, its height, the width that is used. -/
structure Sf where
  t : Int
  h : Int
  u : Int

def sideB (n : Int) : Bool := decide (1 ≤ n ∧ n ≤ 4096)
def fitsB (w X Y : Int) (s : Sf) : Bool := decide (Y ≤ s.h) && decide (X ≤ w - s.u)
def placeP (w h : Int) (ss : List Sf) (nx X Y : Int) : Option (Rc × List Sf × Int) :=
  if w < X then none else
  match ss.findIdx? (fitsB w X Y) with
  | some i => some (⟨(ss.getD i ⟨0, 0, 0⟩).u, (ss.getD i ⟨0, 0, 0⟩).t, (ss.getD i ⟨0, 0, 0⟩).u + X, (ss.getD i ⟨0, 0, 0⟩).t + Y⟩, ss.set i ⟨(ss.getD i ⟨0, 0, 0⟩).t, (ss.getD i ⟨0, 0, 0⟩).h, (ss.getD i ⟨0, 0, 0⟩).u + X⟩, nx)
  | none => if h - nx < Y then none else some (⟨0, nx, X, nx + Y⟩, ss ++ [⟨nx, Y, X⟩], nx + Y)
def stepP (w h : Int) (st : Option (List Rc × List Sf × Int)) (z : Int × Int) : Option (List Rc × List Sf × Int) :=
  match st with
  | none => none
  | some (o, ss, nx) => match placeP w h ss nx z.1 z.2 with
    | none => none
    | some (r, ss', nx') => some (o ++ [r], ss', nx')
def runP (w h : Int) (l : List (Int × Int)) : Option (List Rc × List Sf × Int) := l.foldl (stepP w h) (some ([], [], 0))
def sizeB (z : Int × Int) : Bool := sideB z.1 && sideB z.2
def packR (w h : Int) (l : List (Int × Int)) : Option (List Rc) :=
  if sideB w && sideB h && decide (l.length ≤ 1024) && l.all sizeB then (runP w h l).map (·.1) else none

theorem sideB_true {n : Int} (h : sideB n = true) : 1 ≤ n ∧ n ≤ 4096 := by simpa [sideB] using h
theorem run_snoc (w h : Int) (l : List (Int × Int)) (z : Int × Int) : runP w h (l ++ [z]) = stepP w h (runP w h l) z := by
  unfold runP; rw [List.foldl_append]; rfl
theorem run_take (w h : Int) (l : List (Int × Int)) {k : Nat} (hk : k < l.length) : runP w h (l.take (k + 1)) = stepP w h (runP w h (l.take k)) l[k] := by
  rw [List.take_succ_eq_append_getElem hk, run_snoc]
theorem foldl_none (w h : Int) (l : List (Int × Int)) : l.foldl (stepP w h) none = none := by
  induction l with
  | nil => rfl
  | cons z l ih => exact ih
theorem run_none {w h : Int} {l : List (Int × Int)} (k : Nat) (hk : runP w h (l.take k) = none) : runP w h l = none := by
  have : runP w h l = (l.drop k).foldl (stepP w h) (runP w h (l.take k)) := by
    unfold runP; rw [← List.foldl_append, List.take_append_drop]
  rw [this, hk, foldl_none]

/-- What holds of the shelves while packing. -/
structure ShOk (w h : Int) (ss : List Sf) (nx : Int) : Prop where
  n0 : 0 ≤ nx
  n1 : nx ≤ h
  all : ∀ s ∈ ss, 0 ≤ s.t ∧ 1 ≤ s.h ∧ s.t + s.h ≤ nx ∧ 0 ≤ s.u ∧ s.u ≤ w

theorem getD_mem {ss : List Sf} {i : Nat} (hi : i < ss.length) : ss.getD i ⟨0, 0, 0⟩ ∈ ss := by
  rw [List.getD_eq_getElem?_getD, List.getElem?_eq_getElem hi]; exact List.getElem_mem hi
theorem find_some {w X Y : Int} {ss : List Sf} {i : Nat} (h : ss.findIdx? (fitsB w X Y) = some i) : i < ss.length ∧ fitsB w X Y (ss.getD i ⟨0, 0, 0⟩) = true := by
  obtain ⟨hi, hp, _⟩ := List.findIdx?_eq_some_iff_getElem.1 h
  refine ⟨hi, ?_⟩
  rw [List.getD_eq_getElem?_getD, List.getElem?_eq_getElem hi]; exact hp
theorem place_ok {w h : Int} {ss ss' : List Sf} {nx nx' X Y : Int} {r : Rc} (hok : ShOk w h ss nx) (hX : 1 ≤ X) (hY : 1 ≤ Y) (hp : placeP w h ss nx X Y = some (r, ss', nx')) : ShOk w h ss' nx' := by
  unfold placeP at hp
  by_cases hw : w < X
  · rw [if_pos hw] at hp; cases hp
  · rw [if_neg hw] at hp
    cases hf : ss.findIdx? (fitsB w X Y) with
    | some i =>
      rw [hf] at hp
      simp only [Option.some.injEq, Prod.mk.injEq] at hp
      obtain ⟨rfl, rfl, rfl⟩ := hp
      obtain ⟨hi, hfit⟩ := find_some hf
      have hm := hok.all _ (getD_mem hi)
      simp [fitsB] at hfit
      refine ⟨hok.n0, hok.n1, fun s hs => ?_⟩
      rcases List.mem_or_eq_of_mem_set hs with hs | rfl
      · exact hok.all s hs
      · simp only [List.getD_eq_getElem?_getD] at hm ⊢; omega
    | none =>
      rw [hf] at hp
      simp only at hp
      by_cases hh : h - nx < Y
      · rw [if_pos hh] at hp; cases hp
      · rw [if_neg hh] at hp
        simp only [Option.some.injEq, Prod.mk.injEq] at hp
        obtain ⟨rfl, rfl, rfl⟩ := hp
        have h0 := hok.n0
        refine ⟨by omega, by omega, fun s hs => ?_⟩
        rcases List.mem_append.1 hs with hs | hs
        · have := hok.all s hs; omega
        · have : s = ⟨nx, Y, X⟩ := by simpa using hs
          subst this
          simp only; omega
theorem place_len {w h : Int} {ss ss' : List Sf} {nx nx' X Y : Int} {r : Rc} (hp : placeP w h ss nx X Y = some (r, ss', nx')) : ss'.length ≤ ss.length + 1 := by
  unfold placeP at hp
  by_cases hw : w < X
  · rw [if_pos hw] at hp; cases hp
  · rw [if_neg hw] at hp
    cases hf : ss.findIdx? (fitsB w X Y) with
    | some i =>
      rw [hf] at hp
      simp only [Option.some.injEq, Prod.mk.injEq] at hp
      obtain ⟨_, rfl, _⟩ := hp
      simp
    | none =>
      rw [hf] at hp
      simp only at hp
      by_cases hh : h - nx < Y
      · rw [if_pos hh] at hp; cases hp
      · rw [if_neg hh] at hp
        simp only [Option.some.injEq, Prod.mk.injEq] at hp
        obtain ⟨_, rfl, _⟩ := hp
        simp
theorem run_len {w h : Int} : ∀ (k : Nat) (l : List (Int × Int)) (o : List Rc) (ss : List Sf) (nx : Int), k ≤ l.length → runP w h (l.take k) = some (o, ss, nx) → o.length = k ∧ ss.length ≤ k
  | 0, l, o, ss, nx, _, h' => by
    simp only [runP, List.take_zero, List.foldl_nil, Option.some.injEq, Prod.mk.injEq] at h'
    obtain ⟨rfl, rfl, rfl⟩ := h'
    simp
  | k + 1, l, o, ss, nx, hk, h' => by
    rw [run_take _ _ _ (by omega)] at h'
    cases hr : runP w h (l.take k) with
    | none => rw [hr] at h'; cases h'
    | some q =>
      obtain ⟨o0, ss0, nx0⟩ := q
      obtain ⟨i1, i2⟩ := run_len k l o0 ss0 nx0 (by omega) hr
      rw [hr] at h'
      simp only [stepP] at h'
      cases hp : placeP w h ss0 nx0 (l[k]'(by omega)).1 (l[k]'(by omega)).2 with
      | none => rw [hp] at h'; cases h'
      | some q =>
        obtain ⟨r, ss1, nx1⟩ := q
        rw [hp] at h'
        simp only [Option.some.injEq, Prod.mk.injEq] at h'
        obtain ⟨rfl, rfl, rfl⟩ := h'
        have := place_len hp
        simp; omega
theorem run_ok {w h : Int} (hh : 0 ≤ h) : ∀ (k : Nat) (l : List (Int × Int)) (o : List Rc) (ss : List Sf) (nx : Int), k ≤ l.length → (∀ z ∈ l.take k, sizeB z = true) → runP w h (l.take k) = some (o, ss, nx) → ShOk w h ss nx
  | 0, l, o, ss, nx, _, _, h' => by
    simp only [runP, List.take_zero, List.foldl_nil, Option.some.injEq, Prod.mk.injEq] at h'
    obtain ⟨rfl, rfl, rfl⟩ := h'
    exact ⟨by omega, hh, fun s hs => by cases hs⟩
  | k + 1, l, o, ss, nx, hk, hz, h' => by
    rw [run_take _ _ _ (by omega)] at h'
    cases hr : runP w h (l.take k) with
    | none => rw [hr] at h'; cases h'
    | some q =>
      obtain ⟨o0, ss0, nx0⟩ := q
      have hz0 : ∀ z ∈ l.take k, sizeB z = true := fun z hm => hz z (by rw [List.take_succ_eq_append_getElem (by omega)]; exact List.mem_append_left _ hm)
      have i1 := run_ok hh k l o0 ss0 nx0 (by omega) hz0 hr
      rw [hr] at h'
      simp only [stepP] at h'
      cases hp : placeP w h ss0 nx0 (l[k]'(by omega)).1 (l[k]'(by omega)).2 with
      | none => rw [hp] at h'; cases h'
      | some q =>
        obtain ⟨r, ss1, nx1⟩ := q
        rw [hp] at h'
        simp only [Option.some.injEq, Prod.mk.injEq] at h'
        obtain ⟨rfl, rfl, rfl⟩ := h'
        have hs := hz (l[k]'(by omega)) (by rw [List.take_succ_eq_append_getElem (by omega)]; exact List.mem_append_right _ (by simp))
        simp only [sizeB, Bool.and_eq_true] at hs
        exact place_ok i1 (sideB_true hs.1).1 (sideB_true hs.2).1 hp
end Go.Proofs.Ytiaeaegocfmjhaa
