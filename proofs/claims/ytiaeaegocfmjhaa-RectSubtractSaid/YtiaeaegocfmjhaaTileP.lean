/-
  Tiles in plain Lean: the list of the tiles, that of the reference, and how many tiles contain a pixel. No program here.
-/
import Derived.Test.YtiaeaegocfmjhaaRectQ
namespace Go.Proofs.Ytiaeaegocfmjhaa
set_option linter.unusedVariables false
set_option linter.unusedSimpArgs false

/-- How many starts a, a + s, .. lie below b. -/
def cntP (a b s : Int) : Nat := if a < b then ((b - a - 1) / s + 1).toNat else 0
theorem cnt_iff {a b s : Int} (hs : 1 ≤ s) (k : Nat) : k < cntP a b s ↔ a + (k : Int) * s < b := by
  unfold cntP
  split
  · next h =>
    have h0 : 0 ≤ (b - a - 1) / s := Int.ediv_nonneg (by omega) (by omega)
    have h1 : (k : Int) ≤ (b - a - 1) / s ↔ (k : Int) * s ≤ b - a - 1 := Int.le_ediv_iff_mul_le (by omega)
    constructor
    · intro h2
      have := h1.1 (by omega)
      omega
    · intro h2
      have := h1.2 (by omega)
      omega
  · next h =>
    have : 0 ≤ (k : Int) * s := Int.mul_nonneg (by omega) (by omega)
    constructor
    · intro h2; omega
    · intro h2; omega
theorem cnt_le {a b s : Int} (hs : 1 ≤ s) (h : b - a ≤ 8192) : cntP a b s ≤ 8192 := by
  apply Classical.byContradiction
  intro hc
  have h1 := (cnt_iff hs (a := a) (b := b) 8192).1 (by omega)
  have h2 : (8192 : Int) * 1 ≤ ((8192 : Nat) : Int) * s := Int.mul_le_mul_of_nonneg_left hs (by decide)
  omega
theorem cnt_cut {a b s : Int} (hs : 1 ≤ s) (h : b - a ≤ 8192) : cntP a b (min s 8192) = cntP a b s := by
  by_cases h1 : s ≤ 8192
  · rw [show min s 8192 = s by omega]
  · rw [show min s 8192 = 8192 by omega]
    unfold cntP
    split
    · next hab => rw [Int.ediv_eq_zero_of_lt (by omega) (by omega), Int.ediv_eq_zero_of_lt (by omega) (by omega)]
    · rfl
def startP (a b s : Int) : List Int := (List.range (cntP a b s)).map fun k : Nat => a + (k : Int) * s
theorem start_cut {a b s : Int} (hs : 1 ≤ s) (h : b - a ≤ 8192) : startP a b (min s 8192) = startP a b s := by
  unfold startP
  rw [cnt_cut hs h]
  by_cases h1 : s ≤ 8192
  · rw [show min s 8192 = s by omega]
  · have hc : cntP a b s ≤ 1 := by
      apply Classical.byContradiction
      intro hc
      have h2 := (cnt_iff hs (a := a) (b := b) 1).1 (by omega)
      omega
    refine List.map_congr_left fun k hk => ?_
    have : k < cntP a b s := List.mem_range.1 hk
    have hk0 : k = 0 := by omega
    subst hk0; simp
theorem start_mem {a b s x : Int} (hs : 1 ≤ s) (hx : x ∈ startP a b s) : a ≤ x ∧ x < b := by
  obtain ⟨k, hk, rfl⟩ := List.mem_map.1 hx
  have h1 := (cnt_iff hs (a := a) (b := b) k).1 (List.mem_range.1 hk)
  have : 0 ≤ (k : Int) * s := Int.mul_nonneg (by omega) (by omega)
  omega
/-- The tile that starts at x, y. -/
def tileR (r : Rc) (w h x y : Int) : Rc := ⟨x, y, x + min w (r.x1 - x), y + min h (r.y1 - y)⟩
def tilesC (c : Rc) (w h : Int) : List Rc := (startP c.y0 c.y1 h).flatMap fun y => (startP c.x0 c.x1 w).map fun x => tileR c w h x y
def tilesL (r : Rc) (w h : Int) : List Rc := if 1 ≤ w ∧ 1 ≤ h then tilesC (canonR r) w h else []
/-- The reference's. -/
def rtileR (r : Rc) (w h x y : Int) : Rc := ⟨x, y, min (x + w) r.x1, min (y + h) r.y1⟩
def rtilesC (r : Rc) (w h : Int) : List Rc := (startP r.y0 r.y1 h).flatMap fun y => (startP r.x0 r.x1 w).map fun x => rtileR r w h x y
def rtilesL (r : Rc) (w h : Int) : List Rc := if emptyB r then [] else if 1 ≤ w ∧ 1 ≤ h then rtilesC r (min w 8192) (min h 8192) else []
theorem fm_congr {α β : Type} {f g : α → List β} : ∀ {l : List α}, (∀ x ∈ l, f x = g x) → l.flatMap f = l.flatMap g
  | [], _ => rfl
  | x :: l, h => by rw [List.flatMap_cons, List.flatMap_cons, h x (by simp), fm_congr (fun y hy => h y (List.mem_cons_of_mem _ hy))]
theorem tiles_ref (r : Rc) (w h : Int) : rtilesL r w h = tilesL r w h := by
  unfold rtilesL tilesL
  cases he : emptyB r with
  | true =>
    rw [if_pos rfl, canon_of_empty he]
    split
    · simp [tilesC, startP, cntP]
    · rfl
  | false =>
    rw [if_neg (by simp), canon_of_full he]
    have hb := (emptyB_iff r).1 he
    by_cases hw : 1 ≤ w ∧ 1 ≤ h
    · rw [if_pos hw, if_pos hw]
      unfold rtilesC tilesC
      rw [start_cut hw.1 (by omega), start_cut hw.2 (by omega)]
      refine fm_congr fun y hy => ?_
      refine List.map_congr_left fun x hx => ?_
      have h1 := start_mem hw.1 hx
      have h2 := start_mem hw.2 hy
      unfold rtileR tileR
      congr 1 <;> omega
    · rw [if_neg hw, if_neg hw]
/-- Exactly one of the numbers below n has the property. -/
theorem count_one {p : Nat → Bool} {k0 : Nat} : ∀ n, (∀ k, k < n → (p k = true ↔ k = k0)) → (List.range n).countP p = if k0 < n then 1 else 0
  | 0, _ => by simp
  | n + 1, h => by
    rw [List.range_succ, List.countP_append, count_one n (fun k hk => h k (by omega))]
    have hn := h n (by omega)
    by_cases e : n = k0
    · rw [List.countP_singleton, if_pos (hn.2 e), if_neg (by omega), if_pos (by omega)]
    · have : ¬ p n = true := fun hh => e (hn.1 hh)
      rw [List.countP_singleton, if_neg this]
      by_cases h2 : k0 < n
      · rw [if_pos h2, if_pos (by omega)]
      · rw [if_neg h2, if_neg (by omega)]
/-- A number lies in exactly one of the pieces. -/
theorem piece {a b s y : Int} (hs : 1 ≤ s) (k : Nat) (hk : k < cntP a b s) : (a + (k : Int) * s ≤ y ∧ y < a + (k : Int) * s + min s (b - (a + (k : Int) * s))) ↔ (a ≤ y ∧ y < b ∧ (k : Int) = (y - a) / s) := by
  have h1 := (cnt_iff hs (a := a) (b := b) k).1 hk
  have h0 : 0 ≤ (k : Int) * s := Int.mul_nonneg (by omega) (by omega)
  have hd := Int.emod_add_mul_ediv (y - a) s
  have hm0 := Int.emod_nonneg (y - a) (show s ≠ 0 by omega)
  have hm1 := Int.emod_lt_of_pos (y - a) (show 0 < s by omega)
  constructor
  · intro ⟨h2, h3⟩
    refine ⟨by omega, by omega, ?_⟩
    have e : (y - a) / s = (k : Int) := by
      rw [Int.ediv_eq_iff_of_pos (by omega)]
      have : ((k : Int) + 1) * s = (k : Int) * s + s := by rw [Int.add_mul, Int.one_mul]
      constructor <;> omega
    exact e.symm
  · intro ⟨h2, h3, h4⟩
    rw [Int.mul_comm, ← h4] at hd
    omega
theorem cnt_has {a b s y : Int} (hs : 1 ≤ s) (h0 : a ≤ y) (h1 : y < b) : ((y - a) / s).toNat < cntP a b s := by
  rw [cnt_iff hs]
  have hq : 0 ≤ (y - a) / s := Int.ediv_nonneg (by omega) (by omega)
  rw [Int.toNat_of_nonneg hq]
  have := Int.ediv_mul_le (y - a) (show s ≠ 0 by omega)
  omega
theorem count_pieces {a b s y : Int} (hs : 1 ≤ s) {p : Int → Bool} (hp : ∀ n ∈ startP a b s, p n = true ↔ (n ≤ y ∧ y < n + min s (b - n))) : (startP a b s).countP p = if a ≤ y ∧ y < b then 1 else 0 := by
  unfold startP at hp ⊢
  rw [List.countP_map]
  by_cases h : a ≤ y ∧ y < b
  · rw [if_pos h, count_one (k0 := ((y - a) / s).toNat), if_pos (cnt_has hs h.1 h.2)]
    intro k hk
    have hq : 0 ≤ (y - a) / s := Int.ediv_nonneg (by omega) (by omega)
    show p (a + (k : Int) * s) = true ↔ _
    rw [hp _ (List.mem_map.2 ⟨k, List.mem_range.2 hk, rfl⟩), piece hs k hk]
    omega
  · rw [if_neg h]
    rw [List.countP_eq_zero]
    intro k hk hpk
    have hk' := List.mem_range.1 hk
    have := (piece (y := y) hs k hk').1 ((hp _ (List.mem_map.2 ⟨k, hk, rfl⟩)).1 hpk)
    exact h ⟨this.1, this.2.1⟩
theorem sum_ind {α : Type} (p : α → Bool) (c : Nat) : ∀ l : List α, (l.map fun x => if p x then c else 0).sum = l.countP p * c
  | [] => by simp
  | x :: l => by
    rw [List.map_cons, List.sum_cons, sum_ind p c l, List.countP_cons]
    split
    · rw [Nat.add_mul, Nat.one_mul]; omega
    · simp
/-- A pixel lies in exactly one tile. -/
theorem tile_has {c : Rc} (hc : fullP c) {w h x y px py : Int} (hw : 1 ≤ w) (hh : 1 ≤ h) (hx : x ∈ startP c.x0 c.x1 w) (hy : y ∈ startP c.y0 c.y1 h) :
    containsB (tileR c w h x y) px py = true ↔ (x ≤ px ∧ px < x + min w (c.x1 - x)) ∧ y ≤ py ∧ py < y + min h (c.y1 - y) := by
  have h1 := start_mem hw hx
  have h2 := start_mem hh hy
  obtain ⟨c0, c1, c2, c3, c4, c5⟩ := hc
  have he : emptyB (tileR c w h x y) = false := by
    rw [emptyB_iff]
    unfold tileR
    refine ⟨?_, ?_, ?_, ?_, ?_, ?_⟩ <;> (dsimp only; omega)
  unfold containsB
  rw [he]
  show (!false && decide (x ≤ px) && decide (px < x + min w (c.x1 - x)) && decide (y ≤ py) && decide (py < y + min h (c.y1 - y))) = true ↔ _
  simp only [Bool.not_false, Bool.true_and, Bool.and_eq_true, decide_eq_true_eq]
  constructor
  · rintro ⟨⟨⟨a, b⟩, c⟩, d⟩; exact ⟨⟨a, b⟩, c, d⟩
  · rintro ⟨⟨a, b⟩, c, d⟩; exact ⟨⟨⟨a, b⟩, c⟩, d⟩
theorem tiles_count {c : Rc} (hc : fullP c) {w h : Int} (hw : 1 ≤ w) (hh : 1 ≤ h) (px py : Int) :
    (tilesC c w h).countP (fun t => containsB t px py) = if (c.x0 ≤ px ∧ px < c.x1) ∧ c.y0 ≤ py ∧ py < c.y1 then 1 else 0 := by
  unfold tilesC
  rw [List.countP_flatMap]
  have e : (startP c.y0 c.y1 h).map (fun y => ((startP c.x0 c.x1 w).map fun x => tileR c w h x y).countP (fun t => containsB t px py)) =
      (startP c.y0 c.y1 h).map (fun y => if decide (y ≤ py ∧ py < y + min h (c.y1 - y)) then (if c.x0 ≤ px ∧ px < c.x1 then 1 else 0) else 0) := by
    refine List.map_congr_left fun y hy => ?_
    rw [List.countP_map]
    by_cases hyy : y ≤ py ∧ py < y + min h (c.y1 - y)
    · rw [if_pos (by simpa using hyy), ← count_pieces hw (p := (fun t => containsB t px py) ∘ fun x => tileR c w h x y)]
      intro x hx
      show containsB (tileR c w h x y) px py = true ↔ _
      rw [tile_has hc hw hh hx hy]
      exact ⟨fun hq => hq.1, fun hq => ⟨hq, hyy⟩⟩
    · rw [if_neg (by simpa using hyy), List.countP_eq_zero]
      intro x hx hq
      exact hyy ((tile_has hc hw hh hx hy).1 hq).2
  rw [show (startP c.y0 c.y1 h).map ((List.countP fun t => containsB t px py) ∘ fun y => (startP c.x0 c.x1 w).map fun x => tileR c w h x y) = _ from e, sum_ind, count_pieces hh (y := py) (fun y hy => by simp)]
  by_cases h1 : c.y0 ≤ py ∧ py < c.y1
  · rw [if_pos h1, Nat.one_mul]
    by_cases h2 : c.x0 ≤ px ∧ px < c.x1
    · rw [if_pos h2, if_pos ⟨h2, h1⟩]
    · rw [if_neg h2, if_neg (fun hh => h2 hh.1)]
  · rw [if_neg h1, Nat.zero_mul, if_neg (fun hh => h1 hh.2)]
end Go.Proofs.Ytiaeaegocfmjhaa
