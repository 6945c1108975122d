/-
  Extreme values row by row, then column by column: plain Lean. No program here.
-/
import Derived.Test.YtndablijjkchjaaMorP
import Derived.Test.YtndablijjkchjaaQueue
import Derived.Test.YtndablijjkchjaaCopyS
namespace Go.Proofs.Ytndablijjkchjaa
set_option linter.unusedVariables false
set_option linter.unusedSimpArgs false

theorem idx_ne {wd i x y r : Nat} (hi : i < wd) (hx : x < wd) (h : r * wd + x = y * wd + i) : i = x ∧ y = r := by
  rcases Nat.lt_trichotomy r y with h1 | h1 | h1
  · have : (r + 1) * wd ≤ y * wd := Nat.mul_le_mul_right _ h1
    rw [Nat.succ_mul] at this; omega
  · subst h1; exact ⟨by omega, rfl⟩
  · have : (y + 1) * wd ≤ r * wd := Nat.mul_le_mul_right _ h1
    rw [Nat.succ_mul] at this; omega
theorem gF_spl {wd ht j : Nat} {m ps : List Int} (hm : m.length = ht * wd) (hj : j < ht) (hp : ps.length = wd) {i y : Nat} (hi : i < wd) (hy : y < ht) :
    gF wd (splL m (j * wd) ps) i y = if y = j then ps.getD i 0 else gF wd m i y := by
  have h1 : (j + 1) * wd ≤ ht * wd := Nat.mul_le_mul_right _ hj
  rw [Nat.succ_mul] at h1
  unfold gF
  rw [List.getD_eq_getElem?_getD, spl_get (by omega), List.getD_eq_getElem?_getD, List.getD_eq_getElem?_getD]
  by_cases hyj : y = j
  · subst hyj
    rw [if_pos ⟨by omega, by omega⟩, if_pos rfl, show y * wd + i - y * wd = i by omega]
  · rw [if_neg hyj, if_neg]
    intro ⟨h2, h3⟩
    rcases Nat.lt_or_gt_of_ne hyj with h | h
    · have : (y + 1) * wd ≤ j * wd := Nat.mul_le_mul_right _ h
      rw [Nat.succ_mul] at this; omega
    · have : (j + 1) * wd ≤ y * wd := Nat.mul_le_mul_right _ h
      rw [Nat.succ_mul] at this; omega
theorem gF_set {wd ht x r : Nat} {m : List Int} (hm : m.length = ht * wd) (hx : x < wd) (hr : r < ht) (v : Int) {i y : Nat} (hi : i < wd) (hy : y < ht) :
    gF wd (m.set (r * wd + x) v) i y = if i = x ∧ y = r then v else gF wd m i y := by
  have hk := idx_lt hx hr
  unfold gF
  rw [List.getD_eq_getElem?_getD, List.getElem?_set, List.getD_eq_getElem?_getD]
  by_cases h : r * wd + x = y * wd + i
  · rw [if_pos h, if_pos (by omega), if_pos (idx_ne hi hx h)]; rfl
  · rw [if_neg h, if_neg (fun ⟨h1, h2⟩ => h (by rw [h1, h2]))]
theorem lineL_get {sg : Int} {f : Nat → Int} {count n i : Nat} (hi : i < count) : (lineL sg f count n).getD i 0 = lineV sg f count n i := by
  unfold lineL; rw [List.getD_eq_getElem?_getD, List.getElem?_map, List.getElem?_range hi]; rfl
/-- All values of the grid are bytes. -/
def byteG (wd ht : Nat) (m : List Int) : Prop := ∀ i y, i < wd → y < ht → 0 ≤ gF wd m i y ∧ gF wd m i y ≤ 255
theorem lineV_byte {sg : Int} (hs : sg = 1 ∨ sg = -1) {f : Nat → Int} {count n i : Nat} (hi : i < count) (h : ∀ j, j < count → 0 ≤ f j ∧ f j ≤ 255) : 0 ≤ lineV sg f count n i ∧ lineV sg f count n i ≤ 255 := by
  obtain ⟨⟨j, _, j1, j2⟩, _⟩ := lineV_spec hs f (n := n) hi
  rw [← j2]; exact h j (by omega)

/-- The rows before j are done. -/
structure RowI (sg : Int) (wd ht n : Nat) (L : List Int) (j : Nat) (m : List Int) : Prop where
  len : m.length = ht * wd
  at_ : ∀ i y, i < wd → y < ht → gF wd m i y = if y < j then lineV sg (fun i => gF wd L i y) wd n i else gF wd L i y
section
variable {sg : Int} {wd ht n : Nat} {L M m : List Int} {j x r : Nat}
theorem RowI.start (h : L.length = ht * wd) : RowI sg wd ht n L 0 L := ⟨h, fun i y _ _ => by rw [if_neg (Nat.not_lt_zero _)]⟩
theorem RowI.step (h : RowI sg wd ht n L j m) (hj : j < ht) : RowI sg wd ht n L (j + 1) (splL m (j * wd) (lineL sg (fun i => gF wd m i j) wd n)) := by
  have h1 : (j + 1) * wd ≤ ht * wd := Nat.mul_le_mul_right _ hj
  rw [Nat.succ_mul] at h1
  refine ⟨by rw [spl_len (by rw [lineL_len, h.len]; exact h1), h.len], fun i y hi hy => ?_⟩
  rw [gF_spl h.len hj (lineL_len _ _ _ _) hi hy]
  by_cases hyj : y = j
  · subst hyj
    rw [if_pos rfl, if_pos (by omega), lineL_get hi]
    exact lineV_congr hi fun a ha => by rw [h.at_ a y ha hy, if_neg (Nat.lt_irrefl _)]
  · rw [if_neg hyj, h.at_ i y hi hy]
    by_cases hl : y < j
    · rw [if_pos hl, if_pos (by omega)]
    · rw [if_neg hl, if_neg (by omega)]
theorem RowI.byte (hs : sg = 1 ∨ sg = -1) (h : RowI sg wd ht n L j m) (hb : byteG wd ht L) : byteG wd ht m := fun i y hi hy => by
  rw [h.at_ i y hi hy]
  split
  · exact lineV_byte hs hi fun a ha => hb a y ha hy
  · exact hb i y hi hy
/-- The columns before x, and of column x the rows before r, are done. -/
structure ColI (sg : Int) (wd ht n : Nat) (M : List Int) (x r : Nat) (m : List Int) : Prop where
  len : m.length = ht * wd
  at_ : ∀ i y, i < wd → y < ht → gF wd m i y = if i < x ∨ (i = x ∧ y < r) then lineV sg (fun y => gF wd M i y) ht n y else gF wd M i y
theorem ColI.start (h : M.length = ht * wd) : ColI sg wd ht n M 0 0 M := ⟨h, fun i y _ _ => by rw [if_neg (by omega)]⟩
theorem ColI.step (h : ColI sg wd ht n M x r m) (hx : x < wd) (hr : r < ht) : ColI sg wd ht n M x (r + 1) (m.set (r * wd + x) (lineV sg (fun y => gF wd M x y) ht n r)) := by
  refine ⟨by rw [List.length_set]; exact h.len, fun i y hi hy => ?_⟩
  rw [gF_set h.len hx hr _ hi hy]
  by_cases h1 : i = x ∧ y = r
  · rw [if_pos h1, if_pos (by omega), h1.1, h1.2]
  · rw [if_neg h1, h.at_ i y hi hy]
    by_cases h2 : i < x ∨ (i = x ∧ y < r)
    · rw [if_pos h2, if_pos (by omega)]
    · rw [if_neg h2, if_neg (by omega)]
theorem ColI.next (h : ColI sg wd ht n M x ht m) : ColI sg wd ht n M (x + 1) 0 m := ⟨h.len, fun i y hi hy => by
  rw [h.at_ i y hi hy]
  by_cases h2 : i < x ∨ (i = x ∧ y < ht)
  · rw [if_pos h2, if_pos (by omega)]
  · rw [if_neg h2, if_neg (by omega)]⟩
theorem ColI.line (h : ColI sg wd ht n M x 0 m) (hx : x < wd) : lineL sg (fun y => gF wd m x y) ht n = lineL sg (fun y => gF wd M x y) ht n := by
  unfold lineL
  refine List.map_congr_left fun i hi => lineV_congr (List.mem_range.1 hi) fun a ha => ?_
  rw [h.at_ x a hx ha, if_neg (by omega)]
theorem ColI.byte (hs : sg = 1 ∨ sg = -1) (h : ColI sg wd ht n M x r m) (hb : byteG wd ht M) : byteG wd ht m := fun i y hi hy => by
  rw [h.at_ i y hi hy]
  split
  · exact lineV_byte hs hy fun a ha => hb i a hi ha
  · exact hb i y hi hy
theorem ColI.done (hM : RowI sg wd ht n L ht M) (h : ColI sg wd ht n M wd 0 m) : m = exL sg wd ht n L := by
  refine grid_ext h.len (exL_len _ _ _ _ _) fun i y hi hy => ?_
  rw [exL_gF _ _ _ hi hy, h.at_ i y hi hy, if_pos (by omega)]
  exact lineV_congr hy fun a ha => by rw [hM.at_ i a hi ha, if_pos ha]
end
end Go.Proofs.Ytndablijjkchjaa
