/-
  Pasting of bitmaps in plain Lean.
-/
import Derived.Test.YtnefnnhnjmmebaaGreatRowP
import Derived.Test.YtnefnnhnjmmebaaGreatPlB
import Derived.Test.YtnefnnhnjmmebaaGreatBmAll
namespace Go.Proofs.YtnefnnhnjmmebaaGreat
open Go.RowKit
set_option linter.unusedSimpArgs false
set_option linter.unusedVariables false

theorem contains_iffc (r : Rc) (x y : Int) : containsB r x y = true ↔ (canonR r).x0 ≤ x ∧ x < (canonR r).x1 ∧ (canonR r).y0 ≤ y ∧ y < (canonR r).y1 := by
  rw [contains_canon]; simp [and_assoc]
theorem contains_inter (a b : Rc) (x y : Int) : containsB (interR a b) x y = (containsB a x y && containsB b x y) := by
  rw [Bool.eq_iff_iff, Bool.and_eq_true, contains_iffc, contains_iffc, contains_iffc, inter_cn]
  have ha := canon_bd a
  have hb := canon_bd b
  unfold interR
  generalize canonR a = p at *
  generalize canonR b = q at *
  cases he : emptyB ⟨max p.x0 q.x0, max p.y0 q.y0, min p.x1 q.x1, min p.y1 q.y1⟩ with
  | false => rw [canon_of_full he]; dsimp only; omega
  | true =>
    rw [canon_of_empty he]
    have h := mt (emptyB_iff ⟨max p.x0 q.x0, max p.y0 q.y0, min p.x1 q.x1, min p.y1 q.y1⟩).2 (by rw [he]; simp)
    dsimp only at h ⊢
    omega
def pstF (b : Bm) (h : Int → Int → Px) (x y : Int) : Px := if containsB b.r x y then atL zP b.r b.l x y else h x y
/-- The pixels of bitmaps over those of h, the last on top. -/
def pstG (l : List Bm) (h : Int → Int → Px) : Int → Int → Px := l.foldl (fun h b => pstF b h) h
theorem pstG_snoc (l : List Bm) (b : Bm) (h : Int → Int → Px) : pstG (l ++ [b]) h = pstF b (pstG l h) := by unfold pstG; rw [List.foldl_append]; rfl
def pasB (s : Bm) (l : List Bm) : Bool := vBm s && l.all vBm
def pasR (s : Bm) (l : List Bm) : Rc := if pasB s l then s.r else ⟨0, 0, 0, 0⟩
def pasL (s : Bm) (l : List Bm) : List Px := if pasB s l then pixL (pstG l (atL zP s.r s.l)) s.r else []
def pasE (s : Bm) (l : List Bm) : Int := if pasB s l then 0 else 15
/-- The state behind j rows of bitmap b. -/
def pstH (b : Bm) (q : Rc) (j : Nat) (h : Int → Int → Px) (x y : Int) : Px := if containsB q x y && decide (y < q.y0 + j) then atL zP b.r b.l x y else h x y
theorem pstH_zero (b : Bm) {q : Rc} (h : Int → Int → Px) (x y : Int) (hq : canonR q = q) : pstH b q 0 h x y = h x y := by
  unfold pstH
  cases hc : containsB q x y with
  | false => rfl
  | true =>
    have := (contains_iff hq x y).1 hc
    rw [show decide (y < q.y0 + ((0 : Nat) : Int)) = false from decide_eq_false (by simp; omega)]; rfl
theorem pstH_all (b : Bm) {R : Rc} (h : Int → Int → Px) {x y : Int} {ht : Nat} (hR : containsB R x y = true) (hht : (interR R b.r).y1 ≤ (interR R b.r).y0 + ht) : pstH b (interR R b.r) ht h x y = pstF b h x y := by
  unfold pstH pstF
  cases hc : containsB b.r x y with
  | false => rw [contains_inter, hc]; simp
  | true =>
    have hq : containsB (interR R b.r) x y = true := by rw [contains_inter, hR, hc]; rfl
    have := (contains_iff (inter_cn R b.r) x y).1 hq
    rw [hq, decide_eq_true (show y < (interR R b.r).y0 + (ht : Int) by omega)]; rfl
/-- A row laid into a list of pixels. -/
theorem spl_at {R q : Rc} {m ps : List Px} (hc : canonR R = R) (hl : (m.length : Int) = areaR R) (hq : emptyB q = false) (h0 : R.x0 ≤ q.x0) (h1 : q.x1 ≤ R.x1) {Y : Int} (h2 : R.y0 ≤ Y) (h3 : Y < R.y1) {wd k : Nat} (hwd : q.x1 - q.x0 = (wd : Int)) (hps : ps.length = wd) (hk : pixR R q.x0 Y = (k : Int)) (hkm : k + wd ≤ m.length)
    {x y : Int} (hxy : containsB R x y = true) : atL zP R (splL m k ps) x y = if y = Y ∧ q.x0 ≤ x ∧ x < q.x1 then ps.getD (x - q.x0).toNat zP else atL zP R m x y := by
  have hqf := (emptyB_iff q).1 hq
  have hR := (contains_iff hc x y).1 hxy
  have hk0 := pix_form ((contains_iff hc q.x0 Y).2 ⟨by omega, by omega, by omega, by omega⟩)
  have hp := pix_form hxy
  rw [hk] at hk0
  have hk1 : k = (Y - R.y0).toNat * (R.x1 - R.x0).toNat + (q.x0 - R.x0).toNat := by omega
  unfold atL
  rw [if_pos hxy, if_pos hxy, hp, Int.toNat_natCast, List.getD_eq_getElem?_getD, List.getD_eq_getElem?_getD, List.getD_eq_getElem?_getD, spl_get (by omega), hps]
  have hW : (x - R.x0).toNat < (R.x1 - R.x0).toNat := by omega
  have hD : (q.x0 - R.x0).toNat + wd ≤ (R.x1 - R.x0).toNat := by omega
  by_cases hy : y = Y
  · subst hy
    by_cases hx : q.x0 ≤ x ∧ x < q.x1
    · rw [if_pos (by rw [hk1]; omega), if_pos ⟨rfl, hx.1, hx.2⟩]
      congr 2
      rw [hk1]; omega
    · rw [if_neg (by rw [hk1]; omega), if_neg (fun h => hx h.2)]
  · have hno : ¬ (k ≤ (y - R.y0).toNat * (R.x1 - R.x0).toNat + (x - R.x0).toNat ∧ (y - R.y0).toNat * (R.x1 - R.x0).toNat + (x - R.x0).toNat < k + wd) := by
      generalize (R.x1 - R.x0).toNat = W at *
      intro hh
      rcases Int.lt_or_gt_of_ne hy with hlt | hgt
      · have : ((y - R.y0).toNat + 1) * W ≤ (Y - R.y0).toNat * W := Nat.mul_le_mul_right _ (by omega)
        rw [Nat.succ_mul] at this; omega
      · have : ((Y - R.y0).toNat + 1) * W ≤ (y - R.y0).toNat * W := Nat.mul_le_mul_right _ (by omega)
        rw [Nat.succ_mul] at this; omega
    rw [if_neg hno, if_neg (fun h => hy h.1)]
/-- .. of a bitmap: one row further on. -/
theorem pst_row {R : Rc} {b : Bm} {m : List Px} {h : Int → Int → Px} (hc : canonR R = R) (hl : (m.length : Int) = areaR R) (hq : emptyB (interR R b.r) = false) {j : Nat} (hj : (interR R b.r).y0 + j < (interR R b.r).y1) {wd k : Nat} (hwd : (interR R b.r).x1 - (interR R b.r).x0 = (wd : Int))
    (hk : pixR R (interR R b.r).x0 ((interR R b.r).y0 + j) = (k : Int)) (hkm : k + wd ≤ m.length)
    (hm : ∀ x y, containsB R x y = true → atL zP R m x y = pstH b (interR R b.r) j h x y) :
    ∀ x y, containsB R x y = true → atL zP R (splL m k (rowL (atL zP b.r b.l) (interR R b.r).x0 ((interR R b.r).y0 + j) wd)) x y = pstH b (interR R b.r) (j + 1) h x y := fun x y hxy => by
  obtain ⟨e1, e2, e3⟩ := inter_full hq
  have hqc := inter_cn R b.r
  have hRf := (emptyB_iff R).1 e1
  have x0 : (interR R b.r).x0 = max R.x0 b.r.x0 := by rw [e3]
  have x1 : (interR R b.r).x1 = min R.x1 b.r.x1 := by rw [e3]
  have y0 : (interR R b.r).y0 = max R.y0 b.r.y0 := by rw [e3]
  have y1 : (interR R b.r).y1 = min R.y1 b.r.y1 := by rw [e3]
  rw [spl_at hc hl hq (by omega) (by omega) (by omega) (by omega) hwd (rowL_len _ _ _ _) hk hkm hxy, hm x y hxy]
  generalize interR R b.r = q at *
  unfold pstH
  have hci := contains_iff hqc x y
  by_cases hin : y = q.y0 + j ∧ q.x0 ≤ x ∧ x < q.x1
  · rw [if_pos hin]
    have hcq : containsB q x y = true := hci.2 ⟨by omega, by omega, by omega, by omega⟩
    rw [hcq, decide_eq_true (show y < q.y0 + ((j + 1 : Nat) : Int) by omega)]
    rw [List.getD_eq_getElem?_getD, row_get _ _ _ (show (x - q.x0).toNat < wd by omega)]
    show atL zP b.r b.l (q.x0 + ((x - q.x0).toNat : Int)) (q.y0 + j) = atL zP b.r b.l x y
    rw [show q.x0 + ((x - q.x0).toNat : Int) = x by omega, hin.1]
  · rw [if_neg hin]
    cases hcq : containsB q x y with
    | false => rfl
    | true =>
      have hh := hci.1 hcq
      rw [show decide (y < q.y0 + ((j + 1 : Nat) : Int)) = decide (y < q.y0 + (j : Int)) by rw [decide_eq_decide]; constructor <;> intro _ <;> omega]
end Go.Proofs.YtnefnnhnjmmebaaGreat
