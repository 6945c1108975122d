/-
  The walk of grisailleref09.Tiles.
-/
import Derived.Test.YtiaeaegocfmjhaaSub
import Derived.Test.YtiaeaegocfmjhaaTileP
import Derived.Test.YtiaeaegocfmjhaaStarts
import Derived.Test.YtiaeaegocfmjhaaCollect
namespace Go.Proofs.Ytiaeaegocfmjhaa
open Go.RowKit
set_option linter.unusedSimpArgs false
set_option linter.unusedVariables false

def rrow (r : Rc) (w h y : Int) (xs : List Int) : List Rc := xs.map fun x => rtileR r w h x y
def rrows (r : Rc) (w h : Int) (ys : List Int) : List Rc := ys.flatMap fun y => rrow r w h y (startP r.x0 r.x1 w)
theorem rrow_snoc (r : Rc) (w h y : Int) (xs : List Int) (x : Int) : rrow r w h y (xs ++ [x]) = rrow r w h y xs ++ [rtileR r w h x y] := by simp [rrow]
theorem rrows_snoc (r : Rc) (w h : Int) (ys : List Int) (y : Int) : rrows r w h (ys ++ [y]) = rrows r w h ys ++ rrow r w h y (startP r.x0 r.x1 w) := by simp [rrows]

theorem rrow_len (r : Rc) (w h y : Int) (xs : List Int) : (rrow r w h y xs).length = xs.length := by simp [rrow]
theorem rrows_len (r : Rc) (w h : Int) (ys : List Int) : (rrows r w h ys).length = ys.length * cntP r.x0 r.x1 w := by
  induction ys with
  | nil => simp [rrows]
  | cons y ys ih => rw [List.length_cons, Nat.add_mul, ← ih]; simp [rrows, rrow, startP_len]; omega

set_option maxHeartbeats 1000000 in
theorem rtiles_any (a b c d w h : Int) (W : World) :
    Calls Try.prog 37 #[.agg #[.int .i64 a, .int .i64 b, .int .i64 c, .int .i64 d], .int .i64 w, .int .i64 h] W (RetR (tilesL ⟨a, b, c, d⟩ w h) W) := by
  rw [← tiles_ref]
  obtain ⟨v, Hv⟩ : ∃ v, Hid (emptyB ⟨a, b, c, d⟩ = v) := ⟨_, rfl⟩
  obtain ⟨R, HR⟩ : ∃ R, Hid (rtilesL ⟨a, b, c, d⟩ w h = R) := ⟨_, rfl⟩
  rw [HR.out]
  go_enter Try.func37, Try.ntmps37
  go_wp2_with fail
  refine (rempty_q _ _ _ _ v Hv _).mono ?_
  rintro e w1 ⟨rfl, hb1⟩
  have kA1 : Bk w1 (W.heap.size) 23 #[.int .i64 a, .int .i64 b, .int .i64 c, .int .i64 d] := (by repeat (first | (with_reducible assumption) | ((with_reducible refine Bk.new _ _ _ ?_); first | (with_reducible rfl) | (simp; done)) | (with_reducible refine Bk.alloc ?_ _) | (with_reducible refine Bk.drew ?_) | (with_reducible refine Bk.drewN ?_ _) | ((with_reducible refine Bk.far ?_ ?_ _); rotate_left; focus (first | (simp; done) | (simp; omega))) | (with_reducible refine Bk.below ?_ (by with_reducible assumption)))); obtain ⟨kcA1, kfA1, kaA1, kgA1, klA1⟩ := kA1.rules; have kO1 : Bk w1 (W.heap.size + 1) 23 #[] := (by repeat (first | (with_reducible assumption) | ((with_reducible refine Bk.new _ _ _ ?_); first | (with_reducible rfl) | (simp; done)) | (with_reducible refine Bk.alloc ?_ _) | (with_reducible refine Bk.drew ?_) | (with_reducible refine Bk.drewN ?_ _) | ((with_reducible refine Bk.far ?_ ?_ _); rotate_left; focus (first | (simp; done) | (simp; omega))) | (with_reducible refine Bk.below ?_ (by with_reducible assumption)))); obtain ⟨kcO1, kfO1, kaO1, kgO1, klO1⟩ := kO1.rules
  have hw1 : Below W.heap.size W w1 := (by repeat (first | (with_reducible exact Below.refl _ _) | (with_reducible refine balloc ?_ _) | (with_reducible refine Below.drew ?_) | (with_reducible refine bdrewN ?_ _) | ((with_reducible refine bset ?_ ?_ _); rotate_left; focus (first | (with_reducible exact Nat.le_refl _) | (simp; done) | (simp; omega) | omega)) | (with_reducible refine bstep (by with_reducible assumption) ?_)))
  have own0 : OwnL encR 23 4 w1 (W.heap.size + 1) (.slice (some ⟨W.heap.size + 1, 0, none⟩) 0 0) [] := OwnL.lit (l := []) encR_len kO1 (Nat.le_refl _) (by unfold maxLen; simp) rfl
  cases v with
  | true =>
    have hR : R = [] := by rw [← HR.out]; unfold rtilesL; rw [Hv.out]; rfl
    subst hR
    go_wp2
    go_ret
    exact ⟨_, rfl, own0.mono (Nat.le_succ _), hw1⟩
  | false =>
    by_cases hw : w < 1
    · have hR : R = [] := by rw [← HR.out]; unfold rtilesL; rw [Hv.out, if_neg (by simp), if_neg (by omega)]
      subst hR
      go_wp2
      go_ret
      exact ⟨_, rfl, own0.mono (Nat.le_succ _), hw1⟩
    by_cases hh : h < 1
    · have hR : R = [] := by rw [← HR.out]; unfold rtilesL; rw [Hv.out, if_neg (by simp), if_neg (by omega)]
      subst hR
      go_wp2
      go_ret
      exact ⟨_, rfl, own0.mono (Nat.le_succ _), hw1⟩
    have hf := (emptyB_iff _).1 Hv.out
    obtain ⟨f0, f1, f2, f3, f4, f5⟩ := hf
    dsimp only at f0 f1 f2 f3 f4 f5
    have i1 := min_if w 8192
    have i2 := min_if h 8192
    obtain ⟨p, Hp⟩ : ∃ p, Hid (min w 8192 = p) := ⟨_, rfl⟩
    obtain ⟨q, Hq⟩ : ∃ q, Hid (min h 8192 = q) := ⟨_, rfl⟩
    have p1 : 1 ≤ p ∧ p ≤ 8192 := by have := Hp.out; omega
    have q1 : 1 ≤ q ∧ q ≤ 8192 := by have := Hq.out; omega
    have HR2 : Hid (R = rrows ⟨a, b, c, d⟩ p q (startP b d q)) := by unfold Hid; rw [← HR.out]; unfold rtilesL; rw [Hv.out, if_neg (by simp), if_pos (by omega), Hp.out, Hq.out]; rfl
    rw [Hp.out] at i1
    rw [Hq.out] at i2
    clear HR Hv
    go_wp2
    clear i1 i2
    go_loopw [7, 8, 9] (fun o y x wr => ∃ k : Nat, k ≤ cntP b d q ∧ y = .int .i64 (b + (k : Int) * q) ∧ Bk wr W.heap.size 23 #[.int .i64 a, .int .i64 b, .int .i64 c, .int .i64 d] ∧ OwnL encR 23 4 wr (W.heap.size + 1) o (rrows ⟨a, b, c, d⟩ p q (firstS b q k)) ∧ Below W.heap.size W wr) (fun _ y _ _ => (d - intOf y).toNat)
    case atStart => exact ⟨0, Nat.zero_le _, by simp, kA1, own0, hw1⟩
    case round =>
      obtain ⟨k, hk, rfl, kA, ho, hw2⟩ := hrel
      have hci := cnt_iff q1.1 (a := b) (b := d) k
      have hci1 := cnt_iff q1.1 (a := b) (b := d) (k + 1)
      have hks : 0 ≤ (k : Int) * q := Int.mul_nonneg (by omega) (by omega)
      have hk1 : ((k + 1 : Nat) : Int) * q = (k : Int) * q + q := by rw [Int.natCast_add, Int.add_mul]; simp
      rw [hk1] at hci1
      obtain ⟨y, hy⟩ : ∃ y, b + (k : Int) * q = y := ⟨_, rfl⟩
      rw [show b + ((k : Int) * q + q) = y + q by omega] at hci1
      rw [hy] at hci ⊢
      have hya : b ≤ y := by omega
      have HY := Lib.hid hy
      clear hy hks hk1
      obtain ⟨kcA, kfA, kaA, kgA, klA⟩ := kA.rules
      by_cases hlt : y < d
      · have hkc := hci.2 hlt
        have HS : Hid (firstS b q k ++ [y] = firstS b q (k + 1)) := by unfold Hid; rw [firstS_succ, HY.out]
        have hye : decide (y < d) = true := by simp [hlt]
        obtain ⟨rs, HRS⟩ : ∃ rs, Hid (rrows ⟨a, b, c, d⟩ p q (firstS b q k) = rs) := ⟨_, rfl⟩
        rw [HRS.out] at ho
        have hrl : rs.length ≤ 67108864 := by
          rw [← HRS.out, rrows_len, firstS_len]
          have h1 := cnt_max (a := a) (b := c) p1.1
          have h2 := cnt_max (a := b) (b := d) q1.1
          have : k * cntP a c p ≤ 8192 * 8192 := Nat.mul_le_mul (by omega) (by omega)
          simpa using this
        go_wp2
        go_loopw [7, 9] (fun o x wr => ∃ j : Nat, j ≤ cntP a c p ∧ x = .int .i64 (a + (j : Int) * p) ∧ Bk wr W.heap.size 23 #[.int .i64 a, .int .i64 b, .int .i64 c, .int .i64 d] ∧ OwnL encR 23 4 wr (W.heap.size + 1) o (rs ++ rrow ⟨a, b, c, d⟩ p q y (firstS a p j)) ∧ Below W.heap.size W wr) (fun _ x _ => (c - intOf x).toNat)
        case atStart => exact ⟨0, Nat.zero_le _, by simp, kA, by simpa [rrow, firstS] using ho, hw2⟩
        case round =>
          obtain ⟨j, hj, rfl, kA, ho, hw2⟩ := hrel
          obtain ⟨kcA, kfA, kaA, kgA, klA⟩ := kA.rules
          have hcj := cnt_iff p1.1 (a := a) (b := c) j
          have hcj1 := cnt_iff p1.1 (a := a) (b := c) (j + 1)
          have hjs : 0 ≤ (j : Int) * p := Int.mul_nonneg (by omega) (by omega)
          have hj1 : ((j + 1 : Nat) : Int) * p = (j : Int) * p + p := by rw [Int.natCast_add, Int.add_mul]; simp
          rw [hj1] at hcj1
          obtain ⟨x, hx⟩ : ∃ x, a + (j : Int) * p = x := ⟨_, rfl⟩
          rw [show a + ((j : Int) * p + p) = x + p by omega] at hcj1
          rw [hx] at hcj ⊢
          have hxa : a ≤ x := by omega
          have HX := Lib.hid hx
          clear hx hjs hj1
          by_cases hltx : x < c
          · have hjc := hcj.2 hltx
            have HSX : Hid ((rs ++ rrow ⟨a, b, c, d⟩ p q y (firstS a p j)) ++ [⟨x, y, min (x + p) c, min (y + q) d⟩] = rs ++ rrow ⟨a, b, c, d⟩ p q y (firstS a p (j + 1))) := by unfold Hid; rw [firstS_succ, rrow_snoc, HX.out]; simp [rtileR]
            have hll : (rs ++ rrow ⟨a, b, c, d⟩ p q y (firstS a p j)).length ≤ 4294967296 := by
              rw [List.length_append, rrow_len, firstS_len]
              have h1 := cnt_max (a := a) (b := c) p1.1
              omega
            have i1 := min_if (x + p) c
            have i2 := min_if (y + q) d
            have hzb : W.heap.size + 1 ≤ wr.heap.size := by have := klA; omega
            go_wp2_with (at_builtin; refine wpList_append_one encR_len encR_one 25 Try.infoRect rfl (by decide) (by decide) Try.underlying25 rfl _ _ rfl (W.heap.size + 1) _ _ rfl (ho.alloc _) wr.heap.size ⟨x, y, min (x + p) c, min (y + q) d⟩ rfl (Bk.new _ _ _ rfl) rfl hll (by simp; omega) ?_; intro v5 w5 ho5 hg5 hv5)
            have kA5 := (kA.alloc (.cells #[.int .i64 x, .int .i64 y, .int .i64 (min (x + p) c), .int .i64 (min (y + q) d)] 23)).grownRow (ho.alloc _) hg5 (Nat.lt_succ_self _)
            have hw5 := below_grown (ho.alloc _) hg5 (balloc hw2 _) (Nat.le_succ _)
            rw [HSX.out] at ho5
            refine ⟨⟨j + 1, by omega, ?_, kA5, ho5, hw5⟩, by simp [intOf]; omega⟩
            rw [show a + ((j + 1 : Nat) : Int) * p = x + p by rw [← HX.out, Int.natCast_add, Int.add_mul]; simp; omega]
          · have hje : j = cntP a c p := by
              have : ¬ (j < cntP a c p) := fun h => hltx (hcj.1 h)
              omega
            go_wp2
            refine ⟨⟨k + 1, by omega, ?_, kA, ?_, hw2⟩, by simp [intOf]; omega⟩
            · rw [show b + ((k + 1 : Nat) : Int) * q = y + q by rw [← HY.out, Int.natCast_add, Int.add_mul]; simp; omega]
            · rw [← HS.out, rrows_snoc, HRS.out, ← firstS_all a c p, ← hje]
              exact ho
      · have hke : k = cntP b d q := by
          have : ¬ (k < cntP b d q) := fun h => hlt (hci.1 h)
          omega
        go_wp2
        go_ret
        refine ⟨_, rfl, ?_, hw2⟩
        rw [HR2.out, ← firstS_all, ← hke]
        exact ho.mono (Nat.le_succ _)
end Go.Proofs.Ytiaeaegocfmjhaa
