/-
  The walks of the reference of chapter 9 (grisailleref09), first part.
-/
import Derived.Test.YtiaeaegocfmjhaaRows
import Derived.Test.YtiaeaegocfmjhaaGo
import Derived.Test.YtiaeaegocfmjhaaBase
import Derived.Test.YtiaeaegocfmjhaaRectP
namespace Go.Proofs.Ytiaeaegocfmjhaa
open Go.RowKit
set_option linter.unusedSimpArgs false
set_option linter.unusedVariables false


set_option maxHeartbeats 400000 in
theorem rmay_any (n : Int) (w : World) :
    Calls Try.prog 44 #[.int .i64 n] w fun e w' => e = .returned (.bool (mayB n)) ∧ w = w' := by
  go_enter Try.func44, Try.ntmps44
  go_wp2
  all_goals
    go_ret
    exact ⟨ret_bool (by simp [mayB]; try omega), rfl⟩

set_option maxHeartbeats 400000 in
theorem rvalid_any (a b c d : Int) (w : World) :
    Calls Try.prog 18 #[.agg #[.int .i64 a, .int .i64 b, .int .i64 c, .int .i64 d]] w fun e w' => e = .returned (.bool (validB ⟨a, b, c, d⟩)) ∧ Below w.heap.size w w' := by
  go_enter Try.func18, Try.ntmps18
  go_wp2_with (go_at_call 44; refine (rmay_any _ _).mono ?_; rintro e w' ⟨rfl, rfl⟩)
  all_goals
    go_ret
    exact ⟨ret_bool (by simp [validB, *]), (by repeat (first | (with_reducible exact Below.refl _ _) | (with_reducible refine balloc ?_ _) | (with_reducible refine Below.drew ?_) | (with_reducible refine bdrewN ?_ _) | ((with_reducible refine bset ?_ ?_ _); rotate_left; focus (first | (with_reducible exact Nat.le_refl _) | (simp; done) | (simp; omega) | omega)) | (with_reducible refine bstep (by with_reducible assumption) ?_)))⟩

set_option maxHeartbeats 400000 in
theorem rempty_any (a b c d : Int) (w : World) :
    Calls Try.prog 20 #[.agg #[.int .i64 a, .int .i64 b, .int .i64 c, .int .i64 d]] w fun e w' => e = .returned (.bool (emptyB ⟨a, b, c, d⟩)) ∧ Below w.heap.size w w' := by
  go_enter Try.func20, Try.ntmps20
  go_wp2_with (go_at_call 18; refine (rvalid_any _ _ _ _ _).mono ?_; rintro e w1 ⟨rfl, hb1⟩; have kA1 : Bk w1 (w.heap.size) 23 #[.int .i64 a, .int .i64 b, .int .i64 c, .int .i64 d] := (by repeat (first | (with_reducible assumption) | ((with_reducible refine Bk.new _ _ _ ?_); first | (with_reducible rfl) | (simp; done)) | (with_reducible refine Bk.alloc ?_ _) | (with_reducible refine Bk.drew ?_) | (with_reducible refine Bk.drewN ?_ _) | ((with_reducible refine Bk.far ?_ ?_ _); rotate_left; focus (first | (simp; done) | (simp; omega))) | (with_reducible refine Bk.below ?_ (by with_reducible assumption)))); obtain ⟨kcA1, kfA1, kaA1, kgA1, klA1⟩ := kA1.rules)
  all_goals
    go_ret
    exact ⟨ret_bool (by simp [emptyB, *]), (by repeat (first | (with_reducible exact Below.refl _ _) | (with_reducible refine balloc ?_ _) | (with_reducible refine Below.drew ?_) | (with_reducible refine bdrewN ?_ _) | ((with_reducible refine bset ?_ ?_ _); rotate_left; focus (first | (with_reducible exact Nat.le_refl _) | (simp; done) | (simp; omega) | omega)) | (with_reducible refine bstep (by with_reducible assumption) ?_)))⟩

set_option maxHeartbeats 400000 in
theorem rcanon_any (a b c d : Int) (w : World) :
    Calls Try.prog 22 #[.agg #[.int .i64 a, .int .i64 b, .int .i64 c, .int .i64 d]] w fun e w' =>
      e = .returned (.agg #[.int .i64 (canonR ⟨a, b, c, d⟩).x0, .int .i64 (canonR ⟨a, b, c, d⟩).y0, .int .i64 (canonR ⟨a, b, c, d⟩).x1, .int .i64 (canonR ⟨a, b, c, d⟩).y1]) ∧ Below w.heap.size w w' := by
  go_enter Try.func22, Try.ntmps22
  go_wp2_with (go_at_call 20; refine (rempty_any _ _ _ _ _).mono ?_; rintro e w1 ⟨rfl, hb1⟩; have kA1 : Bk w1 (w.heap.size) 23 #[.int .i64 a, .int .i64 b, .int .i64 c, .int .i64 d] := (by repeat (first | (with_reducible assumption) | ((with_reducible refine Bk.new _ _ _ ?_); first | (with_reducible rfl) | (simp; done)) | (with_reducible refine Bk.alloc ?_ _) | (with_reducible refine Bk.drew ?_) | (with_reducible refine Bk.drewN ?_ _) | ((with_reducible refine Bk.far ?_ ?_ _); rotate_left; focus (first | (simp; done) | (simp; omega))) | (with_reducible refine Bk.below ?_ (by with_reducible assumption)))); obtain ⟨kcA1, kfA1, kaA1, kgA1, klA1⟩ := kA1.rules; have kY1 : Bk w1 (w.heap.size + 1) 23 #[.int .i64 0, .int .i64 0, .int .i64 0, .int .i64 0] := (by repeat (first | (with_reducible assumption) | ((with_reducible refine Bk.new _ _ _ ?_); first | (with_reducible rfl) | (simp; done)) | (with_reducible refine Bk.alloc ?_ _) | (with_reducible refine Bk.drew ?_) | (with_reducible refine Bk.drewN ?_ _) | ((with_reducible refine Bk.far ?_ ?_ _); rotate_left; focus (first | (simp; done) | (simp; omega))) | (with_reducible refine Bk.below ?_ (by with_reducible assumption)))); obtain ⟨kcY1, kfY1, kaY1, kgY1, klY1⟩ := kY1.rules)
  all_goals
    refine bodyPost_ret (v := _) ?_ rfl ⟨rfl, (by repeat (first | (with_reducible exact Below.refl _ _) | (with_reducible refine balloc ?_ _) | (with_reducible refine Below.drew ?_) | (with_reducible refine bdrewN ?_ _) | ((with_reducible refine bset ?_ ?_ _); rotate_left; focus (first | (with_reducible exact Nat.le_refl _) | (simp; done) | (simp; omega) | omega)) | (with_reducible refine bstep (by with_reducible assumption) ?_)))⟩
    simp [results, Try.results22, go_sem, canonR, *]

theorem rcanon_q (a b c d : Int) (q : Rc) (hq : Hid (canonR ⟨a, b, c, d⟩ = q)) (w : World) :
    Calls Try.prog 22 #[.agg #[.int .i64 a, .int .i64 b, .int .i64 c, .int .i64 d]] w fun e w' => e = .returned (.agg #[.int .i64 q.x0, .int .i64 q.y0, .int .i64 q.x1, .int .i64 q.y1]) ∧ Below w.heap.size w w' := by
  have h := hq.out; subst h; exact rcanon_any a b c d w


theorem rempty_q (a b c d : Int) (v : Bool) (hv : Hid (emptyB ⟨a, b, c, d⟩ = v)) (w : World) :
    Calls Try.prog 20 #[.agg #[.int .i64 a, .int .i64 b, .int .i64 c, .int .i64 d]] w fun e w' => e = .returned (.bool v) ∧ Below w.heap.size w w' := by
  have h := hv.out; subst h; exact rempty_any a b c d w

set_option maxHeartbeats 400000 in
theorem rarea_any (a b c d : Int) (w : World) :
    Calls Try.prog 24 #[.agg #[.int .i64 a, .int .i64 b, .int .i64 c, .int .i64 d]] w fun e w' => e = .returned (.int .i64 (areaR ⟨a, b, c, d⟩)) ∧ Below w.heap.size w w' := by
  obtain ⟨q, Hq⟩ : ∃ q, Hid (canonR ⟨a, b, c, d⟩ = q) := ⟨_, rfl⟩
  have hbd := canon_bd ⟨a, b, c, d⟩
  rw [Hq.out] at hbd
  have hm := mul_bd (a := q.x1 - q.x0) (b := q.y1 - q.y0) (by omega) (by omega) (by omega) (by omega)
  go_enter Try.func24, Try.ntmps24
  go_wp2_with (go_at_call 22; refine (rcanon_q _ _ _ _ q Hq _).mono ?_; rintro e w1 ⟨rfl, hb1⟩; have kA1 : Bk w1 (w.heap.size) 23 #[.int .i64 a, .int .i64 b, .int .i64 c, .int .i64 d] := (by repeat (first | (with_reducible assumption) | ((with_reducible refine Bk.new _ _ _ ?_); first | (with_reducible rfl) | (simp; done)) | (with_reducible refine Bk.alloc ?_ _) | (with_reducible refine Bk.drew ?_) | (with_reducible refine Bk.drewN ?_ _) | ((with_reducible refine Bk.far ?_ ?_ _); rotate_left; focus (first | (simp; done) | (simp; omega))) | (with_reducible refine Bk.below ?_ (by with_reducible assumption)))); obtain ⟨kcA1, kfA1, kaA1, kgA1, klA1⟩ := kA1.rules)
  go_ret
  exact ⟨ret_int (by unfold areaR; rw [Hq.out]), (by repeat (first | (with_reducible exact Below.refl _ _) | (with_reducible refine balloc ?_ _) | (with_reducible refine Below.drew ?_) | (with_reducible refine bdrewN ?_ _) | ((with_reducible refine bset ?_ ?_ _); rotate_left; focus (first | (with_reducible exact Nat.le_refl _) | (simp; done) | (simp; omega) | omega)) | (with_reducible refine bstep (by with_reducible assumption) ?_)))⟩

set_option maxHeartbeats 400000 in
theorem rcontains_any (a b c d x y : Int) (w : World) :
    Calls Try.prog 26 #[.agg #[.int .i64 a, .int .i64 b, .int .i64 c, .int .i64 d], .int .i64 x, .int .i64 y] w fun e w' => e = .returned (.bool (containsB ⟨a, b, c, d⟩ x y)) ∧ Below w.heap.size w w' := by
  obtain ⟨q, Hq⟩ : ∃ q, Hid (canonR ⟨a, b, c, d⟩ = q) := ⟨_, rfl⟩
  have Hc : Hid (containsB ⟨a, b, c, d⟩ x y = (decide (q.x0 ≤ x) && decide (x < q.x1) && decide (q.y0 ≤ y) && decide (y < q.y1))) := by
    unfold Hid; rw [contains_canon, Hq.out]
  go_enter Try.func26, Try.ntmps26
  go_wp2_with (go_at_call 22; refine (rcanon_q _ _ _ _ q Hq _).mono ?_; rintro e w1 ⟨rfl, hb1⟩; have kA1 : Bk w1 (w.heap.size) 23 #[.int .i64 a, .int .i64 b, .int .i64 c, .int .i64 d] := (by repeat (first | (with_reducible assumption) | ((with_reducible refine Bk.new _ _ _ ?_); first | (with_reducible rfl) | (simp; done)) | (with_reducible refine Bk.alloc ?_ _) | (with_reducible refine Bk.drew ?_) | (with_reducible refine Bk.drewN ?_ _) | ((with_reducible refine Bk.far ?_ ?_ _); rotate_left; focus (first | (simp; done) | (simp; omega))) | (with_reducible refine Bk.below ?_ (by with_reducible assumption)))); obtain ⟨kcA1, kfA1, kaA1, kgA1, klA1⟩ := kA1.rules)
  all_goals
    go_ret
    exact ⟨ret_bool (by rw [Hc.out]; simp [*]; try omega), (by repeat (first | (with_reducible exact Below.refl _ _) | (with_reducible refine balloc ?_ _) | (with_reducible refine Below.drew ?_) | (with_reducible refine bdrewN ?_ _) | ((with_reducible refine bset ?_ ?_ _); rotate_left; focus (first | (with_reducible exact Nat.le_refl _) | (simp; done) | (simp; omega) | omega)) | (with_reducible refine bstep (by with_reducible assumption) ?_)))⟩

theorem rcontains_q (a b c d x y : Int) (v : Bool) (hv : Hid (containsB ⟨a, b, c, d⟩ x y = v)) (w : World) :
    Calls Try.prog 26 #[.agg #[.int .i64 a, .int .i64 b, .int .i64 c, .int .i64 d], .int .i64 x, .int .i64 y] w fun e w' => e = .returned (.bool v) ∧ Below w.heap.size w w' := by
  have h := hv.out; subst h; exact rcontains_any a b c d x y w

set_option maxHeartbeats 400000 in
theorem rpix_any (a b c d x y : Int) (w : World) :
    Calls Try.prog 28 #[.agg #[.int .i64 a, .int .i64 b, .int .i64 c, .int .i64 d], .int .i64 x, .int .i64 y] w fun e w' => e = .returned (.int .i64 (pixR ⟨a, b, c, d⟩ x y)) ∧ Below w.heap.size w w' := by
  cases hcb : containsB ⟨a, b, c, d⟩ x y with
  | true =>
    have hv := Lib.hid hcb
    obtain ⟨he, g1, g2, g3, g4⟩ := contains_true hcb
    obtain ⟨k1, k2, k3, k4, k5, k6⟩ := emptyB_false he
    simp only at g1 g2 g3 g4 k1 k2 k3 k4 k5 k6
    clear hcb he
    have hm := mul_bd (a := y - b) (b := c - a) (by omega) (by omega) (by omega) (by omega)
    go_enter Try.func28, Try.ntmps28
    go_wp2_with (go_at_call 26; refine (rcontains_q _ _ _ _ _ _ true hv _).mono ?_; rintro e w1 ⟨rfl, hb1⟩; have kA1 : Bk w1 (w.heap.size) 23 #[.int .i64 a, .int .i64 b, .int .i64 c, .int .i64 d] := (by repeat (first | (with_reducible assumption) | ((with_reducible refine Bk.new _ _ _ ?_); first | (with_reducible rfl) | (simp; done)) | (with_reducible refine Bk.alloc ?_ _) | (with_reducible refine Bk.drew ?_) | (with_reducible refine Bk.drewN ?_ _) | ((with_reducible refine Bk.far ?_ ?_ _); rotate_left; focus (first | (simp; done) | (simp; omega))) | (with_reducible refine Bk.below ?_ (by with_reducible assumption)))); obtain ⟨kcA1, kfA1, kaA1, kgA1, klA1⟩ := kA1.rules)
    go_ret
    exact ⟨ret_int (by unfold pixR; rw [if_pos hv.out]), (by repeat (first | (with_reducible exact Below.refl _ _) | (with_reducible refine balloc ?_ _) | (with_reducible refine Below.drew ?_) | (with_reducible refine bdrewN ?_ _) | ((with_reducible refine bset ?_ ?_ _); rotate_left; focus (first | (with_reducible exact Nat.le_refl _) | (simp; done) | (simp; omega) | omega)) | (with_reducible refine bstep (by with_reducible assumption) ?_)))⟩
  | false =>
    have hv := Lib.hid hcb
    clear hcb
    go_enter Try.func28, Try.ntmps28
    go_wp2_with (go_at_call 26; refine (rcontains_q _ _ _ _ _ _ false hv _).mono ?_; rintro e w1 ⟨rfl, hb1⟩; have kA1 : Bk w1 (w.heap.size) 23 #[.int .i64 a, .int .i64 b, .int .i64 c, .int .i64 d] := (by repeat (first | (with_reducible assumption) | ((with_reducible refine Bk.new _ _ _ ?_); first | (with_reducible rfl) | (simp; done)) | (with_reducible refine Bk.alloc ?_ _) | (with_reducible refine Bk.drew ?_) | (with_reducible refine Bk.drewN ?_ _) | ((with_reducible refine Bk.far ?_ ?_ _); rotate_left; focus (first | (simp; done) | (simp; omega))) | (with_reducible refine Bk.below ?_ (by with_reducible assumption)))); obtain ⟨kcA1, kfA1, kaA1, kgA1, klA1⟩ := kA1.rules)
    go_ret
    exact ⟨ret_int (by unfold pixR; rw [hv.out]; rfl), (by repeat (first | (with_reducible exact Below.refl _ _) | (with_reducible refine balloc ?_ _) | (with_reducible refine Below.drew ?_) | (with_reducible refine bdrewN ?_ _) | ((with_reducible refine bset ?_ ?_ _); rotate_left; focus (first | (with_reducible exact Nat.le_refl _) | (simp; done) | (simp; omega) | omega)) | (with_reducible refine bstep (by with_reducible assumption) ?_)))⟩

end Go.Proofs.Ytiaeaegocfmjhaa
