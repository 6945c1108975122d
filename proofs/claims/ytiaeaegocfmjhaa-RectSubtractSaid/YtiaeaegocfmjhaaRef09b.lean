/-
  The walks of the reference of chapter 9 (grisailleref09), second part: Within, Intersect, Union, clamp, Outset.
-/
import Derived.Test.YtiaeaegocfmjhaaRef09
namespace Go.Proofs.Ytiaeaegocfmjhaa
open Go.RowKit
set_option linter.unusedSimpArgs false
set_option linter.unusedVariables false


set_option maxHeartbeats 400000 in
theorem runion_any (a b c d a' b' c' d' : Int) (w : World) :
    Calls Try.prog 34 #[.agg #[.int .i64 a, .int .i64 b, .int .i64 c, .int .i64 d], .agg #[.int .i64 a', .int .i64 b', .int .i64 c', .int .i64 d']] w fun e w' =>
      e = .returned (.agg #[.int .i64 (unionR ⟨a, b, c, d⟩ ⟨a', b', c', d'⟩).x0, .int .i64 (unionR ⟨a, b, c, d⟩ ⟨a', b', c', d'⟩).y0, .int .i64 (unionR ⟨a, b, c, d⟩ ⟨a', b', c', d'⟩).x1, .int .i64 (unionR ⟨a, b, c, d⟩ ⟨a', b', c', d'⟩).y1]) ∧ Below w.heap.size w w' := by
  have hmx := max_if
  have hmn := min_if
  cases he : emptyB ⟨a, b, c, d⟩ with
  | true =>
    have hv := Lib.hid he
    obtain ⟨q, Hq⟩ : ∃ p, Hid (canonR ⟨a', b', c', d'⟩ = p) := ⟨_, rfl⟩
    have Hu : Hid (unionR ⟨a, b, c, d⟩ ⟨a', b', c', d'⟩ = q) := by unfold Hid unionR; rw [if_pos he]; exact Hq.out
    clear he
    rw [Hu.out]
    go_enter Try.func34, Try.ntmps34
    go_wp2_with (first | (go_at_call 20; refine (rempty_q _ _ _ _ true hv _).mono ?_; rintro e w1 ⟨rfl, hb1⟩; have kA1 : Bk w1 (w.heap.size) 23 #[.int .i64 a, .int .i64 b, .int .i64 c, .int .i64 d] := (by repeat (first | (with_reducible assumption) | ((with_reducible refine Bk.new _ _ _ ?_); first | (with_reducible rfl) | (simp; done)) | (with_reducible refine Bk.alloc ?_ _) | (with_reducible refine Bk.drew ?_) | (with_reducible refine Bk.drewN ?_ _) | ((with_reducible refine Bk.far ?_ ?_ _); rotate_left; focus (first | (simp; done) | (simp; omega))) | (with_reducible refine Bk.below ?_ (by with_reducible assumption)))); obtain ⟨kcA1, kfA1, kaA1, kgA1, klA1⟩ := kA1.rules; have kB1 : Bk w1 (w.heap.size + 1) 23 #[.int .i64 a', .int .i64 b', .int .i64 c', .int .i64 d'] := (by repeat (first | (with_reducible assumption) | ((with_reducible refine Bk.new _ _ _ ?_); first | (with_reducible rfl) | (simp; done)) | (with_reducible refine Bk.alloc ?_ _) | (with_reducible refine Bk.drew ?_) | (with_reducible refine Bk.drewN ?_ _) | ((with_reducible refine Bk.far ?_ ?_ _); rotate_left; focus (first | (simp; done) | (simp; omega))) | (with_reducible refine Bk.below ?_ (by with_reducible assumption)))); obtain ⟨kcB1, kfB1, kaB1, kgB1, klB1⟩ := kB1.rules; have kZ1 : Bk w1 (w.heap.size + 1 + 1) 23 #[.int .i64 0, .int .i64 0, .int .i64 0, .int .i64 0] := (by repeat (first | (with_reducible assumption) | ((with_reducible refine Bk.new _ _ _ ?_); first | (with_reducible rfl) | (simp; done)) | (with_reducible refine Bk.alloc ?_ _) | (with_reducible refine Bk.drew ?_) | (with_reducible refine Bk.drewN ?_ _) | ((with_reducible refine Bk.far ?_ ?_ _); rotate_left; focus (first | (simp; done) | (simp; omega))) | (with_reducible refine Bk.below ?_ (by with_reducible assumption)))); obtain ⟨kcZ1, kfZ1, kaZ1, kgZ1, klZ1⟩ := kZ1.rules) | (go_at_call 22; refine (rcanon_q _ _ _ _ q Hq _).mono ?_; rintro e w2 ⟨rfl, hb2⟩; have kZ2 : Bk w2 (w.heap.size + 1 + 1) 23 #[.int .i64 0, .int .i64 0, .int .i64 0, .int .i64 0] := (by repeat (first | (with_reducible assumption) | ((with_reducible refine Bk.new _ _ _ ?_); first | (with_reducible rfl) | (simp; done)) | (with_reducible refine Bk.alloc ?_ _) | (with_reducible refine Bk.drew ?_) | (with_reducible refine Bk.drewN ?_ _) | ((with_reducible refine Bk.far ?_ ?_ _); rotate_left; focus (first | (simp; done) | (simp; omega))) | (with_reducible refine Bk.below ?_ (by with_reducible assumption)))); obtain ⟨kcZ2, kfZ2, kaZ2, kgZ2, klZ2⟩ := kZ2.rules))
    refine bodyPost_ret (v := _) ?_ rfl ⟨rfl, (by repeat (first | (with_reducible exact Below.refl _ _) | (with_reducible refine balloc ?_ _) | (with_reducible refine Below.drew ?_) | (with_reducible refine bdrewN ?_ _) | ((with_reducible refine bset ?_ ?_ _); rotate_left; focus (first | (with_reducible exact Nat.le_refl _) | (simp; done) | (simp; omega) | omega)) | (with_reducible refine bstep (by with_reducible assumption) ?_)))⟩
    simp [results, Try.results34, go_sem, *]
  | false =>
    have hv := Lib.hid he
    cases he' : emptyB ⟨a', b', c', d'⟩ with
    | true =>
      have hv' := Lib.hid he'
      have Hu : Hid (unionR ⟨a, b, c, d⟩ ⟨a', b', c', d'⟩ = ⟨a, b, c, d⟩) := by unfold Hid unionR; rw [he, he']; rfl
      clear he he'
      rw [Hu.out]
      go_enter Try.func34, Try.ntmps34
      go_wp2_with fail
      refine (rempty_q _ _ _ _ false hv _).mono ?_
      rintro e w1 ⟨rfl, hb1⟩
      have kA1 : Bk w1 (w.heap.size) 23 #[.int .i64 a, .int .i64 b, .int .i64 c, .int .i64 d] := (by repeat (first | (with_reducible assumption) | ((with_reducible refine Bk.new _ _ _ ?_); first | (with_reducible rfl) | (simp; done)) | (with_reducible refine Bk.alloc ?_ _) | (with_reducible refine Bk.drew ?_) | (with_reducible refine Bk.drewN ?_ _) | ((with_reducible refine Bk.far ?_ ?_ _); rotate_left; focus (first | (simp; done) | (simp; omega))) | (with_reducible refine Bk.below ?_ (by with_reducible assumption)))); obtain ⟨kcA1, kfA1, kaA1, kgA1, klA1⟩ := kA1.rules; have kB1 : Bk w1 (w.heap.size + 1) 23 #[.int .i64 a', .int .i64 b', .int .i64 c', .int .i64 d'] := (by repeat (first | (with_reducible assumption) | ((with_reducible refine Bk.new _ _ _ ?_); first | (with_reducible rfl) | (simp; done)) | (with_reducible refine Bk.alloc ?_ _) | (with_reducible refine Bk.drew ?_) | (with_reducible refine Bk.drewN ?_ _) | ((with_reducible refine Bk.far ?_ ?_ _); rotate_left; focus (first | (simp; done) | (simp; omega))) | (with_reducible refine Bk.below ?_ (by with_reducible assumption)))); obtain ⟨kcB1, kfB1, kaB1, kgB1, klB1⟩ := kB1.rules; have kZ1 : Bk w1 (w.heap.size + 1 + 1) 23 #[.int .i64 0, .int .i64 0, .int .i64 0, .int .i64 0] := (by repeat (first | (with_reducible assumption) | ((with_reducible refine Bk.new _ _ _ ?_); first | (with_reducible rfl) | (simp; done)) | (with_reducible refine Bk.alloc ?_ _) | (with_reducible refine Bk.drew ?_) | (with_reducible refine Bk.drewN ?_ _) | ((with_reducible refine Bk.far ?_ ?_ _); rotate_left; focus (first | (simp; done) | (simp; omega))) | (with_reducible refine Bk.below ?_ (by with_reducible assumption)))); obtain ⟨kcZ1, kfZ1, kaZ1, kgZ1, klZ1⟩ := kZ1.rules
      go_wp2_with fail
      refine (rempty_q _ _ _ _ true hv' _).mono ?_
      rintro e w2 ⟨rfl, hb2⟩
      have kA2 : Bk w2 (w.heap.size) 23 #[.int .i64 a, .int .i64 b, .int .i64 c, .int .i64 d] := (by repeat (first | (with_reducible assumption) | ((with_reducible refine Bk.new _ _ _ ?_); first | (with_reducible rfl) | (simp; done)) | (with_reducible refine Bk.alloc ?_ _) | (with_reducible refine Bk.drew ?_) | (with_reducible refine Bk.drewN ?_ _) | ((with_reducible refine Bk.far ?_ ?_ _); rotate_left; focus (first | (simp; done) | (simp; omega))) | (with_reducible refine Bk.below ?_ (by with_reducible assumption)))); obtain ⟨kcA2, kfA2, kaA2, kgA2, klA2⟩ := kA2.rules; have kB2 : Bk w2 (w.heap.size + 1) 23 #[.int .i64 a', .int .i64 b', .int .i64 c', .int .i64 d'] := (by repeat (first | (with_reducible assumption) | ((with_reducible refine Bk.new _ _ _ ?_); first | (with_reducible rfl) | (simp; done)) | (with_reducible refine Bk.alloc ?_ _) | (with_reducible refine Bk.drew ?_) | (with_reducible refine Bk.drewN ?_ _) | ((with_reducible refine Bk.far ?_ ?_ _); rotate_left; focus (first | (simp; done) | (simp; omega))) | (with_reducible refine Bk.below ?_ (by with_reducible assumption)))); obtain ⟨kcB2, kfB2, kaB2, kgB2, klB2⟩ := kB2.rules; have kZ2 : Bk w2 (w.heap.size + 1 + 1) 23 #[.int .i64 0, .int .i64 0, .int .i64 0, .int .i64 0] := (by repeat (first | (with_reducible assumption) | ((with_reducible refine Bk.new _ _ _ ?_); first | (with_reducible rfl) | (simp; done)) | (with_reducible refine Bk.alloc ?_ _) | (with_reducible refine Bk.drew ?_) | (with_reducible refine Bk.drewN ?_ _) | ((with_reducible refine Bk.far ?_ ?_ _); rotate_left; focus (first | (simp; done) | (simp; omega))) | (with_reducible refine Bk.below ?_ (by with_reducible assumption)))); obtain ⟨kcZ2, kfZ2, kaZ2, kgZ2, klZ2⟩ := kZ2.rules
      go_wp2
      refine bodyPost_ret (v := _) ?_ rfl ⟨rfl, (by repeat (first | (with_reducible exact Below.refl _ _) | (with_reducible refine balloc ?_ _) | (with_reducible refine Below.drew ?_) | (with_reducible refine bdrewN ?_ _) | ((with_reducible refine bset ?_ ?_ _); rotate_left; focus (first | (with_reducible exact Nat.le_refl _) | (simp; done) | (simp; omega) | omega)) | (with_reducible refine bstep (by with_reducible assumption) ?_)))⟩
      simp [results, Try.results34, go_sem, *]
    | false =>
      have hv' := Lib.hid he'
      have Hu : Hid (unionR ⟨a, b, c, d⟩ ⟨a', b', c', d'⟩ = ⟨min a a', min b b', max c c', max d d'⟩) := by unfold Hid unionR; rw [he, he']; rfl
      clear he he'
      rw [Hu.out]
      go_enter Try.func34, Try.ntmps34
      go_wp2_with fail
      refine (rempty_q _ _ _ _ false hv _).mono ?_
      rintro e w1 ⟨rfl, hb1⟩
      have kA1 : Bk w1 (w.heap.size) 23 #[.int .i64 a, .int .i64 b, .int .i64 c, .int .i64 d] := (by repeat (first | (with_reducible assumption) | ((with_reducible refine Bk.new _ _ _ ?_); first | (with_reducible rfl) | (simp; done)) | (with_reducible refine Bk.alloc ?_ _) | (with_reducible refine Bk.drew ?_) | (with_reducible refine Bk.drewN ?_ _) | ((with_reducible refine Bk.far ?_ ?_ _); rotate_left; focus (first | (simp; done) | (simp; omega))) | (with_reducible refine Bk.below ?_ (by with_reducible assumption)))); obtain ⟨kcA1, kfA1, kaA1, kgA1, klA1⟩ := kA1.rules; have kB1 : Bk w1 (w.heap.size + 1) 23 #[.int .i64 a', .int .i64 b', .int .i64 c', .int .i64 d'] := (by repeat (first | (with_reducible assumption) | ((with_reducible refine Bk.new _ _ _ ?_); first | (with_reducible rfl) | (simp; done)) | (with_reducible refine Bk.alloc ?_ _) | (with_reducible refine Bk.drew ?_) | (with_reducible refine Bk.drewN ?_ _) | ((with_reducible refine Bk.far ?_ ?_ _); rotate_left; focus (first | (simp; done) | (simp; omega))) | (with_reducible refine Bk.below ?_ (by with_reducible assumption)))); obtain ⟨kcB1, kfB1, kaB1, kgB1, klB1⟩ := kB1.rules; have kZ1 : Bk w1 (w.heap.size + 1 + 1) 23 #[.int .i64 0, .int .i64 0, .int .i64 0, .int .i64 0] := (by repeat (first | (with_reducible assumption) | ((with_reducible refine Bk.new _ _ _ ?_); first | (with_reducible rfl) | (simp; done)) | (with_reducible refine Bk.alloc ?_ _) | (with_reducible refine Bk.drew ?_) | (with_reducible refine Bk.drewN ?_ _) | ((with_reducible refine Bk.far ?_ ?_ _); rotate_left; focus (first | (simp; done) | (simp; omega))) | (with_reducible refine Bk.below ?_ (by with_reducible assumption)))); obtain ⟨kcZ1, kfZ1, kaZ1, kgZ1, klZ1⟩ := kZ1.rules
      go_wp2_with fail
      refine (rempty_q _ _ _ _ false hv' _).mono ?_
      rintro e w2 ⟨rfl, hb2⟩
      have kA2 : Bk w2 (w.heap.size) 23 #[.int .i64 a, .int .i64 b, .int .i64 c, .int .i64 d] := (by repeat (first | (with_reducible assumption) | ((with_reducible refine Bk.new _ _ _ ?_); first | (with_reducible rfl) | (simp; done)) | (with_reducible refine Bk.alloc ?_ _) | (with_reducible refine Bk.drew ?_) | (with_reducible refine Bk.drewN ?_ _) | ((with_reducible refine Bk.far ?_ ?_ _); rotate_left; focus (first | (simp; done) | (simp; omega))) | (with_reducible refine Bk.below ?_ (by with_reducible assumption)))); obtain ⟨kcA2, kfA2, kaA2, kgA2, klA2⟩ := kA2.rules; have kB2 : Bk w2 (w.heap.size + 1) 23 #[.int .i64 a', .int .i64 b', .int .i64 c', .int .i64 d'] := (by repeat (first | (with_reducible assumption) | ((with_reducible refine Bk.new _ _ _ ?_); first | (with_reducible rfl) | (simp; done)) | (with_reducible refine Bk.alloc ?_ _) | (with_reducible refine Bk.drew ?_) | (with_reducible refine Bk.drewN ?_ _) | ((with_reducible refine Bk.far ?_ ?_ _); rotate_left; focus (first | (simp; done) | (simp; omega))) | (with_reducible refine Bk.below ?_ (by with_reducible assumption)))); obtain ⟨kcB2, kfB2, kaB2, kgB2, klB2⟩ := kB2.rules; have kZ2 : Bk w2 (w.heap.size + 1 + 1) 23 #[.int .i64 0, .int .i64 0, .int .i64 0, .int .i64 0] := (by repeat (first | (with_reducible assumption) | ((with_reducible refine Bk.new _ _ _ ?_); first | (with_reducible rfl) | (simp; done)) | (with_reducible refine Bk.alloc ?_ _) | (with_reducible refine Bk.drew ?_) | (with_reducible refine Bk.drewN ?_ _) | ((with_reducible refine Bk.far ?_ ?_ _); rotate_left; focus (first | (simp; done) | (simp; omega))) | (with_reducible refine Bk.below ?_ (by with_reducible assumption)))); obtain ⟨kcZ2, kfZ2, kaZ2, kgZ2, klZ2⟩ := kZ2.rules
      go_wp2
      refine bodyPost_ret (v := _) ?_ rfl ⟨rfl, (by repeat (first | (with_reducible exact Below.refl _ _) | (with_reducible refine balloc ?_ _) | (with_reducible refine Below.drew ?_) | (with_reducible refine bdrewN ?_ _) | ((with_reducible refine bset ?_ ?_ _); rotate_left; focus (first | (with_reducible exact Nat.le_refl _) | (simp; done) | (simp; omega) | omega)) | (with_reducible refine bstep (by with_reducible assumption) ?_)))⟩
      simp [results, Try.results34, go_sem, *]

theorem runion_q (a b c d a' b' c' d' : Int) (r : Rc) (hr : Hid (unionR ⟨a, b, c, d⟩ ⟨a', b', c', d'⟩ = r)) (w : World) :
    Calls Try.prog 34 #[.agg #[.int .i64 a, .int .i64 b, .int .i64 c, .int .i64 d], .agg #[.int .i64 a', .int .i64 b', .int .i64 c', .int .i64 d']] w fun e w' =>
      e = .returned (.agg #[.int .i64 r.x0, .int .i64 r.y0, .int .i64 r.x1, .int .i64 r.y1]) ∧ Below w.heap.size w w' := by
  have h := hr.out; subst h; exact runion_any a b c d a' b' c' d' w


set_option maxHeartbeats 800000 in
theorem rwithin_any (a b c d a' b' c' d' : Int) (w : World) :
    Calls Try.prog 30 #[.agg #[.int .i64 a, .int .i64 b, .int .i64 c, .int .i64 d], .agg #[.int .i64 a', .int .i64 b', .int .i64 c', .int .i64 d']] w fun e w' =>
      e = .returned (.bool (withinB ⟨a, b, c, d⟩ ⟨a', b', c', d'⟩)) ∧ Below w.heap.size w w' := by
  rw [← rwithin_eq]
  cases he : emptyB ⟨a, b, c, d⟩ with
  | true =>
    have hv := Lib.hid he
    have Hu : Hid (rwithinB ⟨a, b, c, d⟩ ⟨a', b', c', d'⟩ = true) := by unfold Hid rwithinB; rw [he]; rfl
    clear he
    rw [Hu.out]
    go_enter Try.func30, Try.ntmps30
    go_wp2_with fail
    refine (rempty_q _ _ _ _ true hv _).mono ?_
    rintro e w1 ⟨rfl, hb1⟩
    have kA1 : Bk w1 (w.heap.size) 23 #[.int .i64 a, .int .i64 b, .int .i64 c, .int .i64 d] := (by repeat (first | (with_reducible assumption) | ((with_reducible refine Bk.new _ _ _ ?_); first | (with_reducible rfl) | (simp; done)) | (with_reducible refine Bk.alloc ?_ _) | (with_reducible refine Bk.drew ?_) | (with_reducible refine Bk.drewN ?_ _) | ((with_reducible refine Bk.far ?_ ?_ _); rotate_left; focus (first | (simp; done) | (simp; omega))) | (with_reducible refine Bk.below ?_ (by with_reducible assumption)))); obtain ⟨kcA1, kfA1, kaA1, kgA1, klA1⟩ := kA1.rules; have kB1 : Bk w1 (w.heap.size + 1) 23 #[.int .i64 a', .int .i64 b', .int .i64 c', .int .i64 d'] := (by repeat (first | (with_reducible assumption) | ((with_reducible refine Bk.new _ _ _ ?_); first | (with_reducible rfl) | (simp; done)) | (with_reducible refine Bk.alloc ?_ _) | (with_reducible refine Bk.drew ?_) | (with_reducible refine Bk.drewN ?_ _) | ((with_reducible refine Bk.far ?_ ?_ _); rotate_left; focus (first | (simp; done) | (simp; omega))) | (with_reducible refine Bk.below ?_ (by with_reducible assumption)))); obtain ⟨kcB1, kfB1, kaB1, kgB1, klB1⟩ := kB1.rules
    go_wp2
    go_ret
    exact ⟨rfl, (by repeat (first | (with_reducible exact Below.refl _ _) | (with_reducible refine balloc ?_ _) | (with_reducible refine Below.drew ?_) | (with_reducible refine bdrewN ?_ _) | ((with_reducible refine bset ?_ ?_ _); rotate_left; focus (first | (with_reducible exact Nat.le_refl _) | (simp; done) | (simp; omega) | omega)) | (with_reducible refine bstep (by with_reducible assumption) ?_)))⟩
  | false =>
    have hv := Lib.hid he
    obtain ⟨v', Hv'⟩ : ∃ v, Hid (emptyB ⟨a', b', c', d'⟩ = v) := ⟨_, rfl⟩
    have Hu : Hid (rwithinB ⟨a, b, c, d⟩ ⟨a', b', c', d'⟩ = (!v' && decide (a' ≤ a) && decide (c ≤ c') && decide (b' ≤ b) && decide (d ≤ d'))) := by unfold Hid rwithinB; rw [he, Hv'.out]; rfl
    clear he
    go_enter Try.func30, Try.ntmps30
    go_wp2_with fail
    refine (rempty_q _ _ _ _ false hv _).mono ?_
    rintro e w1 ⟨rfl, hb1⟩
    have kA1 : Bk w1 (w.heap.size) 23 #[.int .i64 a, .int .i64 b, .int .i64 c, .int .i64 d] := (by repeat (first | (with_reducible assumption) | ((with_reducible refine Bk.new _ _ _ ?_); first | (with_reducible rfl) | (simp; done)) | (with_reducible refine Bk.alloc ?_ _) | (with_reducible refine Bk.drew ?_) | (with_reducible refine Bk.drewN ?_ _) | ((with_reducible refine Bk.far ?_ ?_ _); rotate_left; focus (first | (simp; done) | (simp; omega))) | (with_reducible refine Bk.below ?_ (by with_reducible assumption)))); obtain ⟨kcA1, kfA1, kaA1, kgA1, klA1⟩ := kA1.rules; have kB1 : Bk w1 (w.heap.size + 1) 23 #[.int .i64 a', .int .i64 b', .int .i64 c', .int .i64 d'] := (by repeat (first | (with_reducible assumption) | ((with_reducible refine Bk.new _ _ _ ?_); first | (with_reducible rfl) | (simp; done)) | (with_reducible refine Bk.alloc ?_ _) | (with_reducible refine Bk.drew ?_) | (with_reducible refine Bk.drewN ?_ _) | ((with_reducible refine Bk.far ?_ ?_ _); rotate_left; focus (first | (simp; done) | (simp; omega))) | (with_reducible refine Bk.below ?_ (by with_reducible assumption)))); obtain ⟨kcB1, kfB1, kaB1, kgB1, klB1⟩ := kB1.rules
    go_wp2_with fail
    refine (rempty_q _ _ _ _ v' Hv' _).mono ?_
    rintro e w2 ⟨rfl, hb2⟩
    have kA2 : Bk w2 (w.heap.size) 23 #[.int .i64 a, .int .i64 b, .int .i64 c, .int .i64 d] := (by repeat (first | (with_reducible assumption) | ((with_reducible refine Bk.new _ _ _ ?_); first | (with_reducible rfl) | (simp; done)) | (with_reducible refine Bk.alloc ?_ _) | (with_reducible refine Bk.drew ?_) | (with_reducible refine Bk.drewN ?_ _) | ((with_reducible refine Bk.far ?_ ?_ _); rotate_left; focus (first | (simp; done) | (simp; omega))) | (with_reducible refine Bk.below ?_ (by with_reducible assumption)))); obtain ⟨kcA2, kfA2, kaA2, kgA2, klA2⟩ := kA2.rules; have kB2 : Bk w2 (w.heap.size + 1) 23 #[.int .i64 a', .int .i64 b', .int .i64 c', .int .i64 d'] := (by repeat (first | (with_reducible assumption) | ((with_reducible refine Bk.new _ _ _ ?_); first | (with_reducible rfl) | (simp; done)) | (with_reducible refine Bk.alloc ?_ _) | (with_reducible refine Bk.drew ?_) | (with_reducible refine Bk.drewN ?_ _) | ((with_reducible refine Bk.far ?_ ?_ _); rotate_left; focus (first | (simp; done) | (simp; omega))) | (with_reducible refine Bk.below ?_ (by with_reducible assumption)))); obtain ⟨kcB2, kfB2, kaB2, kgB2, klB2⟩ := kB2.rules
    cases v'
    all_goals
      go_wp2
      all_goals
        go_ret
        exact ⟨ret_bool (by rw [Hu.out]; simp [*]; try omega), (by repeat (first | (with_reducible exact Below.refl _ _) | (with_reducible refine balloc ?_ _) | (with_reducible refine Below.drew ?_) | (with_reducible refine bdrewN ?_ _) | ((with_reducible refine bset ?_ ?_ _); rotate_left; focus (first | (with_reducible exact Nat.le_refl _) | (simp; done) | (simp; omega) | omega)) | (with_reducible refine bstep (by with_reducible assumption) ?_)))⟩

set_option maxHeartbeats 800000 in
theorem rinter_any (a b c d a' b' c' d' : Int) (w : World) :
    Calls Try.prog 32 #[.agg #[.int .i64 a, .int .i64 b, .int .i64 c, .int .i64 d], .agg #[.int .i64 a', .int .i64 b', .int .i64 c', .int .i64 d']] w fun e w' =>
      e = .returned (.agg #[.int .i64 (interR ⟨a, b, c, d⟩ ⟨a', b', c', d'⟩).x0, .int .i64 (interR ⟨a, b, c, d⟩ ⟨a', b', c', d'⟩).y0, .int .i64 (interR ⟨a, b, c, d⟩ ⟨a', b', c', d'⟩).x1, .int .i64 (interR ⟨a, b, c, d⟩ ⟨a', b', c', d'⟩).y1]) ∧ Below w.heap.size w w' := by
  rw [← rinter_eq]
  have hmx := max_if
  have hmn := min_if
  cases he : emptyB ⟨a, b, c, d⟩ with
  | true =>
    have hv := Lib.hid he
    have Hu : Hid (rinterR ⟨a, b, c, d⟩ ⟨a', b', c', d'⟩ = ⟨0, 0, 0, 0⟩) := by unfold Hid rinterR; rw [he]; rfl
    clear he
    rw [Hu.out]
    go_enter Try.func32, Try.ntmps32
    go_wp2_with fail
    refine (rempty_q _ _ _ _ true hv _).mono ?_
    rintro e w1 ⟨rfl, hb1⟩
    have kA1 : Bk w1 (w.heap.size) 23 #[.int .i64 a, .int .i64 b, .int .i64 c, .int .i64 d] := (by repeat (first | (with_reducible assumption) | ((with_reducible refine Bk.new _ _ _ ?_); first | (with_reducible rfl) | (simp; done)) | (with_reducible refine Bk.alloc ?_ _) | (with_reducible refine Bk.drew ?_) | (with_reducible refine Bk.drewN ?_ _) | ((with_reducible refine Bk.far ?_ ?_ _); rotate_left; focus (first | (simp; done) | (simp; omega))) | (with_reducible refine Bk.below ?_ (by with_reducible assumption)))); obtain ⟨kcA1, kfA1, kaA1, kgA1, klA1⟩ := kA1.rules; have kB1 : Bk w1 (w.heap.size + 1) 23 #[.int .i64 a', .int .i64 b', .int .i64 c', .int .i64 d'] := (by repeat (first | (with_reducible assumption) | ((with_reducible refine Bk.new _ _ _ ?_); first | (with_reducible rfl) | (simp; done)) | (with_reducible refine Bk.alloc ?_ _) | (with_reducible refine Bk.drew ?_) | (with_reducible refine Bk.drewN ?_ _) | ((with_reducible refine Bk.far ?_ ?_ _); rotate_left; focus (first | (simp; done) | (simp; omega))) | (with_reducible refine Bk.below ?_ (by with_reducible assumption)))); obtain ⟨kcB1, kfB1, kaB1, kgB1, klB1⟩ := kB1.rules; have kZ1 : Bk w1 (w.heap.size + 1 + 1) 23 #[.int .i64 0, .int .i64 0, .int .i64 0, .int .i64 0] := (by repeat (first | (with_reducible assumption) | ((with_reducible refine Bk.new _ _ _ ?_); first | (with_reducible rfl) | (simp; done)) | (with_reducible refine Bk.alloc ?_ _) | (with_reducible refine Bk.drew ?_) | (with_reducible refine Bk.drewN ?_ _) | ((with_reducible refine Bk.far ?_ ?_ _); rotate_left; focus (first | (simp; done) | (simp; omega))) | (with_reducible refine Bk.below ?_ (by with_reducible assumption)))); obtain ⟨kcZ1, kfZ1, kaZ1, kgZ1, klZ1⟩ := kZ1.rules
    go_wp2
    refine bodyPost_ret (v := _) ?_ rfl ⟨rfl, (by repeat (first | (with_reducible exact Below.refl _ _) | (with_reducible refine balloc ?_ _) | (with_reducible refine Below.drew ?_) | (with_reducible refine bdrewN ?_ _) | ((with_reducible refine bset ?_ ?_ _); rotate_left; focus (first | (with_reducible exact Nat.le_refl _) | (simp; done) | (simp; omega) | omega)) | (with_reducible refine bstep (by with_reducible assumption) ?_)))⟩
    simp [results, Try.results32, go_sem, *]
  | false =>
    have hv := Lib.hid he
    cases he' : emptyB ⟨a', b', c', d'⟩ with
    | true =>
      have hv' := Lib.hid he'
      have Hu : Hid (rinterR ⟨a, b, c, d⟩ ⟨a', b', c', d'⟩ = ⟨0, 0, 0, 0⟩) := by unfold Hid rinterR; rw [he, he']; rfl
      clear he he'
      rw [Hu.out]
      go_enter Try.func32, Try.ntmps32
      go_wp2_with fail
      refine (rempty_q _ _ _ _ false hv _).mono ?_
      rintro e w1 ⟨rfl, hb1⟩
      have kA1 : Bk w1 (w.heap.size) 23 #[.int .i64 a, .int .i64 b, .int .i64 c, .int .i64 d] := (by repeat (first | (with_reducible assumption) | ((with_reducible refine Bk.new _ _ _ ?_); first | (with_reducible rfl) | (simp; done)) | (with_reducible refine Bk.alloc ?_ _) | (with_reducible refine Bk.drew ?_) | (with_reducible refine Bk.drewN ?_ _) | ((with_reducible refine Bk.far ?_ ?_ _); rotate_left; focus (first | (simp; done) | (simp; omega))) | (with_reducible refine Bk.below ?_ (by with_reducible assumption)))); obtain ⟨kcA1, kfA1, kaA1, kgA1, klA1⟩ := kA1.rules; have kB1 : Bk w1 (w.heap.size + 1) 23 #[.int .i64 a', .int .i64 b', .int .i64 c', .int .i64 d'] := (by repeat (first | (with_reducible assumption) | ((with_reducible refine Bk.new _ _ _ ?_); first | (with_reducible rfl) | (simp; done)) | (with_reducible refine Bk.alloc ?_ _) | (with_reducible refine Bk.drew ?_) | (with_reducible refine Bk.drewN ?_ _) | ((with_reducible refine Bk.far ?_ ?_ _); rotate_left; focus (first | (simp; done) | (simp; omega))) | (with_reducible refine Bk.below ?_ (by with_reducible assumption)))); obtain ⟨kcB1, kfB1, kaB1, kgB1, klB1⟩ := kB1.rules; have kZ1 : Bk w1 (w.heap.size + 1 + 1) 23 #[.int .i64 0, .int .i64 0, .int .i64 0, .int .i64 0] := (by repeat (first | (with_reducible assumption) | ((with_reducible refine Bk.new _ _ _ ?_); first | (with_reducible rfl) | (simp; done)) | (with_reducible refine Bk.alloc ?_ _) | (with_reducible refine Bk.drew ?_) | (with_reducible refine Bk.drewN ?_ _) | ((with_reducible refine Bk.far ?_ ?_ _); rotate_left; focus (first | (simp; done) | (simp; omega))) | (with_reducible refine Bk.below ?_ (by with_reducible assumption)))); obtain ⟨kcZ1, kfZ1, kaZ1, kgZ1, klZ1⟩ := kZ1.rules
      go_wp2_with fail
      refine (rempty_q _ _ _ _ true hv' _).mono ?_
      rintro e w2 ⟨rfl, hb2⟩
      have kA2 : Bk w2 (w.heap.size) 23 #[.int .i64 a, .int .i64 b, .int .i64 c, .int .i64 d] := (by repeat (first | (with_reducible assumption) | ((with_reducible refine Bk.new _ _ _ ?_); first | (with_reducible rfl) | (simp; done)) | (with_reducible refine Bk.alloc ?_ _) | (with_reducible refine Bk.drew ?_) | (with_reducible refine Bk.drewN ?_ _) | ((with_reducible refine Bk.far ?_ ?_ _); rotate_left; focus (first | (simp; done) | (simp; omega))) | (with_reducible refine Bk.below ?_ (by with_reducible assumption)))); obtain ⟨kcA2, kfA2, kaA2, kgA2, klA2⟩ := kA2.rules; have kB2 : Bk w2 (w.heap.size + 1) 23 #[.int .i64 a', .int .i64 b', .int .i64 c', .int .i64 d'] := (by repeat (first | (with_reducible assumption) | ((with_reducible refine Bk.new _ _ _ ?_); first | (with_reducible rfl) | (simp; done)) | (with_reducible refine Bk.alloc ?_ _) | (with_reducible refine Bk.drew ?_) | (with_reducible refine Bk.drewN ?_ _) | ((with_reducible refine Bk.far ?_ ?_ _); rotate_left; focus (first | (simp; done) | (simp; omega))) | (with_reducible refine Bk.below ?_ (by with_reducible assumption)))); obtain ⟨kcB2, kfB2, kaB2, kgB2, klB2⟩ := kB2.rules; have kZ2 : Bk w2 (w.heap.size + 1 + 1) 23 #[.int .i64 0, .int .i64 0, .int .i64 0, .int .i64 0] := (by repeat (first | (with_reducible assumption) | ((with_reducible refine Bk.new _ _ _ ?_); first | (with_reducible rfl) | (simp; done)) | (with_reducible refine Bk.alloc ?_ _) | (with_reducible refine Bk.drew ?_) | (with_reducible refine Bk.drewN ?_ _) | ((with_reducible refine Bk.far ?_ ?_ _); rotate_left; focus (first | (simp; done) | (simp; omega))) | (with_reducible refine Bk.below ?_ (by with_reducible assumption)))); obtain ⟨kcZ2, kfZ2, kaZ2, kgZ2, klZ2⟩ := kZ2.rules
      go_wp2
      refine bodyPost_ret (v := _) ?_ rfl ⟨rfl, (by repeat (first | (with_reducible exact Below.refl _ _) | (with_reducible refine balloc ?_ _) | (with_reducible refine Below.drew ?_) | (with_reducible refine bdrewN ?_ _) | ((with_reducible refine bset ?_ ?_ _); rotate_left; focus (first | (with_reducible exact Nat.le_refl _) | (simp; done) | (simp; omega) | omega)) | (with_reducible refine bstep (by with_reducible assumption) ?_)))⟩
      simp [results, Try.results32, go_sem, *]
    | false =>
      have hv' := Lib.hid he'
      obtain ⟨q, Hq⟩ : ∃ q, Hid (canonR ⟨max a a', max b b', min c c', min d d'⟩ = q) := ⟨_, rfl⟩
      have Hu : Hid (rinterR ⟨a, b, c, d⟩ ⟨a', b', c', d'⟩ = q) := by unfold Hid rinterR; rw [he, he']; exact Hq.out
      clear he he'
      rw [Hu.out]
      go_enter Try.func32, Try.ntmps32
      go_wp2_with fail
      refine (rempty_q _ _ _ _ false hv _).mono ?_
      rintro e w1 ⟨rfl, hb1⟩
      have kA1 : Bk w1 (w.heap.size) 23 #[.int .i64 a, .int .i64 b, .int .i64 c, .int .i64 d] := (by repeat (first | (with_reducible assumption) | ((with_reducible refine Bk.new _ _ _ ?_); first | (with_reducible rfl) | (simp; done)) | (with_reducible refine Bk.alloc ?_ _) | (with_reducible refine Bk.drew ?_) | (with_reducible refine Bk.drewN ?_ _) | ((with_reducible refine Bk.far ?_ ?_ _); rotate_left; focus (first | (simp; done) | (simp; omega))) | (with_reducible refine Bk.below ?_ (by with_reducible assumption)))); obtain ⟨kcA1, kfA1, kaA1, kgA1, klA1⟩ := kA1.rules; have kB1 : Bk w1 (w.heap.size + 1) 23 #[.int .i64 a', .int .i64 b', .int .i64 c', .int .i64 d'] := (by repeat (first | (with_reducible assumption) | ((with_reducible refine Bk.new _ _ _ ?_); first | (with_reducible rfl) | (simp; done)) | (with_reducible refine Bk.alloc ?_ _) | (with_reducible refine Bk.drew ?_) | (with_reducible refine Bk.drewN ?_ _) | ((with_reducible refine Bk.far ?_ ?_ _); rotate_left; focus (first | (simp; done) | (simp; omega))) | (with_reducible refine Bk.below ?_ (by with_reducible assumption)))); obtain ⟨kcB1, kfB1, kaB1, kgB1, klB1⟩ := kB1.rules; have kZ1 : Bk w1 (w.heap.size + 1 + 1) 23 #[.int .i64 0, .int .i64 0, .int .i64 0, .int .i64 0] := (by repeat (first | (with_reducible assumption) | ((with_reducible refine Bk.new _ _ _ ?_); first | (with_reducible rfl) | (simp; done)) | (with_reducible refine Bk.alloc ?_ _) | (with_reducible refine Bk.drew ?_) | (with_reducible refine Bk.drewN ?_ _) | ((with_reducible refine Bk.far ?_ ?_ _); rotate_left; focus (first | (simp; done) | (simp; omega))) | (with_reducible refine Bk.below ?_ (by with_reducible assumption)))); obtain ⟨kcZ1, kfZ1, kaZ1, kgZ1, klZ1⟩ := kZ1.rules
      go_wp2_with fail
      refine (rempty_q _ _ _ _ false hv' _).mono ?_
      rintro e w2 ⟨rfl, hb2⟩
      have kA2 : Bk w2 (w.heap.size) 23 #[.int .i64 a, .int .i64 b, .int .i64 c, .int .i64 d] := (by repeat (first | (with_reducible assumption) | ((with_reducible refine Bk.new _ _ _ ?_); first | (with_reducible rfl) | (simp; done)) | (with_reducible refine Bk.alloc ?_ _) | (with_reducible refine Bk.drew ?_) | (with_reducible refine Bk.drewN ?_ _) | ((with_reducible refine Bk.far ?_ ?_ _); rotate_left; focus (first | (simp; done) | (simp; omega))) | (with_reducible refine Bk.below ?_ (by with_reducible assumption)))); obtain ⟨kcA2, kfA2, kaA2, kgA2, klA2⟩ := kA2.rules; have kB2 : Bk w2 (w.heap.size + 1) 23 #[.int .i64 a', .int .i64 b', .int .i64 c', .int .i64 d'] := (by repeat (first | (with_reducible assumption) | ((with_reducible refine Bk.new _ _ _ ?_); first | (with_reducible rfl) | (simp; done)) | (with_reducible refine Bk.alloc ?_ _) | (with_reducible refine Bk.drew ?_) | (with_reducible refine Bk.drewN ?_ _) | ((with_reducible refine Bk.far ?_ ?_ _); rotate_left; focus (first | (simp; done) | (simp; omega))) | (with_reducible refine Bk.below ?_ (by with_reducible assumption)))); obtain ⟨kcB2, kfB2, kaB2, kgB2, klB2⟩ := kB2.rules; have kZ2 : Bk w2 (w.heap.size + 1 + 1) 23 #[.int .i64 0, .int .i64 0, .int .i64 0, .int .i64 0] := (by repeat (first | (with_reducible assumption) | ((with_reducible refine Bk.new _ _ _ ?_); first | (with_reducible rfl) | (simp; done)) | (with_reducible refine Bk.alloc ?_ _) | (with_reducible refine Bk.drew ?_) | (with_reducible refine Bk.drewN ?_ _) | ((with_reducible refine Bk.far ?_ ?_ _); rotate_left; focus (first | (simp; done) | (simp; omega))) | (with_reducible refine Bk.below ?_ (by with_reducible assumption)))); obtain ⟨kcZ2, kfZ2, kaZ2, kgZ2, klZ2⟩ := kZ2.rules
      go_wp2_with fail
      refine (rcanon_q _ _ _ _ q Hq _).mono ?_
      rintro e w3 ⟨rfl, hb3⟩
      have kA3 : Bk w3 (w.heap.size) 23 #[.int .i64 a, .int .i64 b, .int .i64 c, .int .i64 d] := (by repeat (first | (with_reducible assumption) | ((with_reducible refine Bk.new _ _ _ ?_); first | (with_reducible rfl) | (simp; done)) | (with_reducible refine Bk.alloc ?_ _) | (with_reducible refine Bk.drew ?_) | (with_reducible refine Bk.drewN ?_ _) | ((with_reducible refine Bk.far ?_ ?_ _); rotate_left; focus (first | (simp; done) | (simp; omega))) | (with_reducible refine Bk.below ?_ (by with_reducible assumption)))); obtain ⟨kcA3, kfA3, kaA3, kgA3, klA3⟩ := kA3.rules; have kB3 : Bk w3 (w.heap.size + 1) 23 #[.int .i64 a', .int .i64 b', .int .i64 c', .int .i64 d'] := (by repeat (first | (with_reducible assumption) | ((with_reducible refine Bk.new _ _ _ ?_); first | (with_reducible rfl) | (simp; done)) | (with_reducible refine Bk.alloc ?_ _) | (with_reducible refine Bk.drew ?_) | (with_reducible refine Bk.drewN ?_ _) | ((with_reducible refine Bk.far ?_ ?_ _); rotate_left; focus (first | (simp; done) | (simp; omega))) | (with_reducible refine Bk.below ?_ (by with_reducible assumption)))); obtain ⟨kcB3, kfB3, kaB3, kgB3, klB3⟩ := kB3.rules; have kZ3 : Bk w3 (w.heap.size + 1 + 1) 23 #[.int .i64 0, .int .i64 0, .int .i64 0, .int .i64 0] := (by repeat (first | (with_reducible assumption) | ((with_reducible refine Bk.new _ _ _ ?_); first | (with_reducible rfl) | (simp; done)) | (with_reducible refine Bk.alloc ?_ _) | (with_reducible refine Bk.drew ?_) | (with_reducible refine Bk.drewN ?_ _) | ((with_reducible refine Bk.far ?_ ?_ _); rotate_left; focus (first | (simp; done) | (simp; omega))) | (with_reducible refine Bk.below ?_ (by with_reducible assumption)))); obtain ⟨kcZ3, kfZ3, kaZ3, kgZ3, klZ3⟩ := kZ3.rules
      go_wp2
      refine bodyPost_ret (v := _) ?_ rfl ⟨rfl, (by repeat (first | (with_reducible exact Below.refl _ _) | (with_reducible refine balloc ?_ _) | (with_reducible refine Below.drew ?_) | (with_reducible refine bdrewN ?_ _) | ((with_reducible refine bset ?_ ?_ _); rotate_left; focus (first | (with_reducible exact Nat.le_refl _) | (simp; done) | (simp; omega) | omega)) | (with_reducible refine bstep (by with_reducible assumption) ?_)))⟩
      simp [results, Try.results32, go_sem, *]

theorem rinter_q (a b c d a' b' c' d' : Int) (r : Rc) (hr : Hid (interR ⟨a, b, c, d⟩ ⟨a', b', c', d'⟩ = r)) (w : World) :
    Calls Try.prog 32 #[.agg #[.int .i64 a, .int .i64 b, .int .i64 c, .int .i64 d], .agg #[.int .i64 a', .int .i64 b', .int .i64 c', .int .i64 d']] w fun e w' =>
      e = .returned (.agg #[.int .i64 r.x0, .int .i64 r.y0, .int .i64 r.x1, .int .i64 r.y1]) ∧ Below w.heap.size w w' := by
  have h := hr.out; subst h; exact rinter_any a b c d a' b' c' d' w

set_option maxHeartbeats 400000 in
theorem rclamp_any (n lo hi : Int) (w : World) :
    Calls Try.prog 45 #[.int .i64 n, .int .i64 lo, .int .i64 hi] w fun e w' => e = .returned (.int .i64 (clampI n lo hi)) ∧ w = w' := by
  have hmx := max_if
  have hmn := min_if
  go_enter Try.func45, Try.ntmps45
  go_wp2
  go_ret
  exact ⟨ret_int rfl, rfl⟩

theorem clamp_bd (n : Int) : -12288 ≤ clampI n (-12288) 12288 ∧ clampI n (-12288) 12288 ≤ 12288 := by unfold clampI; omega

theorem rclamp_q (n lo hi q : Int) (hq : Hid (clampI n lo hi = q)) (w : World) :
    Calls Try.prog 45 #[.int .i64 n, .int .i64 lo, .int .i64 hi] w fun e w' => e = .returned (.int .i64 q) ∧ w = w' := by
  have h := hq.out; subst h; exact rclamp_any n lo hi w

set_option maxHeartbeats 800000 in
theorem routset_any (a b c d n : Int) (w : World) :
    Calls Try.prog 36 #[.agg #[.int .i64 a, .int .i64 b, .int .i64 c, .int .i64 d], .int .i64 n] w fun e w' =>
      e = .returned (.agg #[.int .i64 (outsetR ⟨a, b, c, d⟩ n).x0, .int .i64 (outsetR ⟨a, b, c, d⟩ n).y0, .int .i64 (outsetR ⟨a, b, c, d⟩ n).x1, .int .i64 (outsetR ⟨a, b, c, d⟩ n).y1]) ∧ Below w.heap.size w w' := by
  rw [← routset_eq]
  cases he : emptyB ⟨a, b, c, d⟩ with
  | true =>
    have hv := Lib.hid he
    have Hu : Hid (routsetR ⟨a, b, c, d⟩ n = ⟨0, 0, 0, 0⟩) := by unfold Hid routsetR; rw [he]; rfl
    clear he
    rw [Hu.out]
    go_enter Try.func36, Try.ntmps36
    go_wp2_with fail
    refine (rempty_q _ _ _ _ true hv _).mono ?_
    rintro e w1 ⟨rfl, hb1⟩
    have kA1 : Bk w1 (w.heap.size) 23 #[.int .i64 a, .int .i64 b, .int .i64 c, .int .i64 d] := (by repeat (first | (with_reducible assumption) | ((with_reducible refine Bk.new _ _ _ ?_); first | (with_reducible rfl) | (simp; done)) | (with_reducible refine Bk.alloc ?_ _) | (with_reducible refine Bk.drew ?_) | (with_reducible refine Bk.drewN ?_ _) | ((with_reducible refine Bk.far ?_ ?_ _); rotate_left; focus (first | (simp; done) | (simp; omega))) | (with_reducible refine Bk.below ?_ (by with_reducible assumption)))); obtain ⟨kcA1, kfA1, kaA1, kgA1, klA1⟩ := kA1.rules; have kY1 : Bk w1 (w.heap.size + 1) 23 #[.int .i64 0, .int .i64 0, .int .i64 0, .int .i64 0] := (by repeat (first | (with_reducible assumption) | ((with_reducible refine Bk.new _ _ _ ?_); first | (with_reducible rfl) | (simp; done)) | (with_reducible refine Bk.alloc ?_ _) | (with_reducible refine Bk.drew ?_) | (with_reducible refine Bk.drewN ?_ _) | ((with_reducible refine Bk.far ?_ ?_ _); rotate_left; focus (first | (simp; done) | (simp; omega))) | (with_reducible refine Bk.below ?_ (by with_reducible assumption)))); obtain ⟨kcY1, kfY1, kaY1, kgY1, klY1⟩ := kY1.rules
    go_wp2
    refine bodyPost_ret (v := _) ?_ rfl ⟨rfl, (by repeat (first | (with_reducible exact Below.refl _ _) | (with_reducible refine balloc ?_ _) | (with_reducible refine Below.drew ?_) | (with_reducible refine bdrewN ?_ _) | ((with_reducible refine bset ?_ ?_ _); rotate_left; focus (first | (with_reducible exact Nat.le_refl _) | (simp; done) | (simp; omega) | omega)) | (with_reducible refine bstep (by with_reducible assumption) ?_)))⟩
    simp [results, Try.results36, go_sem, *]
  | false =>
    have hv := Lib.hid he
    obtain ⟨k1, k2, k3, k4, k5, k6⟩ := emptyB_false he
    simp only at k1 k2 k3 k4 k5 k6
    obtain ⟨k, Hk⟩ : ∃ k, Hid (clampI n (-12288) 12288 = k) := ⟨_, rfl⟩
    have hkb := clamp_bd n
    rw [Hk.out] at hkb
    obtain ⟨q0, H0⟩ : ∃ k', Hid (clampI (a - k) (-4096) 4096 = k') := ⟨_, rfl⟩
    obtain ⟨q1, H1⟩ : ∃ k', Hid (clampI (b - k) (-4096) 4096 = k') := ⟨_, rfl⟩
    obtain ⟨q2, H2⟩ : ∃ k', Hid (clampI (c + k) (-4096) 4096 = k') := ⟨_, rfl⟩
    obtain ⟨q3, H3⟩ : ∃ k', Hid (clampI (d + k) (-4096) 4096 = k') := ⟨_, rfl⟩
    obtain ⟨q, Hq⟩ : ∃ q, Hid (canonR ⟨q0, q1, q2, q3⟩ = q) := ⟨_, rfl⟩
    have Hu : Hid (routsetR ⟨a, b, c, d⟩ n = q) := by unfold Hid routsetR; rw [he, Hk.out]; simp only [H0.out, H1.out, H2.out, H3.out]; exact Hq.out
    clear he
    rw [Hu.out]
    go_enter Try.func36, Try.ntmps36
    go_wp2_with fail
    refine (rempty_q _ _ _ _ false hv _).mono ?_
    rintro e w1 ⟨rfl, hb1⟩
    have kA1 : Bk w1 (w.heap.size) 23 #[.int .i64 a, .int .i64 b, .int .i64 c, .int .i64 d] := (by repeat (first | (with_reducible assumption) | ((with_reducible refine Bk.new _ _ _ ?_); first | (with_reducible rfl) | (simp; done)) | (with_reducible refine Bk.alloc ?_ _) | (with_reducible refine Bk.drew ?_) | (with_reducible refine Bk.drewN ?_ _) | ((with_reducible refine Bk.far ?_ ?_ _); rotate_left; focus (first | (simp; done) | (simp; omega))) | (with_reducible refine Bk.below ?_ (by with_reducible assumption)))); obtain ⟨kcA1, kfA1, kaA1, kgA1, klA1⟩ := kA1.rules; have kY1 : Bk w1 (w.heap.size + 1) 23 #[.int .i64 0, .int .i64 0, .int .i64 0, .int .i64 0] := (by repeat (first | (with_reducible assumption) | ((with_reducible refine Bk.new _ _ _ ?_); first | (with_reducible rfl) | (simp; done)) | (with_reducible refine Bk.alloc ?_ _) | (with_reducible refine Bk.drew ?_) | (with_reducible refine Bk.drewN ?_ _) | ((with_reducible refine Bk.far ?_ ?_ _); rotate_left; focus (first | (simp; done) | (simp; omega))) | (with_reducible refine Bk.below ?_ (by with_reducible assumption)))); obtain ⟨kcY1, kfY1, kaY1, kgY1, klY1⟩ := kY1.rules
    go_wp2_with fail
    refine (rclamp_q _ _ _ k Hk _).mono ?_
    rintro e w2 ⟨rfl, rfl⟩
    go_wp2_with fail
    have e0 : IntKind.i64.wrap (a - k) = a - k := IntWalk.i64_in _ (by omega)
    have e1 : IntKind.i64.wrap (b - k) = b - k := IntWalk.i64_in _ (by omega)
    have e2 : IntKind.i64.wrap (c + k) = c + k := IntWalk.i64_in _ (by omega)
    have e3 : IntKind.i64.wrap (d + k) = d + k := IntWalk.i64_in _ (by omega)
    refine wp_region_gob 21 [(0, true), (1, true), (2, true), (3, true), (5, true), (6, true), (7, true), (8, true), (10, true), (11, true), (12, true), (13, true), (15, true), (16, true), (17, true), (18, true), (4, false), (9, false), (14, false), (19, false), (20, true)] (by kernel_rfl) (by kernel_rfl) (fun c a d v w h => by cases d <;> exact h) ?_
    repeat (refine wpGo_pure (v := ?_) rfl rfl (fun w' hS => ?_) ?_; rotate_left; (· have kAp : Bk w' (w.heap.size) 23 #[.int .i64 a, .int .i64 b, .int .i64 c, .int .i64 d] := (by repeat (first | (with_reducible assumption) | ((with_reducible refine Bk.new _ _ _ ?_); first | (with_reducible rfl) | (simp; done)) | (with_reducible refine Bk.alloc ?_ _) | (with_reducible refine Bk.drew ?_) | (with_reducible refine Bk.drewN ?_ _) | ((with_reducible refine Bk.far ?_ ?_ _); rotate_left; focus (first | (simp; done) | (simp; omega))) | (with_reducible refine Bk.below ?_ (by with_reducible assumption)))); obtain ⟨kcAp, kfAp, kaAp, kgAp, klAp⟩ := kAp.rules; go_simp; exact rfl); (try simp only [Act.put, List.setIfInBounds_toArray, List.set_cons_zero, List.set_cons_succ]))
    refine wpGo_eff rfl (fun K hK => ?_)
    go_simp
    refine (rclamp_q _ _ _ q0 H0 _).mono ?_
    rintro e w3 ⟨rfl, rfl⟩
    refine hK.out _ _ (by repeat (first | (with_reducible exact Below.refl _ _) | (with_reducible refine balloc ?_ _) | (with_reducible refine Below.drew ?_) | (with_reducible refine bdrewN ?_ _) | ((with_reducible refine bset ?_ ?_ _); rotate_left; focus (first | (with_reducible exact Nat.le_refl _) | (simp; done) | (simp; omega) | omega)) | (with_reducible refine bstep (by with_reducible assumption) ?_))) (fun hS3 => ?_)
    clear hK K
    refine wpGo_eff rfl (fun K hK => ?_)
    go_simp
    refine (rclamp_q _ _ _ q1 H1 _).mono ?_
    rintro e w4 ⟨rfl, rfl⟩
    refine hK.out _ _ (by repeat (first | (with_reducible exact Below.refl _ _) | (with_reducible refine balloc ?_ _) | (with_reducible refine Below.drew ?_) | (with_reducible refine bdrewN ?_ _) | ((with_reducible refine bset ?_ ?_ _); rotate_left; focus (first | (with_reducible exact Nat.le_refl _) | (simp; done) | (simp; omega) | omega)) | (with_reducible refine bstep (by with_reducible assumption) ?_))) (fun hS4 => ?_)
    clear hK K
    refine wpGo_eff rfl (fun K hK => ?_)
    go_simp
    refine (rclamp_q _ _ _ q2 H2 _).mono ?_
    rintro e w5 ⟨rfl, rfl⟩
    refine hK.out _ _ (by repeat (first | (with_reducible exact Below.refl _ _) | (with_reducible refine balloc ?_ _) | (with_reducible refine Below.drew ?_) | (with_reducible refine bdrewN ?_ _) | ((with_reducible refine bset ?_ ?_ _); rotate_left; focus (first | (with_reducible exact Nat.le_refl _) | (simp; done) | (simp; omega) | omega)) | (with_reducible refine bstep (by with_reducible assumption) ?_))) (fun hS5 => ?_)
    clear hK K
    refine wpGo_eff rfl (fun K hK => ?_)
    go_simp
    refine (rclamp_q _ _ _ q3 H3 _).mono ?_
    rintro e w6 ⟨rfl, rfl⟩
    refine hK.out _ _ (by repeat (first | (with_reducible exact Below.refl _ _) | (with_reducible refine balloc ?_ _) | (with_reducible refine Below.drew ?_) | (with_reducible refine bdrewN ?_ _) | ((with_reducible refine bset ?_ ?_ _); rotate_left; focus (first | (with_reducible exact Nat.le_refl _) | (simp; done) | (simp; omega) | omega)) | (with_reducible refine bstep (by with_reducible assumption) ?_))) (fun hS6 => ?_)
    clear hK K
    repeat (refine wpGo_pure (v := ?_) rfl rfl (fun w' hS => ?_) ?_; rotate_left; (· have kAp : Bk w' (w.heap.size) 23 #[.int .i64 a, .int .i64 b, .int .i64 c, .int .i64 d] := (by repeat (first | (with_reducible assumption) | ((with_reducible refine Bk.new _ _ _ ?_); first | (with_reducible rfl) | (simp; done)) | (with_reducible refine Bk.alloc ?_ _) | (with_reducible refine Bk.drew ?_) | (with_reducible refine Bk.drewN ?_ _) | ((with_reducible refine Bk.far ?_ ?_ _); rotate_left; focus (first | (simp; done) | (simp; omega))) | (with_reducible refine Bk.below ?_ (by with_reducible assumption)))); obtain ⟨kcAp, kfAp, kaAp, kgAp, klAp⟩ := kAp.rules; go_simp; exact rfl); (try simp only [Act.put, List.setIfInBounds_toArray, List.set_cons_zero, List.set_cons_succ]))
    refine wpGo_nil ?_
    simp only [List.drop_succ_cons, List.drop_zero]
    clear e0 e1 e2 e3
    go_wp2_with fail
    refine (rcanon_q _ _ _ _ q Hq _).mono ?_
    rintro e w2 ⟨rfl, hb2⟩
    have kA2 : Bk w2 (w.heap.size) 23 #[.int .i64 a, .int .i64 b, .int .i64 c, .int .i64 d] := (by repeat (first | (with_reducible assumption) | ((with_reducible refine Bk.new _ _ _ ?_); first | (with_reducible rfl) | (simp; done)) | (with_reducible refine Bk.alloc ?_ _) | (with_reducible refine Bk.drew ?_) | (with_reducible refine Bk.drewN ?_ _) | ((with_reducible refine Bk.far ?_ ?_ _); rotate_left; focus (first | (simp; done) | (simp; omega))) | (with_reducible refine Bk.below ?_ (by with_reducible assumption)))); obtain ⟨kcA2, kfA2, kaA2, kgA2, klA2⟩ := kA2.rules; have kY2 : Bk w2 (w.heap.size + 1) 23 #[.int .i64 0, .int .i64 0, .int .i64 0, .int .i64 0] := (by repeat (first | (with_reducible assumption) | ((with_reducible refine Bk.new _ _ _ ?_); first | (with_reducible rfl) | (simp; done)) | (with_reducible refine Bk.alloc ?_ _) | (with_reducible refine Bk.drew ?_) | (with_reducible refine Bk.drewN ?_ _) | ((with_reducible refine Bk.far ?_ ?_ _); rotate_left; focus (first | (simp; done) | (simp; omega))) | (with_reducible refine Bk.below ?_ (by with_reducible assumption)))); obtain ⟨kcY2, kfY2, kaY2, kgY2, klY2⟩ := kY2.rules
    go_wp2
    refine bodyPost_ret (v := _) ?_ rfl ⟨rfl, (by repeat (first | (with_reducible exact Below.refl _ _) | (with_reducible refine balloc ?_ _) | (with_reducible refine Below.drew ?_) | (with_reducible refine bdrewN ?_ _) | ((with_reducible refine bset ?_ ?_ _); rotate_left; focus (first | (with_reducible exact Nat.le_refl _) | (simp; done) | (simp; omega) | omega)) | (with_reducible refine bstep (by with_reducible assumption) ?_)))⟩
    simp [results, Try.results36, go_sem, *]
end Go.Proofs.Ytiaeaegocfmjhaa
