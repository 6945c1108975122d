/-
  The walks of package rect, third part: Within, Union, Outset.
-/
import Derived.Test.YtndablijjkchjaaRect2
namespace Go.Proofs.Ytndablijjkchjaa
open Go.RowKit
set_option linter.unusedSimpArgs false
set_option linter.unusedVariables false


/-- '==' on two rectangles. -/
theorem eql_rect (p0 p1 p2 p3 q0 q1 q2 q3 : Int) (w : World) : (binOp .eql 26 (.agg #[.int .i64 p0, .int .i64 p1, .int .i64 p2, .int .i64 p3]) (.agg #[.int .i64 q0, .int .i64 q1, .int .i64 q2, .int .i64 q3])).run Try.prog w = .ok (.bool (eqB ⟨p0, p1, p2, p3⟩ ⟨q0, q1, q2, q3⟩)) w := by
  have u3 := Try.underlying3
  have a3 := Try.isAgg3
  have z3 := Try.sizeOf3
  have hS : Try.prog.underlying 26 = some (.struct (Try.prog.fieldsOf 26)) := by kernel_rfl
  have hp : Try.prog.stoodInHeld 26 = false := by kernel_rfl
  rw [run_eql_struct, show (10000 : Nat) = 9999 + 1 from rfl, run_equalIn_agg w 9999 26 _ _ hS hp]
  simp only [Program.fieldsOf, Try.underlying26]
  go_simp
  unfold eqB
  by_cases h0 : p0 = q0 <;> by_cases h1 : p1 = q1 <;> by_cases h2 : p2 = q2 <;> by_cases h3 : p3 = q3 <;> simp [h0, h1, h2, h3]

theorem empty_q (a b c d : Int) (v : Bool) (hv : Hid (emptyB ⟨a, b, c, d⟩ = v)) (w : World) :
    Calls Try.prog 83 #[.agg #[.int .i64 a, .int .i64 b, .int .i64 c, .int .i64 d]] w fun e w' => e = .returned (.bool v) ∧ Below w.heap.size w w' := by
  have h := hv.out; subst h; exact empty_any a b c d w

set_option maxHeartbeats 400000 in
theorem union_any (a b c d a' b' c' d' : Int) (w : World) :
    Calls Try.prog 59 #[.agg #[.int .i64 a, .int .i64 b, .int .i64 c, .int .i64 d], .agg #[.int .i64 a', .int .i64 b', .int .i64 c', .int .i64 d']] w fun e w' =>
      e = .returned (.agg #[.int .i64 (unionR ⟨a, b, c, d⟩ ⟨a', b', c', d'⟩).x0, .int .i64 (unionR ⟨a, b, c, d⟩ ⟨a', b', c', d'⟩).y0, .int .i64 (unionR ⟨a, b, c, d⟩ ⟨a', b', c', d'⟩).x1, .int .i64 (unionR ⟨a, b, c, d⟩ ⟨a', b', c', d'⟩).y1]) ∧ Below w.heap.size w w' := by
  have hmx := max_if
  have hmn := min_if
  cases he : emptyB ⟨a, b, c, d⟩ with
  | true =>
    have hv := Lib.hid he
    obtain ⟨q, Hq⟩ : ∃ p, Hid (canonR ⟨a', b', c', d'⟩ = p) := ⟨_, rfl⟩
    have Hu : Hid (unionR ⟨a, b, c, d⟩ ⟨a', b', c', d'⟩ = q) := by unfold Hid unionR; rw [if_pos he]; exact Hq.out
    clear he
    rw [Hu.out]
    go_enter Try.func59, Try.ntmps59
    go_wp2_with (first | (go_at_call 83; refine (empty_q _ _ _ _ true hv _).mono ?_; rintro e w1 ⟨rfl, hb1⟩; have kA1 : Bk w1 (w.heap.size) 26 #[.int .i64 a, .int .i64 b, .int .i64 c, .int .i64 d] := (by repeat (first | (with_reducible assumption) | ((with_reducible refine Bk.new _ _ _ ?_); first | (with_reducible rfl) | (simp; done)) | (with_reducible refine Bk.alloc ?_ _) | (with_reducible refine Bk.drew ?_) | (with_reducible refine Bk.drewN ?_ _) | ((with_reducible refine Bk.far ?_ ?_ _); rotate_left; focus (first | (simp; done) | (simp; omega))) | (with_reducible refine Bk.below ?_ (by with_reducible assumption)))); obtain ⟨kcA1, kfA1, kaA1, kgA1, klA1⟩ := kA1.rules; have kB1 : Bk w1 (w.heap.size + 1) 26 #[.int .i64 a', .int .i64 b', .int .i64 c', .int .i64 d'] := (by repeat (first | (with_reducible assumption) | ((with_reducible refine Bk.new _ _ _ ?_); first | (with_reducible rfl) | (simp; done)) | (with_reducible refine Bk.alloc ?_ _) | (with_reducible refine Bk.drew ?_) | (with_reducible refine Bk.drewN ?_ _) | ((with_reducible refine Bk.far ?_ ?_ _); rotate_left; focus (first | (simp; done) | (simp; omega))) | (with_reducible refine Bk.below ?_ (by with_reducible assumption)))); obtain ⟨kcB1, kfB1, kaB1, kgB1, klB1⟩ := kB1.rules; have kZ1 : Bk w1 (w.heap.size + 1 + 1) 26 #[.int .i64 0, .int .i64 0, .int .i64 0, .int .i64 0] := (by repeat (first | (with_reducible assumption) | ((with_reducible refine Bk.new _ _ _ ?_); first | (with_reducible rfl) | (simp; done)) | (with_reducible refine Bk.alloc ?_ _) | (with_reducible refine Bk.drew ?_) | (with_reducible refine Bk.drewN ?_ _) | ((with_reducible refine Bk.far ?_ ?_ _); rotate_left; focus (first | (simp; done) | (simp; omega))) | (with_reducible refine Bk.below ?_ (by with_reducible assumption)))); obtain ⟨kcZ1, kfZ1, kaZ1, kgZ1, klZ1⟩ := kZ1.rules) | (go_at_call 68; refine (canon_q _ _ _ _ q Hq _).mono ?_; rintro e w2 ⟨rfl, hb2⟩; have kZ2 : Bk w2 (w.heap.size + 1 + 1) 26 #[.int .i64 0, .int .i64 0, .int .i64 0, .int .i64 0] := (by repeat (first | (with_reducible assumption) | ((with_reducible refine Bk.new _ _ _ ?_); first | (with_reducible rfl) | (simp; done)) | (with_reducible refine Bk.alloc ?_ _) | (with_reducible refine Bk.drew ?_) | (with_reducible refine Bk.drewN ?_ _) | ((with_reducible refine Bk.far ?_ ?_ _); rotate_left; focus (first | (simp; done) | (simp; omega))) | (with_reducible refine Bk.below ?_ (by with_reducible assumption)))); obtain ⟨kcZ2, kfZ2, kaZ2, kgZ2, klZ2⟩ := kZ2.rules))
    refine bodyPost_ret (v := _) ?_ rfl ⟨rfl, (by repeat (first | (with_reducible exact Below.refl _ _) | (with_reducible refine balloc ?_ _) | (with_reducible refine Below.drew ?_) | (with_reducible refine bdrewN ?_ _) | ((with_reducible refine bset ?_ ?_ _); rotate_left; focus (first | (with_reducible exact Nat.le_refl _) | (simp; done) | (simp; omega) | omega)) | (with_reducible refine bstep (by with_reducible assumption) ?_)))⟩
    simp [results, Try.results59, go_sem, *]
  | false =>
    have hv := Lib.hid he
    cases he' : emptyB ⟨a', b', c', d'⟩ with
    | true =>
      have hv' := Lib.hid he'
      have Hu : Hid (unionR ⟨a, b, c, d⟩ ⟨a', b', c', d'⟩ = ⟨a, b, c, d⟩) := by unfold Hid unionR; rw [he, he']; rfl
      clear he he'
      rw [Hu.out]
      go_enter Try.func59, Try.ntmps59
      go_wp2_with fail
      refine (empty_q _ _ _ _ false hv _).mono ?_
      rintro e w1 ⟨rfl, hb1⟩
      have kA1 : Bk w1 (w.heap.size) 26 #[.int .i64 a, .int .i64 b, .int .i64 c, .int .i64 d] := (by repeat (first | (with_reducible assumption) | ((with_reducible refine Bk.new _ _ _ ?_); first | (with_reducible rfl) | (simp; done)) | (with_reducible refine Bk.alloc ?_ _) | (with_reducible refine Bk.drew ?_) | (with_reducible refine Bk.drewN ?_ _) | ((with_reducible refine Bk.far ?_ ?_ _); rotate_left; focus (first | (simp; done) | (simp; omega))) | (with_reducible refine Bk.below ?_ (by with_reducible assumption)))); obtain ⟨kcA1, kfA1, kaA1, kgA1, klA1⟩ := kA1.rules; have kB1 : Bk w1 (w.heap.size + 1) 26 #[.int .i64 a', .int .i64 b', .int .i64 c', .int .i64 d'] := (by repeat (first | (with_reducible assumption) | ((with_reducible refine Bk.new _ _ _ ?_); first | (with_reducible rfl) | (simp; done)) | (with_reducible refine Bk.alloc ?_ _) | (with_reducible refine Bk.drew ?_) | (with_reducible refine Bk.drewN ?_ _) | ((with_reducible refine Bk.far ?_ ?_ _); rotate_left; focus (first | (simp; done) | (simp; omega))) | (with_reducible refine Bk.below ?_ (by with_reducible assumption)))); obtain ⟨kcB1, kfB1, kaB1, kgB1, klB1⟩ := kB1.rules; have kZ1 : Bk w1 (w.heap.size + 1 + 1) 26 #[.int .i64 0, .int .i64 0, .int .i64 0, .int .i64 0] := (by repeat (first | (with_reducible assumption) | ((with_reducible refine Bk.new _ _ _ ?_); first | (with_reducible rfl) | (simp; done)) | (with_reducible refine Bk.alloc ?_ _) | (with_reducible refine Bk.drew ?_) | (with_reducible refine Bk.drewN ?_ _) | ((with_reducible refine Bk.far ?_ ?_ _); rotate_left; focus (first | (simp; done) | (simp; omega))) | (with_reducible refine Bk.below ?_ (by with_reducible assumption)))); obtain ⟨kcZ1, kfZ1, kaZ1, kgZ1, klZ1⟩ := kZ1.rules
      go_wp2_with fail
      refine (empty_q _ _ _ _ true hv' _).mono ?_
      rintro e w2 ⟨rfl, hb2⟩
      have kA2 : Bk w2 (w.heap.size) 26 #[.int .i64 a, .int .i64 b, .int .i64 c, .int .i64 d] := (by repeat (first | (with_reducible assumption) | ((with_reducible refine Bk.new _ _ _ ?_); first | (with_reducible rfl) | (simp; done)) | (with_reducible refine Bk.alloc ?_ _) | (with_reducible refine Bk.drew ?_) | (with_reducible refine Bk.drewN ?_ _) | ((with_reducible refine Bk.far ?_ ?_ _); rotate_left; focus (first | (simp; done) | (simp; omega))) | (with_reducible refine Bk.below ?_ (by with_reducible assumption)))); obtain ⟨kcA2, kfA2, kaA2, kgA2, klA2⟩ := kA2.rules; have kB2 : Bk w2 (w.heap.size + 1) 26 #[.int .i64 a', .int .i64 b', .int .i64 c', .int .i64 d'] := (by repeat (first | (with_reducible assumption) | ((with_reducible refine Bk.new _ _ _ ?_); first | (with_reducible rfl) | (simp; done)) | (with_reducible refine Bk.alloc ?_ _) | (with_reducible refine Bk.drew ?_) | (with_reducible refine Bk.drewN ?_ _) | ((with_reducible refine Bk.far ?_ ?_ _); rotate_left; focus (first | (simp; done) | (simp; omega))) | (with_reducible refine Bk.below ?_ (by with_reducible assumption)))); obtain ⟨kcB2, kfB2, kaB2, kgB2, klB2⟩ := kB2.rules; have kZ2 : Bk w2 (w.heap.size + 1 + 1) 26 #[.int .i64 0, .int .i64 0, .int .i64 0, .int .i64 0] := (by repeat (first | (with_reducible assumption) | ((with_reducible refine Bk.new _ _ _ ?_); first | (with_reducible rfl) | (simp; done)) | (with_reducible refine Bk.alloc ?_ _) | (with_reducible refine Bk.drew ?_) | (with_reducible refine Bk.drewN ?_ _) | ((with_reducible refine Bk.far ?_ ?_ _); rotate_left; focus (first | (simp; done) | (simp; omega))) | (with_reducible refine Bk.below ?_ (by with_reducible assumption)))); obtain ⟨kcZ2, kfZ2, kaZ2, kgZ2, klZ2⟩ := kZ2.rules
      go_wp2
      refine bodyPost_ret (v := _) ?_ rfl ⟨rfl, (by repeat (first | (with_reducible exact Below.refl _ _) | (with_reducible refine balloc ?_ _) | (with_reducible refine Below.drew ?_) | (with_reducible refine bdrewN ?_ _) | ((with_reducible refine bset ?_ ?_ _); rotate_left; focus (first | (with_reducible exact Nat.le_refl _) | (simp; done) | (simp; omega) | omega)) | (with_reducible refine bstep (by with_reducible assumption) ?_)))⟩
      simp [results, Try.results59, go_sem, *]
    | false =>
      have hv' := Lib.hid he'
      have Hu : Hid (unionR ⟨a, b, c, d⟩ ⟨a', b', c', d'⟩ = ⟨min a a', min b b', max c c', max d d'⟩) := by unfold Hid unionR; rw [he, he']; rfl
      clear he he'
      rw [Hu.out]
      go_enter Try.func59, Try.ntmps59
      go_wp2_with fail
      refine (empty_q _ _ _ _ false hv _).mono ?_
      rintro e w1 ⟨rfl, hb1⟩
      have kA1 : Bk w1 (w.heap.size) 26 #[.int .i64 a, .int .i64 b, .int .i64 c, .int .i64 d] := (by repeat (first | (with_reducible assumption) | ((with_reducible refine Bk.new _ _ _ ?_); first | (with_reducible rfl) | (simp; done)) | (with_reducible refine Bk.alloc ?_ _) | (with_reducible refine Bk.drew ?_) | (with_reducible refine Bk.drewN ?_ _) | ((with_reducible refine Bk.far ?_ ?_ _); rotate_left; focus (first | (simp; done) | (simp; omega))) | (with_reducible refine Bk.below ?_ (by with_reducible assumption)))); obtain ⟨kcA1, kfA1, kaA1, kgA1, klA1⟩ := kA1.rules; have kB1 : Bk w1 (w.heap.size + 1) 26 #[.int .i64 a', .int .i64 b', .int .i64 c', .int .i64 d'] := (by repeat (first | (with_reducible assumption) | ((with_reducible refine Bk.new _ _ _ ?_); first | (with_reducible rfl) | (simp; done)) | (with_reducible refine Bk.alloc ?_ _) | (with_reducible refine Bk.drew ?_) | (with_reducible refine Bk.drewN ?_ _) | ((with_reducible refine Bk.far ?_ ?_ _); rotate_left; focus (first | (simp; done) | (simp; omega))) | (with_reducible refine Bk.below ?_ (by with_reducible assumption)))); obtain ⟨kcB1, kfB1, kaB1, kgB1, klB1⟩ := kB1.rules; have kZ1 : Bk w1 (w.heap.size + 1 + 1) 26 #[.int .i64 0, .int .i64 0, .int .i64 0, .int .i64 0] := (by repeat (first | (with_reducible assumption) | ((with_reducible refine Bk.new _ _ _ ?_); first | (with_reducible rfl) | (simp; done)) | (with_reducible refine Bk.alloc ?_ _) | (with_reducible refine Bk.drew ?_) | (with_reducible refine Bk.drewN ?_ _) | ((with_reducible refine Bk.far ?_ ?_ _); rotate_left; focus (first | (simp; done) | (simp; omega))) | (with_reducible refine Bk.below ?_ (by with_reducible assumption)))); obtain ⟨kcZ1, kfZ1, kaZ1, kgZ1, klZ1⟩ := kZ1.rules
      go_wp2_with fail
      refine (empty_q _ _ _ _ false hv' _).mono ?_
      rintro e w2 ⟨rfl, hb2⟩
      have kA2 : Bk w2 (w.heap.size) 26 #[.int .i64 a, .int .i64 b, .int .i64 c, .int .i64 d] := (by repeat (first | (with_reducible assumption) | ((with_reducible refine Bk.new _ _ _ ?_); first | (with_reducible rfl) | (simp; done)) | (with_reducible refine Bk.alloc ?_ _) | (with_reducible refine Bk.drew ?_) | (with_reducible refine Bk.drewN ?_ _) | ((with_reducible refine Bk.far ?_ ?_ _); rotate_left; focus (first | (simp; done) | (simp; omega))) | (with_reducible refine Bk.below ?_ (by with_reducible assumption)))); obtain ⟨kcA2, kfA2, kaA2, kgA2, klA2⟩ := kA2.rules; have kB2 : Bk w2 (w.heap.size + 1) 26 #[.int .i64 a', .int .i64 b', .int .i64 c', .int .i64 d'] := (by repeat (first | (with_reducible assumption) | ((with_reducible refine Bk.new _ _ _ ?_); first | (with_reducible rfl) | (simp; done)) | (with_reducible refine Bk.alloc ?_ _) | (with_reducible refine Bk.drew ?_) | (with_reducible refine Bk.drewN ?_ _) | ((with_reducible refine Bk.far ?_ ?_ _); rotate_left; focus (first | (simp; done) | (simp; omega))) | (with_reducible refine Bk.below ?_ (by with_reducible assumption)))); obtain ⟨kcB2, kfB2, kaB2, kgB2, klB2⟩ := kB2.rules; have kZ2 : Bk w2 (w.heap.size + 1 + 1) 26 #[.int .i64 0, .int .i64 0, .int .i64 0, .int .i64 0] := (by repeat (first | (with_reducible assumption) | ((with_reducible refine Bk.new _ _ _ ?_); first | (with_reducible rfl) | (simp; done)) | (with_reducible refine Bk.alloc ?_ _) | (with_reducible refine Bk.drew ?_) | (with_reducible refine Bk.drewN ?_ _) | ((with_reducible refine Bk.far ?_ ?_ _); rotate_left; focus (first | (simp; done) | (simp; omega))) | (with_reducible refine Bk.below ?_ (by with_reducible assumption)))); obtain ⟨kcZ2, kfZ2, kaZ2, kgZ2, klZ2⟩ := kZ2.rules
      go_wp2
      refine bodyPost_ret (v := _) ?_ rfl ⟨rfl, (by repeat (first | (with_reducible exact Below.refl _ _) | (with_reducible refine balloc ?_ _) | (with_reducible refine Below.drew ?_) | (with_reducible refine bdrewN ?_ _) | ((with_reducible refine bset ?_ ?_ _); rotate_left; focus (first | (with_reducible exact Nat.le_refl _) | (simp; done) | (simp; omega) | omega)) | (with_reducible refine bstep (by with_reducible assumption) ?_)))⟩
      simp [results, Try.results59, go_sem, *]

theorem union_q (a b c d a' b' c' d' : Int) (r : Rc) (hr : Hid (unionR ⟨a, b, c, d⟩ ⟨a', b', c', d'⟩ = r)) (w : World) :
    Calls Try.prog 59 #[.agg #[.int .i64 a, .int .i64 b, .int .i64 c, .int .i64 d], .agg #[.int .i64 a', .int .i64 b', .int .i64 c', .int .i64 d']] w fun e w' =>
      e = .returned (.agg #[.int .i64 r.x0, .int .i64 r.y0, .int .i64 r.x1, .int .i64 r.y1]) ∧ Below w.heap.size w w' := by
  have h := hr.out; subst h; exact union_any a b c d a' b' c' d' w

end Go.Proofs.Ytndablijjkchjaa
