/-
  The walks of package rect, third part: Within, Union, Outset.
-/
import Derived.Test.YtiaeaegocfmjhaaRect2
namespace Go.Proofs.Ytiaeaegocfmjhaa
open Go.RowKit
set_option linter.unusedSimpArgs false
set_option linter.unusedVariables false


/-- '==' on two rectangles. -/
theorem eql_rect (p0 p1 p2 p3 q0 q1 q2 q3 : Int) (w : World) : (binOp .eql 23 (.agg #[.int .i64 p0, .int .i64 p1, .int .i64 p2, .int .i64 p3]) (.agg #[.int .i64 q0, .int .i64 q1, .int .i64 q2, .int .i64 q3])).run Try.prog w = .ok (.bool (eqB ⟨p0, p1, p2, p3⟩ ⟨q0, q1, q2, q3⟩)) w := by
  have u3 := Try.underlying3
  have a3 := Try.isAgg3
  have z3 := Try.sizeOf3
  have hS : Try.prog.underlying 23 = some (.struct (Try.prog.fieldsOf 23)) := by kernel_rfl
  have hp : Try.prog.stoodInHeld 23 = false := by kernel_rfl
  rw [run_eql_struct, show (10000 : Nat) = 9999 + 1 from rfl, run_equalIn_agg w 9999 23 _ _ hS hp]
  simp only [Program.fieldsOf, Try.underlying23]
  go_simp
  unfold eqB
  by_cases h0 : p0 = q0 <;> by_cases h1 : p1 = q1 <;> by_cases h2 : p2 = q2 <;> by_cases h3 : p3 = q3 <;> simp [h0, h1, h2, h3]

set_option maxHeartbeats 400000 in
theorem within_any (a b c d a' b' c' d' : Int) (w : World) :
    Calls Try.prog 29 #[.agg #[.int .i64 a, .int .i64 b, .int .i64 c, .int .i64 d], .agg #[.int .i64 a', .int .i64 b', .int .i64 c', .int .i64 d']] w fun e w' =>
      e = .returned (.bool (withinB ⟨a, b, c, d⟩ ⟨a', b', c', d'⟩)) ∧ Below w.heap.size w w' := by
  obtain ⟨p, Hp⟩ : ∃ p, Hid (interR ⟨a, b, c, d⟩ ⟨a', b', c', d'⟩ = p) := ⟨_, rfl⟩
  obtain ⟨q, Hq⟩ : ∃ p, Hid (canonR ⟨a, b, c, d⟩ = p) := ⟨_, rfl⟩
  have heq := eql_rect p.x0 p.y0 p.x1 p.y1 q.x0 q.y0 q.x1 q.y1
  go_enter Try.func29, Try.ntmps29
  go_wp2_with fail
  refine wp_region_gob 7 [(0, true), (1, true), (3, true), (2, false), (4, false), (5, true), (6, true)] (by kernel_rfl) (by kernel_rfl) (fun c a d v w h => by cases d <;> exact h) ?_
  repeat (refine wpGo_pure (v := ?_) rfl rfl (fun w' hS => ?_) ?_; rotate_left; (· have kAp : Bk w' (w.heap.size) 23 #[.int .i64 a, .int .i64 b, .int .i64 c, .int .i64 d] := (by repeat (first | (with_reducible assumption) | ((with_reducible refine Bk.new _ _ _ ?_); first | (with_reducible rfl) | (simp; done)) | (with_reducible refine Bk.alloc ?_ _) | (with_reducible refine Bk.drew ?_) | (with_reducible refine Bk.drewN ?_ _) | ((with_reducible refine Bk.far ?_ ?_ _); rotate_left; focus (first | (simp; done) | (simp; omega))) | (with_reducible refine Bk.below ?_ (by with_reducible assumption)))); obtain ⟨kcAp, kfAp, kaAp, kgAp, klAp⟩ := kAp.rules; have kBp : Bk w' (w.heap.size + 1) 23 #[.int .i64 a', .int .i64 b', .int .i64 c', .int .i64 d'] := (by repeat (first | (with_reducible assumption) | ((with_reducible refine Bk.new _ _ _ ?_); first | (with_reducible rfl) | (simp; done)) | (with_reducible refine Bk.alloc ?_ _) | (with_reducible refine Bk.drew ?_) | (with_reducible refine Bk.drewN ?_ _) | ((with_reducible refine Bk.far ?_ ?_ _); rotate_left; focus (first | (simp; done) | (simp; omega))) | (with_reducible refine Bk.below ?_ (by with_reducible assumption)))); obtain ⟨kcBp, kfBp, kaBp, kgBp, klBp⟩ := kBp.rules; go_simp; exact rfl); (try simp only [Act.put, List.setIfInBounds_toArray, List.set_cons_zero, List.set_cons_succ]))
  refine wpGo_eff rfl (fun K hK => ?_)
  go_simp
  refine (inter_q _ _ _ _ _ _ _ _ p Hp _).mono ?_
  rintro e w1 ⟨rfl, hb1⟩
  refine hK.out _ _ (by repeat (first | (with_reducible exact Below.refl _ _) | (with_reducible refine balloc ?_ _) | (with_reducible refine Below.drew ?_) | (with_reducible refine bdrewN ?_ _) | ((with_reducible refine bset ?_ ?_ _); rotate_left; focus (first | (with_reducible exact Nat.le_refl _) | (simp; done) | (simp; omega) | omega)) | (with_reducible refine bstep (by with_reducible assumption) ?_))) (fun hS1 => ?_)
  clear hK K
  refine wpGo_eff rfl (fun K hK => ?_)
  go_simp
  refine (canon_q _ _ _ _ q Hq _).mono ?_
  rintro e w2 ⟨rfl, hb2⟩
  refine hK.out _ _ (by repeat (first | (with_reducible exact Below.refl _ _) | (with_reducible refine balloc ?_ _) | (with_reducible refine Below.drew ?_) | (with_reducible refine bdrewN ?_ _) | ((with_reducible refine bset ?_ ?_ _); rotate_left; focus (first | (with_reducible exact Nat.le_refl _) | (simp; done) | (simp; omega) | omega)) | (with_reducible refine bstep (by with_reducible assumption) ?_))) (fun hS2 => ?_)
  clear hK K
  repeat (refine wpGo_pure (v := ?_) rfl rfl (fun w' hS => ?_) ?_; rotate_left; (· have kAp : Bk w' (w.heap.size) 23 #[.int .i64 a, .int .i64 b, .int .i64 c, .int .i64 d] := (by repeat (first | (with_reducible assumption) | ((with_reducible refine Bk.new _ _ _ ?_); first | (with_reducible rfl) | (simp; done)) | (with_reducible refine Bk.alloc ?_ _) | (with_reducible refine Bk.drew ?_) | (with_reducible refine Bk.drewN ?_ _) | ((with_reducible refine Bk.far ?_ ?_ _); rotate_left; focus (first | (simp; done) | (simp; omega))) | (with_reducible refine Bk.below ?_ (by with_reducible assumption)))); obtain ⟨kcAp, kfAp, kaAp, kgAp, klAp⟩ := kAp.rules; have kBp : Bk w' (w.heap.size + 1) 23 #[.int .i64 a', .int .i64 b', .int .i64 c', .int .i64 d'] := (by repeat (first | (with_reducible assumption) | ((with_reducible refine Bk.new _ _ _ ?_); first | (with_reducible rfl) | (simp; done)) | (with_reducible refine Bk.alloc ?_ _) | (with_reducible refine Bk.drew ?_) | (with_reducible refine Bk.drewN ?_ _) | ((with_reducible refine Bk.far ?_ ?_ _); rotate_left; focus (first | (simp; done) | (simp; omega))) | (with_reducible refine Bk.below ?_ (by with_reducible assumption)))); obtain ⟨kcBp, kfBp, kaBp, kgBp, klBp⟩ := kBp.rules; go_simp; exact rfl); (try simp only [Act.put, List.setIfInBounds_toArray, List.set_cons_zero, List.set_cons_succ]))
  refine wpGo_nil ?_
  simp only [List.drop_succ_cons, List.drop_zero]
  go_wp2
  go_ret
  exact ⟨ret_bool (by unfold withinB; rw [Hp.out, Hq.out]), (by repeat (first | (with_reducible exact Below.refl _ _) | (with_reducible refine balloc ?_ _) | (with_reducible refine Below.drew ?_) | (with_reducible refine bdrewN ?_ _) | ((with_reducible refine bset ?_ ?_ _); rotate_left; focus (first | (with_reducible exact Nat.le_refl _) | (simp; done) | (simp; omega) | omega)) | (with_reducible refine bstep (by with_reducible assumption) ?_)))⟩

theorem empty_q (a b c d : Int) (v : Bool) (hv : Hid (emptyB ⟨a, b, c, d⟩ = v)) (w : World) :
    Calls Try.prog 19 #[.agg #[.int .i64 a, .int .i64 b, .int .i64 c, .int .i64 d]] w fun e w' => e = .returned (.bool v) ∧ Below w.heap.size w w' := by
  have h := hv.out; subst h; exact empty_any a b c d w

set_option maxHeartbeats 400000 in
theorem union_any (a b c d a' b' c' d' : Int) (w : World) :
    Calls Try.prog 33 #[.agg #[.int .i64 a, .int .i64 b, .int .i64 c, .int .i64 d], .agg #[.int .i64 a', .int .i64 b', .int .i64 c', .int .i64 d']] w fun e w' =>
      e = .returned (.agg #[.int .i64 (unionR ⟨a, b, c, d⟩ ⟨a', b', c', d'⟩).x0, .int .i64 (unionR ⟨a, b, c, d⟩ ⟨a', b', c', d'⟩).y0, .int .i64 (unionR ⟨a, b, c, d⟩ ⟨a', b', c', d'⟩).x1, .int .i64 (unionR ⟨a, b, c, d⟩ ⟨a', b', c', d'⟩).y1]) ∧ Below w.heap.size w w' := by
  have hmx := max_if
  have hmn := min_if
  cases he : emptyB ⟨a, b, c, d⟩ with
  | true =>
    have hv := Lib.hid he
    obtain ⟨q, Hq⟩ : ∃ p, Hid (canonR ⟨a', b', c', d'⟩ = p) := ⟨_, rfl⟩
    have Hu : Hid (unionR ⟨a, b, c, d⟩ ⟨a', b', c', d'⟩ = q) := by unfold Hid unionR; rw [if_pos he]; exact Hq.out
    clear he
    rw [Hu.out]
    go_enter Try.func33, Try.ntmps33
    go_wp2_with (first | (go_at_call 19; refine (empty_q _ _ _ _ true hv _).mono ?_; rintro e w1 ⟨rfl, hb1⟩; have kA1 : Bk w1 (w.heap.size) 23 #[.int .i64 a, .int .i64 b, .int .i64 c, .int .i64 d] := (by repeat (first | (with_reducible assumption) | ((with_reducible refine Bk.new _ _ _ ?_); first | (with_reducible rfl) | (simp; done)) | (with_reducible refine Bk.alloc ?_ _) | (with_reducible refine Bk.drew ?_) | (with_reducible refine Bk.drewN ?_ _) | ((with_reducible refine Bk.far ?_ ?_ _); rotate_left; focus (first | (simp; done) | (simp; omega))) | (with_reducible refine Bk.below ?_ (by with_reducible assumption)))); obtain ⟨kcA1, kfA1, kaA1, kgA1, klA1⟩ := kA1.rules; have kB1 : Bk w1 (w.heap.size + 1) 23 #[.int .i64 a', .int .i64 b', .int .i64 c', .int .i64 d'] := (by repeat (first | (with_reducible assumption) | ((with_reducible refine Bk.new _ _ _ ?_); first | (with_reducible rfl) | (simp; done)) | (with_reducible refine Bk.alloc ?_ _) | (with_reducible refine Bk.drew ?_) | (with_reducible refine Bk.drewN ?_ _) | ((with_reducible refine Bk.far ?_ ?_ _); rotate_left; focus (first | (simp; done) | (simp; omega))) | (with_reducible refine Bk.below ?_ (by with_reducible assumption)))); obtain ⟨kcB1, kfB1, kaB1, kgB1, klB1⟩ := kB1.rules; have kZ1 : Bk w1 (w.heap.size + 1 + 1) 23 #[.int .i64 0, .int .i64 0, .int .i64 0, .int .i64 0] := (by repeat (first | (with_reducible assumption) | ((with_reducible refine Bk.new _ _ _ ?_); first | (with_reducible rfl) | (simp; done)) | (with_reducible refine Bk.alloc ?_ _) | (with_reducible refine Bk.drew ?_) | (with_reducible refine Bk.drewN ?_ _) | ((with_reducible refine Bk.far ?_ ?_ _); rotate_left; focus (first | (simp; done) | (simp; omega))) | (with_reducible refine Bk.below ?_ (by with_reducible assumption)))); obtain ⟨kcZ1, kfZ1, kaZ1, kgZ1, klZ1⟩ := kZ1.rules) | (go_at_call 21; refine (canon_q _ _ _ _ q Hq _).mono ?_; rintro e w2 ⟨rfl, hb2⟩; have kZ2 : Bk w2 (w.heap.size + 1 + 1) 23 #[.int .i64 0, .int .i64 0, .int .i64 0, .int .i64 0] := (by repeat (first | (with_reducible assumption) | ((with_reducible refine Bk.new _ _ _ ?_); first | (with_reducible rfl) | (simp; done)) | (with_reducible refine Bk.alloc ?_ _) | (with_reducible refine Bk.drew ?_) | (with_reducible refine Bk.drewN ?_ _) | ((with_reducible refine Bk.far ?_ ?_ _); rotate_left; focus (first | (simp; done) | (simp; omega))) | (with_reducible refine Bk.below ?_ (by with_reducible assumption)))); obtain ⟨kcZ2, kfZ2, kaZ2, kgZ2, klZ2⟩ := kZ2.rules))
    refine bodyPost_ret (v := _) ?_ rfl ⟨rfl, (by repeat (first | (with_reducible exact Below.refl _ _) | (with_reducible refine balloc ?_ _) | (with_reducible refine Below.drew ?_) | (with_reducible refine bdrewN ?_ _) | ((with_reducible refine bset ?_ ?_ _); rotate_left; focus (first | (with_reducible exact Nat.le_refl _) | (simp; done) | (simp; omega) | omega)) | (with_reducible refine bstep (by with_reducible assumption) ?_)))⟩
    simp [results, Try.results33, go_sem, *]
  | false =>
    have hv := Lib.hid he
    cases he' : emptyB ⟨a', b', c', d'⟩ with
    | true =>
      have hv' := Lib.hid he'
      have Hu : Hid (unionR ⟨a, b, c, d⟩ ⟨a', b', c', d'⟩ = ⟨a, b, c, d⟩) := by unfold Hid unionR; rw [he, he']; rfl
      clear he he'
      rw [Hu.out]
      go_enter Try.func33, Try.ntmps33
      go_wp2_with fail
      refine (empty_q _ _ _ _ false hv _).mono ?_
      rintro e w1 ⟨rfl, hb1⟩
      have kA1 : Bk w1 (w.heap.size) 23 #[.int .i64 a, .int .i64 b, .int .i64 c, .int .i64 d] := (by repeat (first | (with_reducible assumption) | ((with_reducible refine Bk.new _ _ _ ?_); first | (with_reducible rfl) | (simp; done)) | (with_reducible refine Bk.alloc ?_ _) | (with_reducible refine Bk.drew ?_) | (with_reducible refine Bk.drewN ?_ _) | ((with_reducible refine Bk.far ?_ ?_ _); rotate_left; focus (first | (simp; done) | (simp; omega))) | (with_reducible refine Bk.below ?_ (by with_reducible assumption)))); obtain ⟨kcA1, kfA1, kaA1, kgA1, klA1⟩ := kA1.rules; have kB1 : Bk w1 (w.heap.size + 1) 23 #[.int .i64 a', .int .i64 b', .int .i64 c', .int .i64 d'] := (by repeat (first | (with_reducible assumption) | ((with_reducible refine Bk.new _ _ _ ?_); first | (with_reducible rfl) | (simp; done)) | (with_reducible refine Bk.alloc ?_ _) | (with_reducible refine Bk.drew ?_) | (with_reducible refine Bk.drewN ?_ _) | ((with_reducible refine Bk.far ?_ ?_ _); rotate_left; focus (first | (simp; done) | (simp; omega))) | (with_reducible refine Bk.below ?_ (by with_reducible assumption)))); obtain ⟨kcB1, kfB1, kaB1, kgB1, klB1⟩ := kB1.rules; have kZ1 : Bk w1 (w.heap.size + 1 + 1) 23 #[.int .i64 0, .int .i64 0, .int .i64 0, .int .i64 0] := (by repeat (first | (with_reducible assumption) | ((with_reducible refine Bk.new _ _ _ ?_); first | (with_reducible rfl) | (simp; done)) | (with_reducible refine Bk.alloc ?_ _) | (with_reducible refine Bk.drew ?_) | (with_reducible refine Bk.drewN ?_ _) | ((with_reducible refine Bk.far ?_ ?_ _); rotate_left; focus (first | (simp; done) | (simp; omega))) | (with_reducible refine Bk.below ?_ (by with_reducible assumption)))); obtain ⟨kcZ1, kfZ1, kaZ1, kgZ1, klZ1⟩ := kZ1.rules
      go_wp2_with fail
      refine (empty_q _ _ _ _ true hv' _).mono ?_
      rintro e w2 ⟨rfl, hb2⟩
      have kA2 : Bk w2 (w.heap.size) 23 #[.int .i64 a, .int .i64 b, .int .i64 c, .int .i64 d] := (by repeat (first | (with_reducible assumption) | ((with_reducible refine Bk.new _ _ _ ?_); first | (with_reducible rfl) | (simp; done)) | (with_reducible refine Bk.alloc ?_ _) | (with_reducible refine Bk.drew ?_) | (with_reducible refine Bk.drewN ?_ _) | ((with_reducible refine Bk.far ?_ ?_ _); rotate_left; focus (first | (simp; done) | (simp; omega))) | (with_reducible refine Bk.below ?_ (by with_reducible assumption)))); obtain ⟨kcA2, kfA2, kaA2, kgA2, klA2⟩ := kA2.rules; have kB2 : Bk w2 (w.heap.size + 1) 23 #[.int .i64 a', .int .i64 b', .int .i64 c', .int .i64 d'] := (by repeat (first | (with_reducible assumption) | ((with_reducible refine Bk.new _ _ _ ?_); first | (with_reducible rfl) | (simp; done)) | (with_reducible refine Bk.alloc ?_ _) | (with_reducible refine Bk.drew ?_) | (with_reducible refine Bk.drewN ?_ _) | ((with_reducible refine Bk.far ?_ ?_ _); rotate_left; focus (first | (simp; done) | (simp; omega))) | (with_reducible refine Bk.below ?_ (by with_reducible assumption)))); obtain ⟨kcB2, kfB2, kaB2, kgB2, klB2⟩ := kB2.rules; have kZ2 : Bk w2 (w.heap.size + 1 + 1) 23 #[.int .i64 0, .int .i64 0, .int .i64 0, .int .i64 0] := (by repeat (first | (with_reducible assumption) | ((with_reducible refine Bk.new _ _ _ ?_); first | (with_reducible rfl) | (simp; done)) | (with_reducible refine Bk.alloc ?_ _) | (with_reducible refine Bk.drew ?_) | (with_reducible refine Bk.drewN ?_ _) | ((with_reducible refine Bk.far ?_ ?_ _); rotate_left; focus (first | (simp; done) | (simp; omega))) | (with_reducible refine Bk.below ?_ (by with_reducible assumption)))); obtain ⟨kcZ2, kfZ2, kaZ2, kgZ2, klZ2⟩ := kZ2.rules
      go_wp2
      refine bodyPost_ret (v := _) ?_ rfl ⟨rfl, (by repeat (first | (with_reducible exact Below.refl _ _) | (with_reducible refine balloc ?_ _) | (with_reducible refine Below.drew ?_) | (with_reducible refine bdrewN ?_ _) | ((with_reducible refine bset ?_ ?_ _); rotate_left; focus (first | (with_reducible exact Nat.le_refl _) | (simp; done) | (simp; omega) | omega)) | (with_reducible refine bstep (by with_reducible assumption) ?_)))⟩
      simp [results, Try.results33, go_sem, *]
    | false =>
      have hv' := Lib.hid he'
      have Hu : Hid (unionR ⟨a, b, c, d⟩ ⟨a', b', c', d'⟩ = ⟨min a a', min b b', max c c', max d d'⟩) := by unfold Hid unionR; rw [he, he']; rfl
      clear he he'
      rw [Hu.out]
      go_enter Try.func33, Try.ntmps33
      go_wp2_with fail
      refine (empty_q _ _ _ _ false hv _).mono ?_
      rintro e w1 ⟨rfl, hb1⟩
      have kA1 : Bk w1 (w.heap.size) 23 #[.int .i64 a, .int .i64 b, .int .i64 c, .int .i64 d] := (by repeat (first | (with_reducible assumption) | ((with_reducible refine Bk.new _ _ _ ?_); first | (with_reducible rfl) | (simp; done)) | (with_reducible refine Bk.alloc ?_ _) | (with_reducible refine Bk.drew ?_) | (with_reducible refine Bk.drewN ?_ _) | ((with_reducible refine Bk.far ?_ ?_ _); rotate_left; focus (first | (simp; done) | (simp; omega))) | (with_reducible refine Bk.below ?_ (by with_reducible assumption)))); obtain ⟨kcA1, kfA1, kaA1, kgA1, klA1⟩ := kA1.rules; have kB1 : Bk w1 (w.heap.size + 1) 23 #[.int .i64 a', .int .i64 b', .int .i64 c', .int .i64 d'] := (by repeat (first | (with_reducible assumption) | ((with_reducible refine Bk.new _ _ _ ?_); first | (with_reducible rfl) | (simp; done)) | (with_reducible refine Bk.alloc ?_ _) | (with_reducible refine Bk.drew ?_) | (with_reducible refine Bk.drewN ?_ _) | ((with_reducible refine Bk.far ?_ ?_ _); rotate_left; focus (first | (simp; done) | (simp; omega))) | (with_reducible refine Bk.below ?_ (by with_reducible assumption)))); obtain ⟨kcB1, kfB1, kaB1, kgB1, klB1⟩ := kB1.rules; have kZ1 : Bk w1 (w.heap.size + 1 + 1) 23 #[.int .i64 0, .int .i64 0, .int .i64 0, .int .i64 0] := (by repeat (first | (with_reducible assumption) | ((with_reducible refine Bk.new _ _ _ ?_); first | (with_reducible rfl) | (simp; done)) | (with_reducible refine Bk.alloc ?_ _) | (with_reducible refine Bk.drew ?_) | (with_reducible refine Bk.drewN ?_ _) | ((with_reducible refine Bk.far ?_ ?_ _); rotate_left; focus (first | (simp; done) | (simp; omega))) | (with_reducible refine Bk.below ?_ (by with_reducible assumption)))); obtain ⟨kcZ1, kfZ1, kaZ1, kgZ1, klZ1⟩ := kZ1.rules
      go_wp2_with fail
      refine (empty_q _ _ _ _ false hv' _).mono ?_
      rintro e w2 ⟨rfl, hb2⟩
      have kA2 : Bk w2 (w.heap.size) 23 #[.int .i64 a, .int .i64 b, .int .i64 c, .int .i64 d] := (by repeat (first | (with_reducible assumption) | ((with_reducible refine Bk.new _ _ _ ?_); first | (with_reducible rfl) | (simp; done)) | (with_reducible refine Bk.alloc ?_ _) | (with_reducible refine Bk.drew ?_) | (with_reducible refine Bk.drewN ?_ _) | ((with_reducible refine Bk.far ?_ ?_ _); rotate_left; focus (first | (simp; done) | (simp; omega))) | (with_reducible refine Bk.below ?_ (by with_reducible assumption)))); obtain ⟨kcA2, kfA2, kaA2, kgA2, klA2⟩ := kA2.rules; have kB2 : Bk w2 (w.heap.size + 1) 23 #[.int .i64 a', .int .i64 b', .int .i64 c', .int .i64 d'] := (by repeat (first | (with_reducible assumption) | ((with_reducible refine Bk.new _ _ _ ?_); first | (with_reducible rfl) | (simp; done)) | (with_reducible refine Bk.alloc ?_ _) | (with_reducible refine Bk.drew ?_) | (with_reducible refine Bk.drewN ?_ _) | ((with_reducible refine Bk.far ?_ ?_ _); rotate_left; focus (first | (simp; done) | (simp; omega))) | (with_reducible refine Bk.below ?_ (by with_reducible assumption)))); obtain ⟨kcB2, kfB2, kaB2, kgB2, klB2⟩ := kB2.rules; have kZ2 : Bk w2 (w.heap.size + 1 + 1) 23 #[.int .i64 0, .int .i64 0, .int .i64 0, .int .i64 0] := (by repeat (first | (with_reducible assumption) | ((with_reducible refine Bk.new _ _ _ ?_); first | (with_reducible rfl) | (simp; done)) | (with_reducible refine Bk.alloc ?_ _) | (with_reducible refine Bk.drew ?_) | (with_reducible refine Bk.drewN ?_ _) | ((with_reducible refine Bk.far ?_ ?_ _); rotate_left; focus (first | (simp; done) | (simp; omega))) | (with_reducible refine Bk.below ?_ (by with_reducible assumption)))); obtain ⟨kcZ2, kfZ2, kaZ2, kgZ2, klZ2⟩ := kZ2.rules
      go_wp2
      refine bodyPost_ret (v := _) ?_ rfl ⟨rfl, (by repeat (first | (with_reducible exact Below.refl _ _) | (with_reducible refine balloc ?_ _) | (with_reducible refine Below.drew ?_) | (with_reducible refine bdrewN ?_ _) | ((with_reducible refine bset ?_ ?_ _); rotate_left; focus (first | (with_reducible exact Nat.le_refl _) | (simp; done) | (simp; omega) | omega)) | (with_reducible refine bstep (by with_reducible assumption) ?_)))⟩
      simp [results, Try.results33, go_sem, *]

theorem union_q (a b c d a' b' c' d' : Int) (r : Rc) (hr : Hid (unionR ⟨a, b, c, d⟩ ⟨a', b', c', d'⟩ = r)) (w : World) :
    Calls Try.prog 33 #[.agg #[.int .i64 a, .int .i64 b, .int .i64 c, .int .i64 d], .agg #[.int .i64 a', .int .i64 b', .int .i64 c', .int .i64 d']] w fun e w' =>
      e = .returned (.agg #[.int .i64 r.x0, .int .i64 r.y0, .int .i64 r.x1, .int .i64 r.y1]) ∧ Below w.heap.size w w' := by
  have h := hr.out; subst h; exact union_any a b c d a' b' c' d' w

set_option maxHeartbeats 400000 in
theorem outset_any (a b c d n : Int) (w : World) :
    Calls Try.prog 35 #[.agg #[.int .i64 a, .int .i64 b, .int .i64 c, .int .i64 d], .int .i64 n] w fun e w' =>
      e = .returned (.agg #[.int .i64 (outsetR ⟨a, b, c, d⟩ n).x0, .int .i64 (outsetR ⟨a, b, c, d⟩ n).y0, .int .i64 (outsetR ⟨a, b, c, d⟩ n).x1, .int .i64 (outsetR ⟨a, b, c, d⟩ n).y1]) ∧ Below w.heap.size w w' := by
  have hmx := max_if
  have hmn := min_if
  cases he : emptyB ⟨a, b, c, d⟩ with
  | true =>
    have hv := Lib.hid he
    have Hu : Hid (outsetR ⟨a, b, c, d⟩ n = ⟨0, 0, 0, 0⟩) := by unfold Hid outsetR; rw [he]; rfl
    clear he
    rw [Hu.out]
    go_enter Try.func35, Try.ntmps35
    go_wp2_with fail
    refine (empty_q _ _ _ _ true hv _).mono ?_
    rintro e w1 ⟨rfl, hb1⟩
    have kA1 : Bk w1 (w.heap.size) 23 #[.int .i64 a, .int .i64 b, .int .i64 c, .int .i64 d] := (by repeat (first | (with_reducible assumption) | ((with_reducible refine Bk.new _ _ _ ?_); first | (with_reducible rfl) | (simp; done)) | (with_reducible refine Bk.alloc ?_ _) | (with_reducible refine Bk.drew ?_) | (with_reducible refine Bk.drewN ?_ _) | ((with_reducible refine Bk.far ?_ ?_ _); rotate_left; focus (first | (simp; done) | (simp; omega))) | (with_reducible refine Bk.below ?_ (by with_reducible assumption)))); obtain ⟨kcA1, kfA1, kaA1, kgA1, klA1⟩ := kA1.rules; have kY1 : Bk w1 (w.heap.size + 1) 23 #[.int .i64 0, .int .i64 0, .int .i64 0, .int .i64 0] := (by repeat (first | (with_reducible assumption) | ((with_reducible refine Bk.new _ _ _ ?_); first | (with_reducible rfl) | (simp; done)) | (with_reducible refine Bk.alloc ?_ _) | (with_reducible refine Bk.drew ?_) | (with_reducible refine Bk.drewN ?_ _) | ((with_reducible refine Bk.far ?_ ?_ _); rotate_left; focus (first | (simp; done) | (simp; omega))) | (with_reducible refine Bk.below ?_ (by with_reducible assumption)))); obtain ⟨kcY1, kfY1, kaY1, kgY1, klY1⟩ := kY1.rules
    go_wp2
    refine bodyPost_ret (v := _) ?_ rfl ⟨rfl, (by repeat (first | (with_reducible exact Below.refl _ _) | (with_reducible refine balloc ?_ _) | (with_reducible refine Below.drew ?_) | (with_reducible refine bdrewN ?_ _) | ((with_reducible refine bset ?_ ?_ _); rotate_left; focus (first | (with_reducible exact Nat.le_refl _) | (simp; done) | (simp; omega) | omega)) | (with_reducible refine bstep (by with_reducible assumption) ?_)))⟩
    simp [results, Try.results35, go_sem, *]
  | false =>
    have hv := Lib.hid he
    obtain ⟨k1, k2, k3, k4, k5, k6⟩ := emptyB_false he
    simp only at k1 k2 k3 k4 k5 k6
    obtain ⟨q, Hq⟩ : ∃ q, Hid (canonR ⟨max (a - min (max n (-16384)) 16384) (-4096), max (b - min (max n (-16384)) 16384) (-4096), min (c + min (max n (-16384)) 16384) 4096, min (d + min (max n (-16384)) 16384) 4096⟩ = q) := ⟨_, rfl⟩
    have Hu : Hid (outsetR ⟨a, b, c, d⟩ n = q) := by unfold Hid outsetR farN; rw [he]; exact Hq.out
    clear he
    rw [Hu.out]
    go_enter Try.func35, Try.ntmps35
    go_wp2_with fail
    refine (empty_q _ _ _ _ false hv _).mono ?_
    rintro e w1 ⟨rfl, hb1⟩
    have kA1 : Bk w1 (w.heap.size) 23 #[.int .i64 a, .int .i64 b, .int .i64 c, .int .i64 d] := (by repeat (first | (with_reducible assumption) | ((with_reducible refine Bk.new _ _ _ ?_); first | (with_reducible rfl) | (simp; done)) | (with_reducible refine Bk.alloc ?_ _) | (with_reducible refine Bk.drew ?_) | (with_reducible refine Bk.drewN ?_ _) | ((with_reducible refine Bk.far ?_ ?_ _); rotate_left; focus (first | (simp; done) | (simp; omega))) | (with_reducible refine Bk.below ?_ (by with_reducible assumption)))); obtain ⟨kcA1, kfA1, kaA1, kgA1, klA1⟩ := kA1.rules; have kY1 : Bk w1 (w.heap.size + 1) 23 #[.int .i64 0, .int .i64 0, .int .i64 0, .int .i64 0] := (by repeat (first | (with_reducible assumption) | ((with_reducible refine Bk.new _ _ _ ?_); first | (with_reducible rfl) | (simp; done)) | (with_reducible refine Bk.alloc ?_ _) | (with_reducible refine Bk.drew ?_) | (with_reducible refine Bk.drewN ?_ _) | ((with_reducible refine Bk.far ?_ ?_ _); rotate_left; focus (first | (simp; done) | (simp; omega))) | (with_reducible refine Bk.below ?_ (by with_reducible assumption)))); obtain ⟨kcY1, kfY1, kaY1, kgY1, klY1⟩ := kY1.rules
    go_wp2_with fail
    refine (canon_q _ _ _ _ q Hq _).mono ?_
    rintro e w2 ⟨rfl, hb2⟩
    have kA2 : Bk w2 (w.heap.size) 23 #[.int .i64 a, .int .i64 b, .int .i64 c, .int .i64 d] := (by repeat (first | (with_reducible assumption) | ((with_reducible refine Bk.new _ _ _ ?_); first | (with_reducible rfl) | (simp; done)) | (with_reducible refine Bk.alloc ?_ _) | (with_reducible refine Bk.drew ?_) | (with_reducible refine Bk.drewN ?_ _) | ((with_reducible refine Bk.far ?_ ?_ _); rotate_left; focus (first | (simp; done) | (simp; omega))) | (with_reducible refine Bk.below ?_ (by with_reducible assumption)))); obtain ⟨kcA2, kfA2, kaA2, kgA2, klA2⟩ := kA2.rules; have kY2 : Bk w2 (w.heap.size + 1) 23 #[.int .i64 0, .int .i64 0, .int .i64 0, .int .i64 0] := (by repeat (first | (with_reducible assumption) | ((with_reducible refine Bk.new _ _ _ ?_); first | (with_reducible rfl) | (simp; done)) | (with_reducible refine Bk.alloc ?_ _) | (with_reducible refine Bk.drew ?_) | (with_reducible refine Bk.drewN ?_ _) | ((with_reducible refine Bk.far ?_ ?_ _); rotate_left; focus (first | (simp; done) | (simp; omega))) | (with_reducible refine Bk.below ?_ (by with_reducible assumption)))); obtain ⟨kcY2, kfY2, kaY2, kgY2, klY2⟩ := kY2.rules
    go_wp2
    refine bodyPost_ret (v := _) ?_ rfl ⟨rfl, (by repeat (first | (with_reducible exact Below.refl _ _) | (with_reducible refine balloc ?_ _) | (with_reducible refine Below.drew ?_) | (with_reducible refine bdrewN ?_ _) | ((with_reducible refine bset ?_ ?_ _); rotate_left; focus (first | (with_reducible exact Nat.le_refl _) | (simp; done) | (simp; omega) | omega)) | (with_reducible refine bstep (by with_reducible assumption) ?_)))⟩
    simp [results, Try.results35, go_sem, *]

theorem outset_q (a b c d n : Int) (r : Rc) (hr : Hid (outsetR ⟨a, b, c, d⟩ n = r)) (w : World) :
    Calls Try.prog 35 #[.agg #[.int .i64 a, .int .i64 b, .int .i64 c, .int .i64 d], .int .i64 n] w fun e w' =>
      e = .returned (.agg #[.int .i64 r.x0, .int .i64 r.y0, .int .i64 r.x1, .int .i64 r.y1]) ∧ Below w.heap.size w w' := by
  have h := hr.out; subst h; exact outset_any a b c d n w
end Go.Proofs.Ytiaeaegocfmjhaa
