/-
  Texts put together: Rect, Rect2, Rect3, Ref09, Ref09b.
-/
import Derived.Test.YtnefnnhnjmmebaaRows
import Derived.Test.YtnefnnhnjmmebaaGo
import Derived.Test.YtnefnnhnjmmebaaBase
import Derived.Test.YtnefnnhnjmmebaaPlA
namespace Go.Proofs.Ytnefnnhnjmmebaa
open Go.RowKit
set_option linter.unusedSimpArgs false
set_option linter.unusedVariables false


set_option maxHeartbeats 400000 in
theorem may_any (n : Int) (w : World) :
    Calls Try.prog 95 #[.int .i64 n] w fun e w' => e = .returned (.bool (mayB n)) ∧ w = w' := by
  go_enter Try.func95, Try.ntmps95
  go_wp2
  all_goals
    go_ret
    exact ⟨ret_bool (by simp [mayB]; try omega), rfl⟩

set_option maxHeartbeats 400000 in
theorem valid_any (a b c d : Int) (w : World) :
    Calls Try.prog 47 #[.agg #[.int .i64 a, .int .i64 b, .int .i64 c, .int .i64 d]] w fun e w' => e = .returned (.bool (validB ⟨a, b, c, d⟩)) ∧ Below w.heap.size w w' := by
  go_enter Try.func47, Try.ntmps47
  go_wp2_with (go_at_call 95; refine (may_any _ _).mono ?_; rintro e w' ⟨rfl, rfl⟩)
  all_goals
    go_ret
    exact ⟨ret_bool (by simp [validB, *]), (by repeat (first | (with_reducible exact Below.refl _ _) | (with_reducible refine balloc ?_ _) | (with_reducible refine Below.drew ?_) | (with_reducible refine bdrewN ?_ _) | ((with_reducible refine bset ?_ ?_ _); rotate_left; focus (first | (with_reducible exact Nat.le_refl _) | (simp; done) | (simp; omega) | omega)) | (with_reducible refine bstep (by with_reducible assumption) ?_)))⟩

set_option maxHeartbeats 400000 in
theorem empty_any (a b c d : Int) (w : World) :
    Calls Try.prog 99 #[.agg #[.int .i64 a, .int .i64 b, .int .i64 c, .int .i64 d]] w fun e w' => e = .returned (.bool (emptyB ⟨a, b, c, d⟩)) ∧ Below w.heap.size w w' := by
  go_enter Try.func99, Try.ntmps99
  go_wp2_with (go_at_call 47; refine (valid_any _ _ _ _ _).mono ?_; rintro e w1 ⟨rfl, hb1⟩; have kA1 : Bk w1 (w.heap.size) 23 #[.int .i64 a, .int .i64 b, .int .i64 c, .int .i64 d] := (by repeat (first | (with_reducible assumption) | ((with_reducible refine Bk.new _ _ _ ?_); first | (with_reducible rfl) | (simp; done)) | (with_reducible refine Bk.alloc ?_ _) | (with_reducible refine Bk.drew ?_) | (with_reducible refine Bk.drewN ?_ _) | ((with_reducible refine Bk.far ?_ ?_ _); rotate_left; focus (first | (simp; done) | (simp; omega))) | (with_reducible refine Bk.below ?_ (by with_reducible assumption)))); obtain ⟨kcA1, kfA1, kaA1, kgA1, klA1⟩ := kA1.rules)
  all_goals
    go_ret
    exact ⟨ret_bool (by simp [emptyB, *]), (by repeat (first | (with_reducible exact Below.refl _ _) | (with_reducible refine balloc ?_ _) | (with_reducible refine Below.drew ?_) | (with_reducible refine bdrewN ?_ _) | ((with_reducible refine bset ?_ ?_ _); rotate_left; focus (first | (with_reducible exact Nat.le_refl _) | (simp; done) | (simp; omega) | omega)) | (with_reducible refine bstep (by with_reducible assumption) ?_)))⟩

set_option maxHeartbeats 400000 in
theorem canon_any (a b c d : Int) (w : World) :
    Calls Try.prog 55 #[.agg #[.int .i64 a, .int .i64 b, .int .i64 c, .int .i64 d]] w fun e w' =>
      e = .returned (.agg #[.int .i64 (canonR ⟨a, b, c, d⟩).x0, .int .i64 (canonR ⟨a, b, c, d⟩).y0, .int .i64 (canonR ⟨a, b, c, d⟩).x1, .int .i64 (canonR ⟨a, b, c, d⟩).y1]) ∧ Below w.heap.size w w' := by
  go_enter Try.func55, Try.ntmps55
  go_wp2_with (go_at_call 99; refine (empty_any _ _ _ _ _).mono ?_; rintro e w1 ⟨rfl, hb1⟩; have kA1 : Bk w1 (w.heap.size) 23 #[.int .i64 a, .int .i64 b, .int .i64 c, .int .i64 d] := (by repeat (first | (with_reducible assumption) | ((with_reducible refine Bk.new _ _ _ ?_); first | (with_reducible rfl) | (simp; done)) | (with_reducible refine Bk.alloc ?_ _) | (with_reducible refine Bk.drew ?_) | (with_reducible refine Bk.drewN ?_ _) | ((with_reducible refine Bk.far ?_ ?_ _); rotate_left; focus (first | (simp; done) | (simp; omega))) | (with_reducible refine Bk.below ?_ (by with_reducible assumption)))); obtain ⟨kcA1, kfA1, kaA1, kgA1, klA1⟩ := kA1.rules; have kZ1 : Bk w1 (w.heap.size + 1) 23 #[.int .i64 0, .int .i64 0, .int .i64 0, .int .i64 0] := (by repeat (first | (with_reducible assumption) | ((with_reducible refine Bk.new _ _ _ ?_); first | (with_reducible rfl) | (simp; done)) | (with_reducible refine Bk.alloc ?_ _) | (with_reducible refine Bk.drew ?_) | (with_reducible refine Bk.drewN ?_ _) | ((with_reducible refine Bk.far ?_ ?_ _); rotate_left; focus (first | (simp; done) | (simp; omega))) | (with_reducible refine Bk.below ?_ (by with_reducible assumption)))); obtain ⟨kcZ1, kfZ1, kaZ1, kgZ1, klZ1⟩ := kZ1.rules)
  all_goals
    refine bodyPost_ret (v := _) ?_ rfl ⟨rfl, (by repeat (first | (with_reducible exact Below.refl _ _) | (with_reducible refine balloc ?_ _) | (with_reducible refine Below.drew ?_) | (with_reducible refine bdrewN ?_ _) | ((with_reducible refine bset ?_ ?_ _); rotate_left; focus (first | (with_reducible exact Nat.le_refl _) | (simp; done) | (simp; omega) | omega)) | (with_reducible refine bstep (by with_reducible assumption) ?_)))⟩
    simp [results, Try.results55, go_sem, canonR, *]

theorem canon_q (a b c d : Int) (q : Rc) (hq : Hid (canonR ⟨a, b, c, d⟩ = q)) (w : World) :
    Calls Try.prog 55 #[.agg #[.int .i64 a, .int .i64 b, .int .i64 c, .int .i64 d]] w fun e w' => e = .returned (.agg #[.int .i64 q.x0, .int .i64 q.y0, .int .i64 q.x1, .int .i64 q.y1]) ∧ Below w.heap.size w w' := by
  have h := hq.out; subst h; exact canon_any a b c d w

set_option maxHeartbeats 400000 in
theorem area_any (a b c d : Int) (w : World) :
    Calls Try.prog 48 #[.agg #[.int .i64 a, .int .i64 b, .int .i64 c, .int .i64 d]] w fun e w' => e = .returned (.int .i64 (areaR ⟨a, b, c, d⟩)) ∧ Below w.heap.size w w' := by
  obtain ⟨q, Hq⟩ : ∃ q, Hid (canonR ⟨a, b, c, d⟩ = q) := ⟨_, rfl⟩
  have hbd := canon_bd ⟨a, b, c, d⟩
  rw [Hq.out] at hbd
  have hm := mul_bd (a := q.x1 - q.x0) (b := q.y1 - q.y0) (by omega) (by omega) (by omega) (by omega)
  go_enter Try.func48, Try.ntmps48
  go_wp2_with (go_at_call 55; refine (canon_q _ _ _ _ q Hq _).mono ?_; rintro e w1 ⟨rfl, hb1⟩; have kA1 : Bk w1 (w.heap.size) 23 #[.int .i64 a, .int .i64 b, .int .i64 c, .int .i64 d] := (by repeat (first | (with_reducible assumption) | ((with_reducible refine Bk.new _ _ _ ?_); first | (with_reducible rfl) | (simp; done)) | (with_reducible refine Bk.alloc ?_ _) | (with_reducible refine Bk.drew ?_) | (with_reducible refine Bk.drewN ?_ _) | ((with_reducible refine Bk.far ?_ ?_ _); rotate_left; focus (first | (simp; done) | (simp; omega))) | (with_reducible refine Bk.below ?_ (by with_reducible assumption)))); obtain ⟨kcA1, kfA1, kaA1, kgA1, klA1⟩ := kA1.rules)
  go_ret
  exact ⟨ret_int (by unfold areaR; rw [Hq.out]), (by repeat (first | (with_reducible exact Below.refl _ _) | (with_reducible refine balloc ?_ _) | (with_reducible refine Below.drew ?_) | (with_reducible refine bdrewN ?_ _) | ((with_reducible refine bset ?_ ?_ _); rotate_left; focus (first | (with_reducible exact Nat.le_refl _) | (simp; done) | (simp; omega) | omega)) | (with_reducible refine bstep (by with_reducible assumption) ?_)))⟩

set_option maxHeartbeats 400000 in
theorem contains_any (a b c d x y : Int) (w : World) :
    Calls Try.prog 112 #[.agg #[.int .i64 a, .int .i64 b, .int .i64 c, .int .i64 d], .int .i64 x, .int .i64 y] w fun e w' => e = .returned (.bool (containsB ⟨a, b, c, d⟩ x y)) ∧ Below w.heap.size w w' := by
  go_enter Try.func112, Try.ntmps112
  go_wp2_with (go_at_call 99; refine (empty_any _ _ _ _ _).mono ?_; rintro e w1 ⟨rfl, hb1⟩; have kA1 : Bk w1 (w.heap.size) 23 #[.int .i64 a, .int .i64 b, .int .i64 c, .int .i64 d] := (by repeat (first | (with_reducible assumption) | ((with_reducible refine Bk.new _ _ _ ?_); first | (with_reducible rfl) | (simp; done)) | (with_reducible refine Bk.alloc ?_ _) | (with_reducible refine Bk.drew ?_) | (with_reducible refine Bk.drewN ?_ _) | ((with_reducible refine Bk.far ?_ ?_ _); rotate_left; focus (first | (simp; done) | (simp; omega))) | (with_reducible refine Bk.below ?_ (by with_reducible assumption)))); obtain ⟨kcA1, kfA1, kaA1, kgA1, klA1⟩ := kA1.rules)
  all_goals
    go_ret
    exact ⟨ret_bool (by simp [containsB, *]; try omega), (by repeat (first | (with_reducible exact Below.refl _ _) | (with_reducible refine balloc ?_ _) | (with_reducible refine Below.drew ?_) | (with_reducible refine bdrewN ?_ _) | ((with_reducible refine bset ?_ ?_ _); rotate_left; focus (first | (with_reducible exact Nat.le_refl _) | (simp; done) | (simp; omega) | omega)) | (with_reducible refine bstep (by with_reducible assumption) ?_)))⟩
end Go.Proofs.Ytnefnnhnjmmebaa

namespace Go.Proofs.Ytnefnnhnjmmebaa
open Go.RowKit
set_option linter.unusedSimpArgs false
set_option linter.unusedVariables false


theorem contains_q (a b c d x y : Int) (v : Bool) (hv : Hid (containsB ⟨a, b, c, d⟩ x y = v)) (w : World) :
    Calls Try.prog 112 #[.agg #[.int .i64 a, .int .i64 b, .int .i64 c, .int .i64 d], .int .i64 x, .int .i64 y] w fun e w' => e = .returned (.bool v) ∧ Below w.heap.size w w' := by
  have h := hv.out; subst h; exact contains_any a b c d x y w

set_option maxHeartbeats 400000 in
theorem pix_any (a b c d x y : Int) (w : World) :
    Calls Try.prog 76 #[.agg #[.int .i64 a, .int .i64 b, .int .i64 c, .int .i64 d], .int .i64 x, .int .i64 y] w fun e w' => e = .returned (.int .i64 (pixR ⟨a, b, c, d⟩ x y)) ∧ Below w.heap.size w w' := by
  cases hcb : containsB ⟨a, b, c, d⟩ x y with
  | true =>
    have hv := Lib.hid hcb
    obtain ⟨he, g1, g2, g3, g4⟩ := contains_true hcb
    obtain ⟨k1, k2, k3, k4, k5, k6⟩ := emptyB_false he
    simp only at g1 g2 g3 g4 k1 k2 k3 k4 k5 k6
    clear hcb he
    have hm := mul_bd (a := y - b) (b := c - a) (by omega) (by omega) (by omega) (by omega)
    go_enter Try.func76, Try.ntmps76
    go_wp2_with (go_at_call 112; refine (contains_q _ _ _ _ _ _ true hv _).mono ?_; rintro e w1 ⟨rfl, hb1⟩; have kA1 : Bk w1 (w.heap.size) 23 #[.int .i64 a, .int .i64 b, .int .i64 c, .int .i64 d] := (by repeat (first | (with_reducible assumption) | ((with_reducible refine Bk.new _ _ _ ?_); first | (with_reducible rfl) | (simp; done)) | (with_reducible refine Bk.alloc ?_ _) | (with_reducible refine Bk.drew ?_) | (with_reducible refine Bk.drewN ?_ _) | ((with_reducible refine Bk.far ?_ ?_ _); rotate_left; focus (first | (simp; done) | (simp; omega))) | (with_reducible refine Bk.below ?_ (by with_reducible assumption)))); obtain ⟨kcA1, kfA1, kaA1, kgA1, klA1⟩ := kA1.rules)
    go_ret
    exact ⟨ret_int (by unfold pixR; rw [if_pos hv.out]), (by repeat (first | (with_reducible exact Below.refl _ _) | (with_reducible refine balloc ?_ _) | (with_reducible refine Below.drew ?_) | (with_reducible refine bdrewN ?_ _) | ((with_reducible refine bset ?_ ?_ _); rotate_left; focus (first | (with_reducible exact Nat.le_refl _) | (simp; done) | (simp; omega) | omega)) | (with_reducible refine bstep (by with_reducible assumption) ?_)))⟩
  | false =>
    have hv := Lib.hid hcb
    clear hcb
    go_enter Try.func76, Try.ntmps76
    go_wp2_with (go_at_call 112; refine (contains_q _ _ _ _ _ _ false hv _).mono ?_; rintro e w1 ⟨rfl, hb1⟩; have kA1 : Bk w1 (w.heap.size) 23 #[.int .i64 a, .int .i64 b, .int .i64 c, .int .i64 d] := (by repeat (first | (with_reducible assumption) | ((with_reducible refine Bk.new _ _ _ ?_); first | (with_reducible rfl) | (simp; done)) | (with_reducible refine Bk.alloc ?_ _) | (with_reducible refine Bk.drew ?_) | (with_reducible refine Bk.drewN ?_ _) | ((with_reducible refine Bk.far ?_ ?_ _); rotate_left; focus (first | (simp; done) | (simp; omega))) | (with_reducible refine Bk.below ?_ (by with_reducible assumption)))); obtain ⟨kcA1, kfA1, kaA1, kgA1, klA1⟩ := kA1.rules)
    go_ret
    exact ⟨ret_int (by unfold pixR; rw [hv.out]; rfl), (by repeat (first | (with_reducible exact Below.refl _ _) | (with_reducible refine balloc ?_ _) | (with_reducible refine Below.drew ?_) | (with_reducible refine bdrewN ?_ _) | ((with_reducible refine bset ?_ ?_ _); rotate_left; focus (first | (with_reducible exact Nat.le_refl _) | (simp; done) | (simp; omega) | omega)) | (with_reducible refine bstep (by with_reducible assumption) ?_)))⟩

set_option maxHeartbeats 400000 in
theorem inter_any (a b c d a' b' c' d' : Int) (w : World) :
    Calls Try.prog 75 #[.agg #[.int .i64 a, .int .i64 b, .int .i64 c, .int .i64 d], .agg #[.int .i64 a', .int .i64 b', .int .i64 c', .int .i64 d']] w fun e w' =>
      e = .returned (.agg #[.int .i64 (interR ⟨a, b, c, d⟩ ⟨a', b', c', d'⟩).x0, .int .i64 (interR ⟨a, b, c, d⟩ ⟨a', b', c', d'⟩).y0, .int .i64 (interR ⟨a, b, c, d⟩ ⟨a', b', c', d'⟩).x1, .int .i64 (interR ⟨a, b, c, d⟩ ⟨a', b', c', d'⟩).y1]) ∧ Below w.heap.size w w' := by
  obtain ⟨p, Hp⟩ : ∃ p, Hid (canonR ⟨a, b, c, d⟩ = p) := ⟨_, rfl⟩
  obtain ⟨q, Hq⟩ : ∃ p, Hid (canonR ⟨a', b', c', d'⟩ = p) := ⟨_, rfl⟩
  obtain ⟨r, Hr⟩ : ∃ r, Hid (canonR ⟨max p.x0 q.x0, max p.y0 q.y0, min p.x1 q.x1, min p.y1 q.y1⟩ = r) := ⟨_, rfl⟩
  have Hi : Hid (interR ⟨a, b, c, d⟩ ⟨a', b', c', d'⟩ = r) := by
    unfold Hid interR; rw [Hp.out, Hq.out]; exact Hr.out
  generalize interR ⟨a, b, c, d⟩ ⟨a', b', c', d'⟩ = i at Hi ⊢
  have h := Hi.out; subst h; clear Hi
  have hmx := max_if
  have hmn := min_if
  go_enter Try.func75, Try.ntmps75
  go_wp2_with fail
  refine wp_region_gob 4 [(0, true), (2, true), (1, false), (3, false)] (by kernel_rfl) (by kernel_rfl) (fun c a d v w h => by cases d <;> exact h) ?_
  repeat (refine wpGo_pure (v := ?_) rfl rfl (fun w' hS => ?_) ?_; rotate_left; (· have kAp : Bk w' (w.heap.size) 23 #[.int .i64 a, .int .i64 b, .int .i64 c, .int .i64 d] := (by repeat (first | (with_reducible assumption) | ((with_reducible refine Bk.new _ _ _ ?_); first | (with_reducible rfl) | (simp; done)) | (with_reducible refine Bk.alloc ?_ _) | (with_reducible refine Bk.drew ?_) | (with_reducible refine Bk.drewN ?_ _) | ((with_reducible refine Bk.far ?_ ?_ _); rotate_left; focus (first | (simp; done) | (simp; omega))) | (with_reducible refine Bk.below ?_ (by with_reducible assumption)))); obtain ⟨kcAp, kfAp, kaAp, kgAp, klAp⟩ := kAp.rules; have kBp : Bk w' (w.heap.size + 1) 23 #[.int .i64 a', .int .i64 b', .int .i64 c', .int .i64 d'] := (by repeat (first | (with_reducible assumption) | ((with_reducible refine Bk.new _ _ _ ?_); first | (with_reducible rfl) | (simp; done)) | (with_reducible refine Bk.alloc ?_ _) | (with_reducible refine Bk.drew ?_) | (with_reducible refine Bk.drewN ?_ _) | ((with_reducible refine Bk.far ?_ ?_ _); rotate_left; focus (first | (simp; done) | (simp; omega))) | (with_reducible refine Bk.below ?_ (by with_reducible assumption)))); obtain ⟨kcBp, kfBp, kaBp, kgBp, klBp⟩ := kBp.rules; go_simp; exact rfl); (try simp only [Act.put, List.setIfInBounds_toArray, List.set_cons_zero, List.set_cons_succ]))
  refine wpGo_eff rfl (fun K hK => ?_)
  go_simp
  refine (canon_q _ _ _ _ p Hp _).mono ?_
  rintro e w1 ⟨rfl, hb1⟩
  refine hK.out _ _ (by repeat (first | (with_reducible exact Below.refl _ _) | (with_reducible refine balloc ?_ _) | (with_reducible refine Below.drew ?_) | (with_reducible refine bdrewN ?_ _) | ((with_reducible refine bset ?_ ?_ _); rotate_left; focus (first | (with_reducible exact Nat.le_refl _) | (simp; done) | (simp; omega) | omega)) | (with_reducible refine bstep (by with_reducible assumption) ?_))) (fun hS1 => ?_)
  clear hK K
  refine wpGo_eff rfl (fun K hK => ?_)
  go_simp
  refine (canon_q _ _ _ _ q Hq _).mono ?_
  rintro e w2 ⟨rfl, hb2⟩
  refine hK.out _ _ (by repeat (first | (with_reducible exact Below.refl _ _) | (with_reducible refine balloc ?_ _) | (with_reducible refine Below.drew ?_) | (with_reducible refine bdrewN ?_ _) | ((with_reducible refine bset ?_ ?_ _); rotate_left; focus (first | (with_reducible exact Nat.le_refl _) | (simp; done) | (simp; omega) | omega)) | (with_reducible refine bstep (by with_reducible assumption) ?_))) (fun hS2 => ?_)
  clear hK K
  refine wpGo_nil ?_
  simp only [List.drop_succ_cons, List.drop_zero]
  have kA2 : Bk w2 (w.heap.size) 23 #[.int .i64 a, .int .i64 b, .int .i64 c, .int .i64 d] := (by repeat (first | (with_reducible assumption) | ((with_reducible refine Bk.new _ _ _ ?_); first | (with_reducible rfl) | (simp; done)) | (with_reducible refine Bk.alloc ?_ _) | (with_reducible refine Bk.drew ?_) | (with_reducible refine Bk.drewN ?_ _) | ((with_reducible refine Bk.far ?_ ?_ _); rotate_left; focus (first | (simp; done) | (simp; omega))) | (with_reducible refine Bk.below ?_ (by with_reducible assumption)))); obtain ⟨kcA2, kfA2, kaA2, kgA2, klA2⟩ := kA2.rules; have kB2 : Bk w2 (w.heap.size + 1) 23 #[.int .i64 a', .int .i64 b', .int .i64 c', .int .i64 d'] := (by repeat (first | (with_reducible assumption) | ((with_reducible refine Bk.new _ _ _ ?_); first | (with_reducible rfl) | (simp; done)) | (with_reducible refine Bk.alloc ?_ _) | (with_reducible refine Bk.drew ?_) | (with_reducible refine Bk.drewN ?_ _) | ((with_reducible refine Bk.far ?_ ?_ _); rotate_left; focus (first | (simp; done) | (simp; omega))) | (with_reducible refine Bk.below ?_ (by with_reducible assumption)))); obtain ⟨kcB2, kfB2, kaB2, kgB2, klB2⟩ := kB2.rules; have kZ2 : Bk w2 (w.heap.size + 1 + 1) 23 #[.int .i64 0, .int .i64 0, .int .i64 0, .int .i64 0] := (by repeat (first | (with_reducible assumption) | ((with_reducible refine Bk.new _ _ _ ?_); first | (with_reducible rfl) | (simp; done)) | (with_reducible refine Bk.alloc ?_ _) | (with_reducible refine Bk.drew ?_) | (with_reducible refine Bk.drewN ?_ _) | ((with_reducible refine Bk.far ?_ ?_ _); rotate_left; focus (first | (simp; done) | (simp; omega))) | (with_reducible refine Bk.below ?_ (by with_reducible assumption)))); obtain ⟨kcZ2, kfZ2, kaZ2, kgZ2, klZ2⟩ := kZ2.rules
  go_wp2_with (go_at_call 55; refine (canon_q _ _ _ _ i Hr _).mono ?_; rintro e w3 ⟨rfl, hb3⟩; have kZ3 : Bk w3 (w.heap.size + 1 + 1) 23 #[.int .i64 0, .int .i64 0, .int .i64 0, .int .i64 0] := (by repeat (first | (with_reducible assumption) | ((with_reducible refine Bk.new _ _ _ ?_); first | (with_reducible rfl) | (simp; done)) | (with_reducible refine Bk.alloc ?_ _) | (with_reducible refine Bk.drew ?_) | (with_reducible refine Bk.drewN ?_ _) | ((with_reducible refine Bk.far ?_ ?_ _); rotate_left; focus (first | (simp; done) | (simp; omega))) | (with_reducible refine Bk.below ?_ (by with_reducible assumption)))); obtain ⟨kcZ3, kfZ3, kaZ3, kgZ3, klZ3⟩ := kZ3.rules)
  refine bodyPost_ret (v := _) ?_ rfl ⟨rfl, (by repeat (first | (with_reducible exact Below.refl _ _) | (with_reducible refine balloc ?_ _) | (with_reducible refine Below.drew ?_) | (with_reducible refine bdrewN ?_ _) | ((with_reducible refine bset ?_ ?_ _); rotate_left; focus (first | (with_reducible exact Nat.le_refl _) | (simp; done) | (simp; omega) | omega)) | (with_reducible refine bstep (by with_reducible assumption) ?_)))⟩
  simp [results, Try.results75, go_sem, *]

theorem inter_q (a b c d a' b' c' d' : Int) (r : Rc) (hr : Hid (interR ⟨a, b, c, d⟩ ⟨a', b', c', d'⟩ = r)) (w : World) :
    Calls Try.prog 75 #[.agg #[.int .i64 a, .int .i64 b, .int .i64 c, .int .i64 d], .agg #[.int .i64 a', .int .i64 b', .int .i64 c', .int .i64 d']] w fun e w' =>
      e = .returned (.agg #[.int .i64 r.x0, .int .i64 r.y0, .int .i64 r.x1, .int .i64 r.y1]) ∧ Below w.heap.size w w' := by
  have h := hr.out; subst h; exact inter_any a b c d a' b' c' d' w
end Go.Proofs.Ytnefnnhnjmmebaa

namespace Go.Proofs.Ytnefnnhnjmmebaa
open Go.RowKit
set_option linter.unusedSimpArgs false
set_option linter.unusedVariables false


/-- '==' on two rectangles. -/
theorem eql_rect (p0 p1 p2 p3 q0 q1 q2 q3 : Int) (w : World) : (binOp .eql 23 (.agg #[.int .i64 p0, .int .i64 p1, .int .i64 p2, .int .i64 p3]) (.agg #[.int .i64 q0, .int .i64 q1, .int .i64 q2, .int .i64 q3])).run Try.prog w = .ok (.bool (eqB ⟨p0, p1, p2, p3⟩ ⟨q0, q1, q2, q3⟩)) w := by
  have u3 := Try.underlying3
  have a3 := Try.isAgg3
  have z3 := Try.sizeOf3
  have hS : Try.prog.underlying 23 = some (.struct (Try.prog.fieldsOf 23)) := by kernel_rfl
  have hp : Try.prog.stoodInHeld 23 = false := by kernel_rfl
  rw [run_eql_struct, show (10000 : Nat) = 9999 + 1 from rfl, run_equalIn_agg w 9999 23 _ _ hS hp]
  simp only [Program.fieldsOf, Try.underlying23]
  go_simp
  unfold eqB
  by_cases h0 : p0 = q0 <;> by_cases h1 : p1 = q1 <;> by_cases h2 : p2 = q2 <;> by_cases h3 : p3 = q3 <;> simp [h0, h1, h2, h3]

theorem empty_q (a b c d : Int) (v : Bool) (hv : Hid (emptyB ⟨a, b, c, d⟩ = v)) (w : World) :
    Calls Try.prog 99 #[.agg #[.int .i64 a, .int .i64 b, .int .i64 c, .int .i64 d]] w fun e w' => e = .returned (.bool v) ∧ Below w.heap.size w w' := by
  have h := hv.out; subst h; exact empty_any a b c d w

set_option maxHeartbeats 400000 in
theorem union_any (a b c d a' b' c' d' : Int) (w : World) :
    Calls Try.prog 80 #[.agg #[.int .i64 a, .int .i64 b, .int .i64 c, .int .i64 d], .agg #[.int .i64 a', .int .i64 b', .int .i64 c', .int .i64 d']] w fun e w' =>
      e = .returned (.agg #[.int .i64 (unionR ⟨a, b, c, d⟩ ⟨a', b', c', d'⟩).x0, .int .i64 (unionR ⟨a, b, c, d⟩ ⟨a', b', c', d'⟩).y0, .int .i64 (unionR ⟨a, b, c, d⟩ ⟨a', b', c', d'⟩).x1, .int .i64 (unionR ⟨a, b, c, d⟩ ⟨a', b', c', d'⟩).y1]) ∧ Below w.heap.size w w' := by
  have hmx := max_if
  have hmn := min_if
  cases he : emptyB ⟨a, b, c, d⟩ with
  | true =>
    have hv := Lib.hid he
    obtain ⟨q, Hq⟩ : ∃ p, Hid (canonR ⟨a', b', c', d'⟩ = p) := ⟨_, rfl⟩
    have Hu : Hid (unionR ⟨a, b, c, d⟩ ⟨a', b', c', d'⟩ = q) := by unfold Hid unionR; rw [if_pos he]; exact Hq.out
    clear he
    rw [Hu.out]
    go_enter Try.func80, Try.ntmps80
    go_wp2_with (first | (go_at_call 99; refine (empty_q _ _ _ _ true hv _).mono ?_; rintro e w1 ⟨rfl, hb1⟩; have kA1 : Bk w1 (w.heap.size) 23 #[.int .i64 a, .int .i64 b, .int .i64 c, .int .i64 d] := (by repeat (first | (with_reducible assumption) | ((with_reducible refine Bk.new _ _ _ ?_); first | (with_reducible rfl) | (simp; done)) | (with_reducible refine Bk.alloc ?_ _) | (with_reducible refine Bk.drew ?_) | (with_reducible refine Bk.drewN ?_ _) | ((with_reducible refine Bk.far ?_ ?_ _); rotate_left; focus (first | (simp; done) | (simp; omega))) | (with_reducible refine Bk.below ?_ (by with_reducible assumption)))); obtain ⟨kcA1, kfA1, kaA1, kgA1, klA1⟩ := kA1.rules; have kB1 : Bk w1 (w.heap.size + 1) 23 #[.int .i64 a', .int .i64 b', .int .i64 c', .int .i64 d'] := (by repeat (first | (with_reducible assumption) | ((with_reducible refine Bk.new _ _ _ ?_); first | (with_reducible rfl) | (simp; done)) | (with_reducible refine Bk.alloc ?_ _) | (with_reducible refine Bk.drew ?_) | (with_reducible refine Bk.drewN ?_ _) | ((with_reducible refine Bk.far ?_ ?_ _); rotate_left; focus (first | (simp; done) | (simp; omega))) | (with_reducible refine Bk.below ?_ (by with_reducible assumption)))); obtain ⟨kcB1, kfB1, kaB1, kgB1, klB1⟩ := kB1.rules; have kZ1 : Bk w1 (w.heap.size + 1 + 1) 23 #[.int .i64 0, .int .i64 0, .int .i64 0, .int .i64 0] := (by repeat (first | (with_reducible assumption) | ((with_reducible refine Bk.new _ _ _ ?_); first | (with_reducible rfl) | (simp; done)) | (with_reducible refine Bk.alloc ?_ _) | (with_reducible refine Bk.drew ?_) | (with_reducible refine Bk.drewN ?_ _) | ((with_reducible refine Bk.far ?_ ?_ _); rotate_left; focus (first | (simp; done) | (simp; omega))) | (with_reducible refine Bk.below ?_ (by with_reducible assumption)))); obtain ⟨kcZ1, kfZ1, kaZ1, kgZ1, klZ1⟩ := kZ1.rules) | (go_at_call 55; refine (canon_q _ _ _ _ q Hq _).mono ?_; rintro e w2 ⟨rfl, hb2⟩; have kZ2 : Bk w2 (w.heap.size + 1 + 1) 23 #[.int .i64 0, .int .i64 0, .int .i64 0, .int .i64 0] := (by repeat (first | (with_reducible assumption) | ((with_reducible refine Bk.new _ _ _ ?_); first | (with_reducible rfl) | (simp; done)) | (with_reducible refine Bk.alloc ?_ _) | (with_reducible refine Bk.drew ?_) | (with_reducible refine Bk.drewN ?_ _) | ((with_reducible refine Bk.far ?_ ?_ _); rotate_left; focus (first | (simp; done) | (simp; omega))) | (with_reducible refine Bk.below ?_ (by with_reducible assumption)))); obtain ⟨kcZ2, kfZ2, kaZ2, kgZ2, klZ2⟩ := kZ2.rules))
    refine bodyPost_ret (v := _) ?_ rfl ⟨rfl, (by repeat (first | (with_reducible exact Below.refl _ _) | (with_reducible refine balloc ?_ _) | (with_reducible refine Below.drew ?_) | (with_reducible refine bdrewN ?_ _) | ((with_reducible refine bset ?_ ?_ _); rotate_left; focus (first | (with_reducible exact Nat.le_refl _) | (simp; done) | (simp; omega) | omega)) | (with_reducible refine bstep (by with_reducible assumption) ?_)))⟩
    simp [results, Try.results80, go_sem, *]
  | false =>
    have hv := Lib.hid he
    cases he' : emptyB ⟨a', b', c', d'⟩ with
    | true =>
      have hv' := Lib.hid he'
      have Hu : Hid (unionR ⟨a, b, c, d⟩ ⟨a', b', c', d'⟩ = ⟨a, b, c, d⟩) := by unfold Hid unionR; rw [he, he']; rfl
      clear he he'
      rw [Hu.out]
      go_enter Try.func80, Try.ntmps80
      go_wp2_with fail
      refine (empty_q _ _ _ _ false hv _).mono ?_
      rintro e w1 ⟨rfl, hb1⟩
      have kA1 : Bk w1 (w.heap.size) 23 #[.int .i64 a, .int .i64 b, .int .i64 c, .int .i64 d] := (by repeat (first | (with_reducible assumption) | ((with_reducible refine Bk.new _ _ _ ?_); first | (with_reducible rfl) | (simp; done)) | (with_reducible refine Bk.alloc ?_ _) | (with_reducible refine Bk.drew ?_) | (with_reducible refine Bk.drewN ?_ _) | ((with_reducible refine Bk.far ?_ ?_ _); rotate_left; focus (first | (simp; done) | (simp; omega))) | (with_reducible refine Bk.below ?_ (by with_reducible assumption)))); obtain ⟨kcA1, kfA1, kaA1, kgA1, klA1⟩ := kA1.rules; have kB1 : Bk w1 (w.heap.size + 1) 23 #[.int .i64 a', .int .i64 b', .int .i64 c', .int .i64 d'] := (by repeat (first | (with_reducible assumption) | ((with_reducible refine Bk.new _ _ _ ?_); first | (with_reducible rfl) | (simp; done)) | (with_reducible refine Bk.alloc ?_ _) | (with_reducible refine Bk.drew ?_) | (with_reducible refine Bk.drewN ?_ _) | ((with_reducible refine Bk.far ?_ ?_ _); rotate_left; focus (first | (simp; done) | (simp; omega))) | (with_reducible refine Bk.below ?_ (by with_reducible assumption)))); obtain ⟨kcB1, kfB1, kaB1, kgB1, klB1⟩ := kB1.rules; have kZ1 : Bk w1 (w.heap.size + 1 + 1) 23 #[.int .i64 0, .int .i64 0, .int .i64 0, .int .i64 0] := (by repeat (first | (with_reducible assumption) | ((with_reducible refine Bk.new _ _ _ ?_); first | (with_reducible rfl) | (simp; done)) | (with_reducible refine Bk.alloc ?_ _) | (with_reducible refine Bk.drew ?_) | (with_reducible refine Bk.drewN ?_ _) | ((with_reducible refine Bk.far ?_ ?_ _); rotate_left; focus (first | (simp; done) | (simp; omega))) | (with_reducible refine Bk.below ?_ (by with_reducible assumption)))); obtain ⟨kcZ1, kfZ1, kaZ1, kgZ1, klZ1⟩ := kZ1.rules
      go_wp2_with fail
      refine (empty_q _ _ _ _ true hv' _).mono ?_
      rintro e w2 ⟨rfl, hb2⟩
      have kA2 : Bk w2 (w.heap.size) 23 #[.int .i64 a, .int .i64 b, .int .i64 c, .int .i64 d] := (by repeat (first | (with_reducible assumption) | ((with_reducible refine Bk.new _ _ _ ?_); first | (with_reducible rfl) | (simp; done)) | (with_reducible refine Bk.alloc ?_ _) | (with_reducible refine Bk.drew ?_) | (with_reducible refine Bk.drewN ?_ _) | ((with_reducible refine Bk.far ?_ ?_ _); rotate_left; focus (first | (simp; done) | (simp; omega))) | (with_reducible refine Bk.below ?_ (by with_reducible assumption)))); obtain ⟨kcA2, kfA2, kaA2, kgA2, klA2⟩ := kA2.rules; have kB2 : Bk w2 (w.heap.size + 1) 23 #[.int .i64 a', .int .i64 b', .int .i64 c', .int .i64 d'] := (by repeat (first | (with_reducible assumption) | ((with_reducible refine Bk.new _ _ _ ?_); first | (with_reducible rfl) | (simp; done)) | (with_reducible refine Bk.alloc ?_ _) | (with_reducible refine Bk.drew ?_) | (with_reducible refine Bk.drewN ?_ _) | ((with_reducible refine Bk.far ?_ ?_ _); rotate_left; focus (first | (simp; done) | (simp; omega))) | (with_reducible refine Bk.below ?_ (by with_reducible assumption)))); obtain ⟨kcB2, kfB2, kaB2, kgB2, klB2⟩ := kB2.rules; have kZ2 : Bk w2 (w.heap.size + 1 + 1) 23 #[.int .i64 0, .int .i64 0, .int .i64 0, .int .i64 0] := (by repeat (first | (with_reducible assumption) | ((with_reducible refine Bk.new _ _ _ ?_); first | (with_reducible rfl) | (simp; done)) | (with_reducible refine Bk.alloc ?_ _) | (with_reducible refine Bk.drew ?_) | (with_reducible refine Bk.drewN ?_ _) | ((with_reducible refine Bk.far ?_ ?_ _); rotate_left; focus (first | (simp; done) | (simp; omega))) | (with_reducible refine Bk.below ?_ (by with_reducible assumption)))); obtain ⟨kcZ2, kfZ2, kaZ2, kgZ2, klZ2⟩ := kZ2.rules
      go_wp2
      refine bodyPost_ret (v := _) ?_ rfl ⟨rfl, (by repeat (first | (with_reducible exact Below.refl _ _) | (with_reducible refine balloc ?_ _) | (with_reducible refine Below.drew ?_) | (with_reducible refine bdrewN ?_ _) | ((with_reducible refine bset ?_ ?_ _); rotate_left; focus (first | (with_reducible exact Nat.le_refl _) | (simp; done) | (simp; omega) | omega)) | (with_reducible refine bstep (by with_reducible assumption) ?_)))⟩
      simp [results, Try.results80, go_sem, *]
    | false =>
      have hv' := Lib.hid he'
      have Hu : Hid (unionR ⟨a, b, c, d⟩ ⟨a', b', c', d'⟩ = ⟨min a a', min b b', max c c', max d d'⟩) := by unfold Hid unionR; rw [he, he']; rfl
      clear he he'
      rw [Hu.out]
      go_enter Try.func80, Try.ntmps80
      go_wp2_with fail
      refine (empty_q _ _ _ _ false hv _).mono ?_
      rintro e w1 ⟨rfl, hb1⟩
      have kA1 : Bk w1 (w.heap.size) 23 #[.int .i64 a, .int .i64 b, .int .i64 c, .int .i64 d] := (by repeat (first | (with_reducible assumption) | ((with_reducible refine Bk.new _ _ _ ?_); first | (with_reducible rfl) | (simp; done)) | (with_reducible refine Bk.alloc ?_ _) | (with_reducible refine Bk.drew ?_) | (with_reducible refine Bk.drewN ?_ _) | ((with_reducible refine Bk.far ?_ ?_ _); rotate_left; focus (first | (simp; done) | (simp; omega))) | (with_reducible refine Bk.below ?_ (by with_reducible assumption)))); obtain ⟨kcA1, kfA1, kaA1, kgA1, klA1⟩ := kA1.rules; have kB1 : Bk w1 (w.heap.size + 1) 23 #[.int .i64 a', .int .i64 b', .int .i64 c', .int .i64 d'] := (by repeat (first | (with_reducible assumption) | ((with_reducible refine Bk.new _ _ _ ?_); first | (with_reducible rfl) | (simp; done)) | (with_reducible refine Bk.alloc ?_ _) | (with_reducible refine Bk.drew ?_) | (with_reducible refine Bk.drewN ?_ _) | ((with_reducible refine Bk.far ?_ ?_ _); rotate_left; focus (first | (simp; done) | (simp; omega))) | (with_reducible refine Bk.below ?_ (by with_reducible assumption)))); obtain ⟨kcB1, kfB1, kaB1, kgB1, klB1⟩ := kB1.rules; have kZ1 : Bk w1 (w.heap.size + 1 + 1) 23 #[.int .i64 0, .int .i64 0, .int .i64 0, .int .i64 0] := (by repeat (first | (with_reducible assumption) | ((with_reducible refine Bk.new _ _ _ ?_); first | (with_reducible rfl) | (simp; done)) | (with_reducible refine Bk.alloc ?_ _) | (with_reducible refine Bk.drew ?_) | (with_reducible refine Bk.drewN ?_ _) | ((with_reducible refine Bk.far ?_ ?_ _); rotate_left; focus (first | (simp; done) | (simp; omega))) | (with_reducible refine Bk.below ?_ (by with_reducible assumption)))); obtain ⟨kcZ1, kfZ1, kaZ1, kgZ1, klZ1⟩ := kZ1.rules
      go_wp2_with fail
      refine (empty_q _ _ _ _ false hv' _).mono ?_
      rintro e w2 ⟨rfl, hb2⟩
      have kA2 : Bk w2 (w.heap.size) 23 #[.int .i64 a, .int .i64 b, .int .i64 c, .int .i64 d] := (by repeat (first | (with_reducible assumption) | ((with_reducible refine Bk.new _ _ _ ?_); first | (with_reducible rfl) | (simp; done)) | (with_reducible refine Bk.alloc ?_ _) | (with_reducible refine Bk.drew ?_) | (with_reducible refine Bk.drewN ?_ _) | ((with_reducible refine Bk.far ?_ ?_ _); rotate_left; focus (first | (simp; done) | (simp; omega))) | (with_reducible refine Bk.below ?_ (by with_reducible assumption)))); obtain ⟨kcA2, kfA2, kaA2, kgA2, klA2⟩ := kA2.rules; have kB2 : Bk w2 (w.heap.size + 1) 23 #[.int .i64 a', .int .i64 b', .int .i64 c', .int .i64 d'] := (by repeat (first | (with_reducible assumption) | ((with_reducible refine Bk.new _ _ _ ?_); first | (with_reducible rfl) | (simp; done)) | (with_reducible refine Bk.alloc ?_ _) | (with_reducible refine Bk.drew ?_) | (with_reducible refine Bk.drewN ?_ _) | ((with_reducible refine Bk.far ?_ ?_ _); rotate_left; focus (first | (simp; done) | (simp; omega))) | (with_reducible refine Bk.below ?_ (by with_reducible assumption)))); obtain ⟨kcB2, kfB2, kaB2, kgB2, klB2⟩ := kB2.rules; have kZ2 : Bk w2 (w.heap.size + 1 + 1) 23 #[.int .i64 0, .int .i64 0, .int .i64 0, .int .i64 0] := (by repeat (first | (with_reducible assumption) | ((with_reducible refine Bk.new _ _ _ ?_); first | (with_reducible rfl) | (simp; done)) | (with_reducible refine Bk.alloc ?_ _) | (with_reducible refine Bk.drew ?_) | (with_reducible refine Bk.drewN ?_ _) | ((with_reducible refine Bk.far ?_ ?_ _); rotate_left; focus (first | (simp; done) | (simp; omega))) | (with_reducible refine Bk.below ?_ (by with_reducible assumption)))); obtain ⟨kcZ2, kfZ2, kaZ2, kgZ2, klZ2⟩ := kZ2.rules
      go_wp2
      refine bodyPost_ret (v := _) ?_ rfl ⟨rfl, (by repeat (first | (with_reducible exact Below.refl _ _) | (with_reducible refine balloc ?_ _) | (with_reducible refine Below.drew ?_) | (with_reducible refine bdrewN ?_ _) | ((with_reducible refine bset ?_ ?_ _); rotate_left; focus (first | (with_reducible exact Nat.le_refl _) | (simp; done) | (simp; omega) | omega)) | (with_reducible refine bstep (by with_reducible assumption) ?_)))⟩
      simp [results, Try.results80, go_sem, *]

theorem union_q (a b c d a' b' c' d' : Int) (r : Rc) (hr : Hid (unionR ⟨a, b, c, d⟩ ⟨a', b', c', d'⟩ = r)) (w : World) :
    Calls Try.prog 80 #[.agg #[.int .i64 a, .int .i64 b, .int .i64 c, .int .i64 d], .agg #[.int .i64 a', .int .i64 b', .int .i64 c', .int .i64 d']] w fun e w' =>
      e = .returned (.agg #[.int .i64 r.x0, .int .i64 r.y0, .int .i64 r.x1, .int .i64 r.y1]) ∧ Below w.heap.size w w' := by
  have h := hr.out; subst h; exact union_any a b c d a' b' c' d' w

end Go.Proofs.Ytnefnnhnjmmebaa

namespace Go.Proofs.Ytnefnnhnjmmebaa
open Go.RowKit
set_option linter.unusedSimpArgs false
set_option linter.unusedVariables false


set_option maxHeartbeats 400000 in
theorem rmay_any (n : Int) (w : World) :
    Calls Try.prog 98 #[.int .i64 n] w fun e w' => e = .returned (.bool (mayB n)) ∧ w = w' := by
  go_enter Try.func98, Try.ntmps98
  go_wp2
  all_goals
    go_ret
    exact ⟨ret_bool (by simp [mayB]; try omega), rfl⟩

set_option maxHeartbeats 400000 in
theorem rvalid_any (a b c d : Int) (w : World) :
    Calls Try.prog 52 #[.agg #[.int .i64 a, .int .i64 b, .int .i64 c, .int .i64 d]] w fun e w' => e = .returned (.bool (validB ⟨a, b, c, d⟩)) ∧ Below w.heap.size w w' := by
  go_enter Try.func52, Try.ntmps52
  go_wp2_with (go_at_call 98; refine (rmay_any _ _).mono ?_; rintro e w' ⟨rfl, rfl⟩)
  all_goals
    go_ret
    exact ⟨ret_bool (by simp [validB, *]), (by repeat (first | (with_reducible exact Below.refl _ _) | (with_reducible refine balloc ?_ _) | (with_reducible refine Below.drew ?_) | (with_reducible refine bdrewN ?_ _) | ((with_reducible refine bset ?_ ?_ _); rotate_left; focus (first | (with_reducible exact Nat.le_refl _) | (simp; done) | (simp; omega) | omega)) | (with_reducible refine bstep (by with_reducible assumption) ?_)))⟩

set_option maxHeartbeats 400000 in
theorem rempty_any (a b c d : Int) (w : World) :
    Calls Try.prog 40 #[.agg #[.int .i64 a, .int .i64 b, .int .i64 c, .int .i64 d]] w fun e w' => e = .returned (.bool (emptyB ⟨a, b, c, d⟩)) ∧ Below w.heap.size w w' := by
  go_enter Try.func40, Try.ntmps40
  go_wp2_with (go_at_call 52; refine (rvalid_any _ _ _ _ _).mono ?_; rintro e w1 ⟨rfl, hb1⟩; have kA1 : Bk w1 (w.heap.size) 23 #[.int .i64 a, .int .i64 b, .int .i64 c, .int .i64 d] := (by repeat (first | (with_reducible assumption) | ((with_reducible refine Bk.new _ _ _ ?_); first | (with_reducible rfl) | (simp; done)) | (with_reducible refine Bk.alloc ?_ _) | (with_reducible refine Bk.drew ?_) | (with_reducible refine Bk.drewN ?_ _) | ((with_reducible refine Bk.far ?_ ?_ _); rotate_left; focus (first | (simp; done) | (simp; omega))) | (with_reducible refine Bk.below ?_ (by with_reducible assumption)))); obtain ⟨kcA1, kfA1, kaA1, kgA1, klA1⟩ := kA1.rules)
  all_goals
    go_ret
    exact ⟨ret_bool (by simp [emptyB, *]), (by repeat (first | (with_reducible exact Below.refl _ _) | (with_reducible refine balloc ?_ _) | (with_reducible refine Below.drew ?_) | (with_reducible refine bdrewN ?_ _) | ((with_reducible refine bset ?_ ?_ _); rotate_left; focus (first | (with_reducible exact Nat.le_refl _) | (simp; done) | (simp; omega) | omega)) | (with_reducible refine bstep (by with_reducible assumption) ?_)))⟩

set_option maxHeartbeats 400000 in
theorem rcanon_any (a b c d : Int) (w : World) :
    Calls Try.prog 54 #[.agg #[.int .i64 a, .int .i64 b, .int .i64 c, .int .i64 d]] w fun e w' =>
      e = .returned (.agg #[.int .i64 (canonR ⟨a, b, c, d⟩).x0, .int .i64 (canonR ⟨a, b, c, d⟩).y0, .int .i64 (canonR ⟨a, b, c, d⟩).x1, .int .i64 (canonR ⟨a, b, c, d⟩).y1]) ∧ Below w.heap.size w w' := by
  go_enter Try.func54, Try.ntmps54
  go_wp2_with (go_at_call 40; refine (rempty_any _ _ _ _ _).mono ?_; rintro e w1 ⟨rfl, hb1⟩; have kA1 : Bk w1 (w.heap.size) 23 #[.int .i64 a, .int .i64 b, .int .i64 c, .int .i64 d] := (by repeat (first | (with_reducible assumption) | ((with_reducible refine Bk.new _ _ _ ?_); first | (with_reducible rfl) | (simp; done)) | (with_reducible refine Bk.alloc ?_ _) | (with_reducible refine Bk.drew ?_) | (with_reducible refine Bk.drewN ?_ _) | ((with_reducible refine Bk.far ?_ ?_ _); rotate_left; focus (first | (simp; done) | (simp; omega))) | (with_reducible refine Bk.below ?_ (by with_reducible assumption)))); obtain ⟨kcA1, kfA1, kaA1, kgA1, klA1⟩ := kA1.rules; have kY1 : Bk w1 (w.heap.size + 1) 23 #[.int .i64 0, .int .i64 0, .int .i64 0, .int .i64 0] := (by repeat (first | (with_reducible assumption) | ((with_reducible refine Bk.new _ _ _ ?_); first | (with_reducible rfl) | (simp; done)) | (with_reducible refine Bk.alloc ?_ _) | (with_reducible refine Bk.drew ?_) | (with_reducible refine Bk.drewN ?_ _) | ((with_reducible refine Bk.far ?_ ?_ _); rotate_left; focus (first | (simp; done) | (simp; omega))) | (with_reducible refine Bk.below ?_ (by with_reducible assumption)))); obtain ⟨kcY1, kfY1, kaY1, kgY1, klY1⟩ := kY1.rules)
  all_goals
    refine bodyPost_ret (v := _) ?_ rfl ⟨rfl, (by repeat (first | (with_reducible exact Below.refl _ _) | (with_reducible refine balloc ?_ _) | (with_reducible refine Below.drew ?_) | (with_reducible refine bdrewN ?_ _) | ((with_reducible refine bset ?_ ?_ _); rotate_left; focus (first | (with_reducible exact Nat.le_refl _) | (simp; done) | (simp; omega) | omega)) | (with_reducible refine bstep (by with_reducible assumption) ?_)))⟩
    simp [results, Try.results54, go_sem, canonR, *]

theorem rcanon_q (a b c d : Int) (q : Rc) (hq : Hid (canonR ⟨a, b, c, d⟩ = q)) (w : World) :
    Calls Try.prog 54 #[.agg #[.int .i64 a, .int .i64 b, .int .i64 c, .int .i64 d]] w fun e w' => e = .returned (.agg #[.int .i64 q.x0, .int .i64 q.y0, .int .i64 q.x1, .int .i64 q.y1]) ∧ Below w.heap.size w w' := by
  have h := hq.out; subst h; exact rcanon_any a b c d w


theorem rempty_q (a b c d : Int) (v : Bool) (hv : Hid (emptyB ⟨a, b, c, d⟩ = v)) (w : World) :
    Calls Try.prog 40 #[.agg #[.int .i64 a, .int .i64 b, .int .i64 c, .int .i64 d]] w fun e w' => e = .returned (.bool v) ∧ Below w.heap.size w w' := by
  have h := hv.out; subst h; exact rempty_any a b c d w

set_option maxHeartbeats 400000 in
theorem rarea_any (a b c d : Int) (w : World) :
    Calls Try.prog 53 #[.agg #[.int .i64 a, .int .i64 b, .int .i64 c, .int .i64 d]] w fun e w' => e = .returned (.int .i64 (areaR ⟨a, b, c, d⟩)) ∧ Below w.heap.size w w' := by
  obtain ⟨q, Hq⟩ : ∃ q, Hid (canonR ⟨a, b, c, d⟩ = q) := ⟨_, rfl⟩
  have hbd := canon_bd ⟨a, b, c, d⟩
  rw [Hq.out] at hbd
  have hm := mul_bd (a := q.x1 - q.x0) (b := q.y1 - q.y0) (by omega) (by omega) (by omega) (by omega)
  go_enter Try.func53, Try.ntmps53
  go_wp2_with (go_at_call 54; refine (rcanon_q _ _ _ _ q Hq _).mono ?_; rintro e w1 ⟨rfl, hb1⟩; have kA1 : Bk w1 (w.heap.size) 23 #[.int .i64 a, .int .i64 b, .int .i64 c, .int .i64 d] := (by repeat (first | (with_reducible assumption) | ((with_reducible refine Bk.new _ _ _ ?_); first | (with_reducible rfl) | (simp; done)) | (with_reducible refine Bk.alloc ?_ _) | (with_reducible refine Bk.drew ?_) | (with_reducible refine Bk.drewN ?_ _) | ((with_reducible refine Bk.far ?_ ?_ _); rotate_left; focus (first | (simp; done) | (simp; omega))) | (with_reducible refine Bk.below ?_ (by with_reducible assumption)))); obtain ⟨kcA1, kfA1, kaA1, kgA1, klA1⟩ := kA1.rules)
  go_ret
  exact ⟨ret_int (by unfold areaR; rw [Hq.out]), (by repeat (first | (with_reducible exact Below.refl _ _) | (with_reducible refine balloc ?_ _) | (with_reducible refine Below.drew ?_) | (with_reducible refine bdrewN ?_ _) | ((with_reducible refine bset ?_ ?_ _); rotate_left; focus (first | (with_reducible exact Nat.le_refl _) | (simp; done) | (simp; omega) | omega)) | (with_reducible refine bstep (by with_reducible assumption) ?_)))⟩

set_option maxHeartbeats 400000 in
theorem rcontains_any (a b c d x y : Int) (w : World) :
    Calls Try.prog 25 #[.agg #[.int .i64 a, .int .i64 b, .int .i64 c, .int .i64 d], .int .i64 x, .int .i64 y] w fun e w' => e = .returned (.bool (containsB ⟨a, b, c, d⟩ x y)) ∧ Below w.heap.size w w' := by
  obtain ⟨q, Hq⟩ : ∃ q, Hid (canonR ⟨a, b, c, d⟩ = q) := ⟨_, rfl⟩
  have Hc : Hid (containsB ⟨a, b, c, d⟩ x y = (decide (q.x0 ≤ x) && decide (x < q.x1) && decide (q.y0 ≤ y) && decide (y < q.y1))) := by
    unfold Hid; rw [contains_canon, Hq.out]
  go_enter Try.func25, Try.ntmps25
  go_wp2_with (go_at_call 54; refine (rcanon_q _ _ _ _ q Hq _).mono ?_; rintro e w1 ⟨rfl, hb1⟩; have kA1 : Bk w1 (w.heap.size) 23 #[.int .i64 a, .int .i64 b, .int .i64 c, .int .i64 d] := (by repeat (first | (with_reducible assumption) | ((with_reducible refine Bk.new _ _ _ ?_); first | (with_reducible rfl) | (simp; done)) | (with_reducible refine Bk.alloc ?_ _) | (with_reducible refine Bk.drew ?_) | (with_reducible refine Bk.drewN ?_ _) | ((with_reducible refine Bk.far ?_ ?_ _); rotate_left; focus (first | (simp; done) | (simp; omega))) | (with_reducible refine Bk.below ?_ (by with_reducible assumption)))); obtain ⟨kcA1, kfA1, kaA1, kgA1, klA1⟩ := kA1.rules)
  all_goals
    go_ret
    exact ⟨ret_bool (by rw [Hc.out]; simp [*]; try omega), (by repeat (first | (with_reducible exact Below.refl _ _) | (with_reducible refine balloc ?_ _) | (with_reducible refine Below.drew ?_) | (with_reducible refine bdrewN ?_ _) | ((with_reducible refine bset ?_ ?_ _); rotate_left; focus (first | (with_reducible exact Nat.le_refl _) | (simp; done) | (simp; omega) | omega)) | (with_reducible refine bstep (by with_reducible assumption) ?_)))⟩

theorem rcontains_q (a b c d x y : Int) (v : Bool) (hv : Hid (containsB ⟨a, b, c, d⟩ x y = v)) (w : World) :
    Calls Try.prog 25 #[.agg #[.int .i64 a, .int .i64 b, .int .i64 c, .int .i64 d], .int .i64 x, .int .i64 y] w fun e w' => e = .returned (.bool v) ∧ Below w.heap.size w w' := by
  have h := hv.out; subst h; exact rcontains_any a b c d x y w

set_option maxHeartbeats 400000 in
theorem rpix_any (a b c d x y : Int) (w : World) :
    Calls Try.prog 70 #[.agg #[.int .i64 a, .int .i64 b, .int .i64 c, .int .i64 d], .int .i64 x, .int .i64 y] w fun e w' => e = .returned (.int .i64 (pixR ⟨a, b, c, d⟩ x y)) ∧ Below w.heap.size w w' := by
  cases hcb : containsB ⟨a, b, c, d⟩ x y with
  | true =>
    have hv := Lib.hid hcb
    obtain ⟨he, g1, g2, g3, g4⟩ := contains_true hcb
    obtain ⟨k1, k2, k3, k4, k5, k6⟩ := emptyB_false he
    simp only at g1 g2 g3 g4 k1 k2 k3 k4 k5 k6
    clear hcb he
    have hm := mul_bd (a := y - b) (b := c - a) (by omega) (by omega) (by omega) (by omega)
    go_enter Try.func70, Try.ntmps70
    go_wp2_with (go_at_call 25; refine (rcontains_q _ _ _ _ _ _ true hv _).mono ?_; rintro e w1 ⟨rfl, hb1⟩; have kA1 : Bk w1 (w.heap.size) 23 #[.int .i64 a, .int .i64 b, .int .i64 c, .int .i64 d] := (by repeat (first | (with_reducible assumption) | ((with_reducible refine Bk.new _ _ _ ?_); first | (with_reducible rfl) | (simp; done)) | (with_reducible refine Bk.alloc ?_ _) | (with_reducible refine Bk.drew ?_) | (with_reducible refine Bk.drewN ?_ _) | ((with_reducible refine Bk.far ?_ ?_ _); rotate_left; focus (first | (simp; done) | (simp; omega))) | (with_reducible refine Bk.below ?_ (by with_reducible assumption)))); obtain ⟨kcA1, kfA1, kaA1, kgA1, klA1⟩ := kA1.rules)
    go_ret
    exact ⟨ret_int (by unfold pixR; rw [if_pos hv.out]), (by repeat (first | (with_reducible exact Below.refl _ _) | (with_reducible refine balloc ?_ _) | (with_reducible refine Below.drew ?_) | (with_reducible refine bdrewN ?_ _) | ((with_reducible refine bset ?_ ?_ _); rotate_left; focus (first | (with_reducible exact Nat.le_refl _) | (simp; done) | (simp; omega) | omega)) | (with_reducible refine bstep (by with_reducible assumption) ?_)))⟩
  | false =>
    have hv := Lib.hid hcb
    clear hcb
    go_enter Try.func70, Try.ntmps70
    go_wp2_with (go_at_call 25; refine (rcontains_q _ _ _ _ _ _ false hv _).mono ?_; rintro e w1 ⟨rfl, hb1⟩; have kA1 : Bk w1 (w.heap.size) 23 #[.int .i64 a, .int .i64 b, .int .i64 c, .int .i64 d] := (by repeat (first | (with_reducible assumption) | ((with_reducible refine Bk.new _ _ _ ?_); first | (with_reducible rfl) | (simp; done)) | (with_reducible refine Bk.alloc ?_ _) | (with_reducible refine Bk.drew ?_) | (with_reducible refine Bk.drewN ?_ _) | ((with_reducible refine Bk.far ?_ ?_ _); rotate_left; focus (first | (simp; done) | (simp; omega))) | (with_reducible refine Bk.below ?_ (by with_reducible assumption)))); obtain ⟨kcA1, kfA1, kaA1, kgA1, klA1⟩ := kA1.rules)
    go_ret
    exact ⟨ret_int (by unfold pixR; rw [hv.out]; rfl), (by repeat (first | (with_reducible exact Below.refl _ _) | (with_reducible refine balloc ?_ _) | (with_reducible refine Below.drew ?_) | (with_reducible refine bdrewN ?_ _) | ((with_reducible refine bset ?_ ?_ _); rotate_left; focus (first | (with_reducible exact Nat.le_refl _) | (simp; done) | (simp; omega) | omega)) | (with_reducible refine bstep (by with_reducible assumption) ?_)))⟩

end Go.Proofs.Ytnefnnhnjmmebaa

namespace Go.Proofs.Ytnefnnhnjmmebaa
open Go.RowKit
set_option linter.unusedSimpArgs false
set_option linter.unusedVariables false


set_option maxHeartbeats 400000 in
theorem runion_any (a b c d a' b' c' d' : Int) (w : World) :
    Calls Try.prog 81 #[.agg #[.int .i64 a, .int .i64 b, .int .i64 c, .int .i64 d], .agg #[.int .i64 a', .int .i64 b', .int .i64 c', .int .i64 d']] w fun e w' =>
      e = .returned (.agg #[.int .i64 (unionR ⟨a, b, c, d⟩ ⟨a', b', c', d'⟩).x0, .int .i64 (unionR ⟨a, b, c, d⟩ ⟨a', b', c', d'⟩).y0, .int .i64 (unionR ⟨a, b, c, d⟩ ⟨a', b', c', d'⟩).x1, .int .i64 (unionR ⟨a, b, c, d⟩ ⟨a', b', c', d'⟩).y1]) ∧ Below w.heap.size w w' := by
  have hmx := max_if
  have hmn := min_if
  cases he : emptyB ⟨a, b, c, d⟩ with
  | true =>
    have hv := Lib.hid he
    obtain ⟨q, Hq⟩ : ∃ p, Hid (canonR ⟨a', b', c', d'⟩ = p) := ⟨_, rfl⟩
    have Hu : Hid (unionR ⟨a, b, c, d⟩ ⟨a', b', c', d'⟩ = q) := by unfold Hid unionR; rw [if_pos he]; exact Hq.out
    clear he
    rw [Hu.out]
    go_enter Try.func81, Try.ntmps81
    go_wp2_with (first | (go_at_call 40; refine (rempty_q _ _ _ _ true hv _).mono ?_; rintro e w1 ⟨rfl, hb1⟩; have kA1 : Bk w1 (w.heap.size) 23 #[.int .i64 a, .int .i64 b, .int .i64 c, .int .i64 d] := (by repeat (first | (with_reducible assumption) | ((with_reducible refine Bk.new _ _ _ ?_); first | (with_reducible rfl) | (simp; done)) | (with_reducible refine Bk.alloc ?_ _) | (with_reducible refine Bk.drew ?_) | (with_reducible refine Bk.drewN ?_ _) | ((with_reducible refine Bk.far ?_ ?_ _); rotate_left; focus (first | (simp; done) | (simp; omega))) | (with_reducible refine Bk.below ?_ (by with_reducible assumption)))); obtain ⟨kcA1, kfA1, kaA1, kgA1, klA1⟩ := kA1.rules; have kB1 : Bk w1 (w.heap.size + 1) 23 #[.int .i64 a', .int .i64 b', .int .i64 c', .int .i64 d'] := (by repeat (first | (with_reducible assumption) | ((with_reducible refine Bk.new _ _ _ ?_); first | (with_reducible rfl) | (simp; done)) | (with_reducible refine Bk.alloc ?_ _) | (with_reducible refine Bk.drew ?_) | (with_reducible refine Bk.drewN ?_ _) | ((with_reducible refine Bk.far ?_ ?_ _); rotate_left; focus (first | (simp; done) | (simp; omega))) | (with_reducible refine Bk.below ?_ (by with_reducible assumption)))); obtain ⟨kcB1, kfB1, kaB1, kgB1, klB1⟩ := kB1.rules; have kZ1 : Bk w1 (w.heap.size + 1 + 1) 23 #[.int .i64 0, .int .i64 0, .int .i64 0, .int .i64 0] := (by repeat (first | (with_reducible assumption) | ((with_reducible refine Bk.new _ _ _ ?_); first | (with_reducible rfl) | (simp; done)) | (with_reducible refine Bk.alloc ?_ _) | (with_reducible refine Bk.drew ?_) | (with_reducible refine Bk.drewN ?_ _) | ((with_reducible refine Bk.far ?_ ?_ _); rotate_left; focus (first | (simp; done) | (simp; omega))) | (with_reducible refine Bk.below ?_ (by with_reducible assumption)))); obtain ⟨kcZ1, kfZ1, kaZ1, kgZ1, klZ1⟩ := kZ1.rules) | (go_at_call 54; refine (rcanon_q _ _ _ _ q Hq _).mono ?_; rintro e w2 ⟨rfl, hb2⟩; have kZ2 : Bk w2 (w.heap.size + 1 + 1) 23 #[.int .i64 0, .int .i64 0, .int .i64 0, .int .i64 0] := (by repeat (first | (with_reducible assumption) | ((with_reducible refine Bk.new _ _ _ ?_); first | (with_reducible rfl) | (simp; done)) | (with_reducible refine Bk.alloc ?_ _) | (with_reducible refine Bk.drew ?_) | (with_reducible refine Bk.drewN ?_ _) | ((with_reducible refine Bk.far ?_ ?_ _); rotate_left; focus (first | (simp; done) | (simp; omega))) | (with_reducible refine Bk.below ?_ (by with_reducible assumption)))); obtain ⟨kcZ2, kfZ2, kaZ2, kgZ2, klZ2⟩ := kZ2.rules))
    refine bodyPost_ret (v := _) ?_ rfl ⟨rfl, (by repeat (first | (with_reducible exact Below.refl _ _) | (with_reducible refine balloc ?_ _) | (with_reducible refine Below.drew ?_) | (with_reducible refine bdrewN ?_ _) | ((with_reducible refine bset ?_ ?_ _); rotate_left; focus (first | (with_reducible exact Nat.le_refl _) | (simp; done) | (simp; omega) | omega)) | (with_reducible refine bstep (by with_reducible assumption) ?_)))⟩
    simp [results, Try.results81, go_sem, *]
  | false =>
    have hv := Lib.hid he
    cases he' : emptyB ⟨a', b', c', d'⟩ with
    | true =>
      have hv' := Lib.hid he'
      have Hu : Hid (unionR ⟨a, b, c, d⟩ ⟨a', b', c', d'⟩ = ⟨a, b, c, d⟩) := by unfold Hid unionR; rw [he, he']; rfl
      clear he he'
      rw [Hu.out]
      go_enter Try.func81, Try.ntmps81
      go_wp2_with fail
      refine (rempty_q _ _ _ _ false hv _).mono ?_
      rintro e w1 ⟨rfl, hb1⟩
      have kA1 : Bk w1 (w.heap.size) 23 #[.int .i64 a, .int .i64 b, .int .i64 c, .int .i64 d] := (by repeat (first | (with_reducible assumption) | ((with_reducible refine Bk.new _ _ _ ?_); first | (with_reducible rfl) | (simp; done)) | (with_reducible refine Bk.alloc ?_ _) | (with_reducible refine Bk.drew ?_) | (with_reducible refine Bk.drewN ?_ _) | ((with_reducible refine Bk.far ?_ ?_ _); rotate_left; focus (first | (simp; done) | (simp; omega))) | (with_reducible refine Bk.below ?_ (by with_reducible assumption)))); obtain ⟨kcA1, kfA1, kaA1, kgA1, klA1⟩ := kA1.rules; have kB1 : Bk w1 (w.heap.size + 1) 23 #[.int .i64 a', .int .i64 b', .int .i64 c', .int .i64 d'] := (by repeat (first | (with_reducible assumption) | ((with_reducible refine Bk.new _ _ _ ?_); first | (with_reducible rfl) | (simp; done)) | (with_reducible refine Bk.alloc ?_ _) | (with_reducible refine Bk.drew ?_) | (with_reducible refine Bk.drewN ?_ _) | ((with_reducible refine Bk.far ?_ ?_ _); rotate_left; focus (first | (simp; done) | (simp; omega))) | (with_reducible refine Bk.below ?_ (by with_reducible assumption)))); obtain ⟨kcB1, kfB1, kaB1, kgB1, klB1⟩ := kB1.rules; have kZ1 : Bk w1 (w.heap.size + 1 + 1) 23 #[.int .i64 0, .int .i64 0, .int .i64 0, .int .i64 0] := (by repeat (first | (with_reducible assumption) | ((with_reducible refine Bk.new _ _ _ ?_); first | (with_reducible rfl) | (simp; done)) | (with_reducible refine Bk.alloc ?_ _) | (with_reducible refine Bk.drew ?_) | (with_reducible refine Bk.drewN ?_ _) | ((with_reducible refine Bk.far ?_ ?_ _); rotate_left; focus (first | (simp; done) | (simp; omega))) | (with_reducible refine Bk.below ?_ (by with_reducible assumption)))); obtain ⟨kcZ1, kfZ1, kaZ1, kgZ1, klZ1⟩ := kZ1.rules
      go_wp2_with fail
      refine (rempty_q _ _ _ _ true hv' _).mono ?_
      rintro e w2 ⟨rfl, hb2⟩
      have kA2 : Bk w2 (w.heap.size) 23 #[.int .i64 a, .int .i64 b, .int .i64 c, .int .i64 d] := (by repeat (first | (with_reducible assumption) | ((with_reducible refine Bk.new _ _ _ ?_); first | (with_reducible rfl) | (simp; done)) | (with_reducible refine Bk.alloc ?_ _) | (with_reducible refine Bk.drew ?_) | (with_reducible refine Bk.drewN ?_ _) | ((with_reducible refine Bk.far ?_ ?_ _); rotate_left; focus (first | (simp; done) | (simp; omega))) | (with_reducible refine Bk.below ?_ (by with_reducible assumption)))); obtain ⟨kcA2, kfA2, kaA2, kgA2, klA2⟩ := kA2.rules; have kB2 : Bk w2 (w.heap.size + 1) 23 #[.int .i64 a', .int .i64 b', .int .i64 c', .int .i64 d'] := (by repeat (first | (with_reducible assumption) | ((with_reducible refine Bk.new _ _ _ ?_); first | (with_reducible rfl) | (simp; done)) | (with_reducible refine Bk.alloc ?_ _) | (with_reducible refine Bk.drew ?_) | (with_reducible refine Bk.drewN ?_ _) | ((with_reducible refine Bk.far ?_ ?_ _); rotate_left; focus (first | (simp; done) | (simp; omega))) | (with_reducible refine Bk.below ?_ (by with_reducible assumption)))); obtain ⟨kcB2, kfB2, kaB2, kgB2, klB2⟩ := kB2.rules; have kZ2 : Bk w2 (w.heap.size + 1 + 1) 23 #[.int .i64 0, .int .i64 0, .int .i64 0, .int .i64 0] := (by repeat (first | (with_reducible assumption) | ((with_reducible refine Bk.new _ _ _ ?_); first | (with_reducible rfl) | (simp; done)) | (with_reducible refine Bk.alloc ?_ _) | (with_reducible refine Bk.drew ?_) | (with_reducible refine Bk.drewN ?_ _) | ((with_reducible refine Bk.far ?_ ?_ _); rotate_left; focus (first | (simp; done) | (simp; omega))) | (with_reducible refine Bk.below ?_ (by with_reducible assumption)))); obtain ⟨kcZ2, kfZ2, kaZ2, kgZ2, klZ2⟩ := kZ2.rules
      go_wp2
      refine bodyPost_ret (v := _) ?_ rfl ⟨rfl, (by repeat (first | (with_reducible exact Below.refl _ _) | (with_reducible refine balloc ?_ _) | (with_reducible refine Below.drew ?_) | (with_reducible refine bdrewN ?_ _) | ((with_reducible refine bset ?_ ?_ _); rotate_left; focus (first | (with_reducible exact Nat.le_refl _) | (simp; done) | (simp; omega) | omega)) | (with_reducible refine bstep (by with_reducible assumption) ?_)))⟩
      simp [results, Try.results81, go_sem, *]
    | false =>
      have hv' := Lib.hid he'
      have Hu : Hid (unionR ⟨a, b, c, d⟩ ⟨a', b', c', d'⟩ = ⟨min a a', min b b', max c c', max d d'⟩) := by unfold Hid unionR; rw [he, he']; rfl
      clear he he'
      rw [Hu.out]
      go_enter Try.func81, Try.ntmps81
      go_wp2_with fail
      refine (rempty_q _ _ _ _ false hv _).mono ?_
      rintro e w1 ⟨rfl, hb1⟩
      have kA1 : Bk w1 (w.heap.size) 23 #[.int .i64 a, .int .i64 b, .int .i64 c, .int .i64 d] := (by repeat (first | (with_reducible assumption) | ((with_reducible refine Bk.new _ _ _ ?_); first | (with_reducible rfl) | (simp; done)) | (with_reducible refine Bk.alloc ?_ _) | (with_reducible refine Bk.drew ?_) | (with_reducible refine Bk.drewN ?_ _) | ((with_reducible refine Bk.far ?_ ?_ _); rotate_left; focus (first | (simp; done) | (simp; omega))) | (with_reducible refine Bk.below ?_ (by with_reducible assumption)))); obtain ⟨kcA1, kfA1, kaA1, kgA1, klA1⟩ := kA1.rules; have kB1 : Bk w1 (w.heap.size + 1) 23 #[.int .i64 a', .int .i64 b', .int .i64 c', .int .i64 d'] := (by repeat (first | (with_reducible assumption) | ((with_reducible refine Bk.new _ _ _ ?_); first | (with_reducible rfl) | (simp; done)) | (with_reducible refine Bk.alloc ?_ _) | (with_reducible refine Bk.drew ?_) | (with_reducible refine Bk.drewN ?_ _) | ((with_reducible refine Bk.far ?_ ?_ _); rotate_left; focus (first | (simp; done) | (simp; omega))) | (with_reducible refine Bk.below ?_ (by with_reducible assumption)))); obtain ⟨kcB1, kfB1, kaB1, kgB1, klB1⟩ := kB1.rules; have kZ1 : Bk w1 (w.heap.size + 1 + 1) 23 #[.int .i64 0, .int .i64 0, .int .i64 0, .int .i64 0] := (by repeat (first | (with_reducible assumption) | ((with_reducible refine Bk.new _ _ _ ?_); first | (with_reducible rfl) | (simp; done)) | (with_reducible refine Bk.alloc ?_ _) | (with_reducible refine Bk.drew ?_) | (with_reducible refine Bk.drewN ?_ _) | ((with_reducible refine Bk.far ?_ ?_ _); rotate_left; focus (first | (simp; done) | (simp; omega))) | (with_reducible refine Bk.below ?_ (by with_reducible assumption)))); obtain ⟨kcZ1, kfZ1, kaZ1, kgZ1, klZ1⟩ := kZ1.rules
      go_wp2_with fail
      refine (rempty_q _ _ _ _ false hv' _).mono ?_
      rintro e w2 ⟨rfl, hb2⟩
      have kA2 : Bk w2 (w.heap.size) 23 #[.int .i64 a, .int .i64 b, .int .i64 c, .int .i64 d] := (by repeat (first | (with_reducible assumption) | ((with_reducible refine Bk.new _ _ _ ?_); first | (with_reducible rfl) | (simp; done)) | (with_reducible refine Bk.alloc ?_ _) | (with_reducible refine Bk.drew ?_) | (with_reducible refine Bk.drewN ?_ _) | ((with_reducible refine Bk.far ?_ ?_ _); rotate_left; focus (first | (simp; done) | (simp; omega))) | (with_reducible refine Bk.below ?_ (by with_reducible assumption)))); obtain ⟨kcA2, kfA2, kaA2, kgA2, klA2⟩ := kA2.rules; have kB2 : Bk w2 (w.heap.size + 1) 23 #[.int .i64 a', .int .i64 b', .int .i64 c', .int .i64 d'] := (by repeat (first | (with_reducible assumption) | ((with_reducible refine Bk.new _ _ _ ?_); first | (with_reducible rfl) | (simp; done)) | (with_reducible refine Bk.alloc ?_ _) | (with_reducible refine Bk.drew ?_) | (with_reducible refine Bk.drewN ?_ _) | ((with_reducible refine Bk.far ?_ ?_ _); rotate_left; focus (first | (simp; done) | (simp; omega))) | (with_reducible refine Bk.below ?_ (by with_reducible assumption)))); obtain ⟨kcB2, kfB2, kaB2, kgB2, klB2⟩ := kB2.rules; have kZ2 : Bk w2 (w.heap.size + 1 + 1) 23 #[.int .i64 0, .int .i64 0, .int .i64 0, .int .i64 0] := (by repeat (first | (with_reducible assumption) | ((with_reducible refine Bk.new _ _ _ ?_); first | (with_reducible rfl) | (simp; done)) | (with_reducible refine Bk.alloc ?_ _) | (with_reducible refine Bk.drew ?_) | (with_reducible refine Bk.drewN ?_ _) | ((with_reducible refine Bk.far ?_ ?_ _); rotate_left; focus (first | (simp; done) | (simp; omega))) | (with_reducible refine Bk.below ?_ (by with_reducible assumption)))); obtain ⟨kcZ2, kfZ2, kaZ2, kgZ2, klZ2⟩ := kZ2.rules
      go_wp2
      refine bodyPost_ret (v := _) ?_ rfl ⟨rfl, (by repeat (first | (with_reducible exact Below.refl _ _) | (with_reducible refine balloc ?_ _) | (with_reducible refine Below.drew ?_) | (with_reducible refine bdrewN ?_ _) | ((with_reducible refine bset ?_ ?_ _); rotate_left; focus (first | (with_reducible exact Nat.le_refl _) | (simp; done) | (simp; omega) | omega)) | (with_reducible refine bstep (by with_reducible assumption) ?_)))⟩
      simp [results, Try.results81, go_sem, *]

theorem runion_q (a b c d a' b' c' d' : Int) (r : Rc) (hr : Hid (unionR ⟨a, b, c, d⟩ ⟨a', b', c', d'⟩ = r)) (w : World) :
    Calls Try.prog 81 #[.agg #[.int .i64 a, .int .i64 b, .int .i64 c, .int .i64 d], .agg #[.int .i64 a', .int .i64 b', .int .i64 c', .int .i64 d']] w fun e w' =>
      e = .returned (.agg #[.int .i64 r.x0, .int .i64 r.y0, .int .i64 r.x1, .int .i64 r.y1]) ∧ Below w.heap.size w w' := by
  have h := hr.out; subst h; exact runion_any a b c d a' b' c' d' w


theorem clamp_bd (n : Int) : -12288 ≤ clampI n (-12288) 12288 ∧ clampI n (-12288) 12288 ≤ 12288 := by unfold clampI; omega

end Go.Proofs.Ytnefnnhnjmmebaa
