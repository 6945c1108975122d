/-
  The walks of mask.Invert and mask.Scale.
-/
import Derived.Test.YtndablijjkchjaaMkEachI
import Derived.Test.YtndablijjkchjaaMkEachS
namespace Go.Proofs.Ytndablijjkchjaa
open Go.RowKit
set_option linter.unusedSimpArgs false
set_option linter.unusedVariables false

set_option maxHeartbeats 3200000 in
theorem minvert_any (b : Mk) (w : World) (hb : b.ok w) (hnb : b.n ≤ 4000000000) :
    Calls Try.prog 31 #[.agg #[.int .i64 b.r.x0, .int .i64 b.r.y0, .int .i64 b.r.x1, .int .i64 b.r.y1, .slice b.A b.n b.c]] w (RetME (mpR b) (mpL invF b) (mpE b) w) := by
  have HB := Lib.hid hb
  obtain ⟨R0, HR0⟩ : ∃ u, Hid (mpR b = u) := ⟨_, rfl⟩
  obtain ⟨L0, HL0⟩ : ∃ u, Hid (mpL invF b = u) := ⟨_, rfl⟩
  obtain ⟨e0, He0⟩ : ∃ u, Hid (mpE b = u) := ⟨_, rfl⟩
  rw [HR0.out, HL0.out, He0.out]
  clear hb
  have hE := each_I invF b ((w.alloc (.cells #[.int .i64 b.r.x0, .int .i64 b.r.y0, .int .i64 b.r.x1, .int .i64 b.r.y1, .slice b.A b.n b.c] 29)).alloc (.cells #[.int .i64 0, .int .i64 0, .int .i64 0, .int .i64 0, .slice none 0 0] 29)) (HB.out.below (by repeat (first | (with_reducible exact Below.refl _ _) | (with_reducible refine balloc ?_ _) | (with_reducible refine Below.drew ?_) | (with_reducible refine bdrewN ?_ _) | ((with_reducible refine bset ?_ ?_ _); rotate_left; focus (first | (with_reducible exact Nat.le_refl _) | (simp; done) | (simp; omega) | omega)) | (with_reducible refine bstep (by with_reducible assumption) ?_)))) hnb (fun x w' h0 h1 hb => inv1_any x w' h0 h1)
  rw [HR0.out, HL0.out, He0.out] at hE
  have HE := Lib.hid hE
  clear hE
  go_enter Try.func31, Try.ntmps31
  go_wp2_with fail
  refine (HE.out).mono ?_
  rintro e w1 ⟨v1, rfl, ho1, hb1⟩
  have kO1 : Bk w1 (w.heap.size + 1) 29 #[.int .i64 0, .int .i64 0, .int .i64 0, .int .i64 0, .slice none 0 0] := (by repeat (first | (with_reducible assumption) | ((with_reducible refine Bk.new _ _ _ ?_); first | (with_reducible rfl) | (simp; done)) | (with_reducible refine Bk.alloc ?_ _) | (with_reducible refine Bk.drew ?_) | (with_reducible refine Bk.drewN ?_ _) | ((with_reducible refine Bk.far ?_ ?_ _); rotate_left; focus (first | (simp; done) | (simp; omega))) | (with_reducible refine Bk.below ?_ (by with_reducible assumption))))
  have hB1 : Below w.heap.size w w1 := (by repeat (first | (with_reducible exact Below.refl _ _) | (with_reducible refine balloc ?_ _) | (with_reducible refine Below.drew ?_) | (with_reducible refine bdrewN ?_ _) | ((with_reducible refine bset ?_ ?_ _); rotate_left; focus (first | (with_reducible exact Nat.le_refl _) | (simp; done) | (simp; omega) | omega)) | (with_reducible refine bstep (by with_reducible assumption) ?_)))
  have ho := ho1.mono (show w.heap.size ≤ _ by simp; omega)
  obtain ⟨kc', kf', ka', kg', kl'⟩ := kO1.rules
  obtain ⟨A0, c0', hv0, _, _⟩ := ho.form encB_len
  generalize (L0).length = n0 at hv0
  subst hv0
  have o1 := ho.setFar kO1 (by decide) 0 (.int .i64 R0.x0)
  have m1 := kO1.set 0 (.int .i64 R0.x0)
  have o2 := o1.setFar m1 (by decide) 1 (.int .i64 R0.y0)
  have m2 := m1.set 1 (.int .i64 R0.y0)
  have o3 := o2.setFar m2 (by decide) 2 (.int .i64 R0.x1)
  have m3 := m2.set 2 (.int .i64 R0.x1)
  have o4 := o3.setFar m3 (by decide) 3 (.int .i64 R0.y1)
  have m4 := m3.set 3 (.int .i64 R0.y1)
  have o5 := o4.setFar m4 (by decide) 4 (.slice A0 n0 c0')
  clear o1 o2 o3 o4 m1 m2 m3 m4
  go_wp2
  refine bodyPost_ret (v := _) ?_ rfl ⟨_, rfl, o5, (by repeat (first | (with_reducible exact Below.refl _ _) | (with_reducible refine balloc ?_ _) | (with_reducible refine Below.drew ?_) | (with_reducible refine bdrewN ?_ _) | ((with_reducible refine bset ?_ ?_ _); rotate_left; focus (first | (with_reducible exact Nat.le_refl _) | (simp; done) | (simp; omega) | omega)) | (with_reducible refine bstep (by with_reducible assumption) ?_)))⟩
  simp [results, Try.results31, go_sem, kc']
set_option maxHeartbeats 3200000 in
theorem mscale_any (b : Mk) (k : Int) (w : World) (hb : b.ok w) (hnb : b.n ≤ 4000000000) (k0 : 0 ≤ k) (k1 : k ≤ 255) :
    Calls Try.prog 34 #[.agg #[.int .i64 b.r.x0, .int .i64 b.r.y0, .int .i64 b.r.x1, .int .i64 b.r.y1, .slice b.A b.n b.c], .int .u8 k] w (RetME (mpR b) (mpL (sclF k) b) (mpE b) w) := by
  have HB := Lib.hid hb
  obtain ⟨R0, HR0⟩ : ∃ u, Hid (mpR b = u) := ⟨_, rfl⟩
  obtain ⟨L0, HL0⟩ : ∃ u, Hid (mpL (sclF k) b = u) := ⟨_, rfl⟩
  obtain ⟨e0, He0⟩ : ∃ u, Hid (mpE b = u) := ⟨_, rfl⟩
  rw [HR0.out, HL0.out, He0.out]
  clear hb
  have hE := each_S (sclF k) b (w.heap.size + 1) (((w.alloc (.cells #[.int .i64 b.r.x0, .int .i64 b.r.y0, .int .i64 b.r.x1, .int .i64 b.r.y1, .slice b.A b.n b.c] 29)).alloc (.cells #[.int .u8 k] 5)).alloc (.cells #[.int .i64 0, .int .i64 0, .int .i64 0, .int .i64 0, .slice none 0 0] 29)) (HB.out.below (by repeat (first | (with_reducible exact Below.refl _ _) | (with_reducible refine balloc ?_ _) | (with_reducible refine Below.drew ?_) | (with_reducible refine bdrewN ?_ _) | ((with_reducible refine bset ?_ ?_ _); rotate_left; focus (first | (with_reducible exact Nat.le_refl _) | (simp; done) | (simp; omega) | omega)) | (with_reducible refine bstep (by with_reducible assumption) ?_)))) hnb (fun x w' h0 h1 hb => scl1_any x k (w.heap.size + 1) w' h0 h1 k0 k1 (Bk.below (by repeat (first | (with_reducible assumption) | ((with_reducible refine Bk.new _ _ _ ?_); first | (with_reducible rfl) | (simp; done)) | (with_reducible refine Bk.alloc ?_ _) | (with_reducible refine Bk.drew ?_) | (with_reducible refine Bk.drewN ?_ _) | ((with_reducible refine Bk.far ?_ ?_ _); rotate_left; focus (first | (simp; done) | (simp; omega))) | (with_reducible refine Bk.below ?_ (by with_reducible assumption)))) hb))
  rw [HR0.out, HL0.out, He0.out] at hE
  have HE := Lib.hid hE
  clear hE
  go_enter Try.func34, Try.ntmps34
  go_wp2_with fail
  refine (HE.out).mono ?_
  rintro e w1 ⟨v1, rfl, ho1, hb1⟩
  have kO1 : Bk w1 (w.heap.size + 1 + 1) 29 #[.int .i64 0, .int .i64 0, .int .i64 0, .int .i64 0, .slice none 0 0] := (by repeat (first | (with_reducible assumption) | ((with_reducible refine Bk.new _ _ _ ?_); first | (with_reducible rfl) | (simp; done)) | (with_reducible refine Bk.alloc ?_ _) | (with_reducible refine Bk.drew ?_) | (with_reducible refine Bk.drewN ?_ _) | ((with_reducible refine Bk.far ?_ ?_ _); rotate_left; focus (first | (simp; done) | (simp; omega))) | (with_reducible refine Bk.below ?_ (by with_reducible assumption))))
  have hB1 : Below w.heap.size w w1 := (by repeat (first | (with_reducible exact Below.refl _ _) | (with_reducible refine balloc ?_ _) | (with_reducible refine Below.drew ?_) | (with_reducible refine bdrewN ?_ _) | ((with_reducible refine bset ?_ ?_ _); rotate_left; focus (first | (with_reducible exact Nat.le_refl _) | (simp; done) | (simp; omega) | omega)) | (with_reducible refine bstep (by with_reducible assumption) ?_)))
  have ho := ho1.mono (show w.heap.size ≤ _ by simp; omega)
  obtain ⟨kc', kf', ka', kg', kl'⟩ := kO1.rules
  obtain ⟨A0, c0', hv0, _, _⟩ := ho.form encB_len
  generalize (L0).length = n0 at hv0
  subst hv0
  have o1 := ho.setFar kO1 (by decide) 0 (.int .i64 R0.x0)
  have m1 := kO1.set 0 (.int .i64 R0.x0)
  have o2 := o1.setFar m1 (by decide) 1 (.int .i64 R0.y0)
  have m2 := m1.set 1 (.int .i64 R0.y0)
  have o3 := o2.setFar m2 (by decide) 2 (.int .i64 R0.x1)
  have m3 := m2.set 2 (.int .i64 R0.x1)
  have o4 := o3.setFar m3 (by decide) 3 (.int .i64 R0.y1)
  have m4 := m3.set 3 (.int .i64 R0.y1)
  have o5 := o4.setFar m4 (by decide) 4 (.slice A0 n0 c0')
  clear o1 o2 o3 o4 m1 m2 m3 m4
  go_wp2
  refine bodyPost_ret (v := _) ?_ rfl ⟨_, rfl, o5, (by repeat (first | (with_reducible exact Below.refl _ _) | (with_reducible refine balloc ?_ _) | (with_reducible refine Below.drew ?_) | (with_reducible refine bdrewN ?_ _) | ((with_reducible refine bset ?_ ?_ _); rotate_left; focus (first | (with_reducible exact Nat.le_refl _) | (simp; done) | (simp; omega) | omega)) | (with_reducible refine bstep (by with_reducible assumption) ?_)))⟩
  simp [results, Try.results34, go_sem, kc']
end Go.Proofs.Ytndablijjkchjaa
