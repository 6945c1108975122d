/-
  The walk of gridOf.
-/
import Derived.Test.YtndablijjkchjaaDtQ
import Derived.Test.YtndablijjkchjaaMkClone
import Derived.Test.YtndablijjkchjaaPlB
namespace Go.Proofs.Ytndablijjkchjaa
open Go.RowKit
set_option linter.unusedSimpArgs false
set_option linter.unusedVariables false


set_option maxHeartbeats 3200000 in
theorem gridof_any (b : Mk) (wd ht : Nat) (w : World) (hb : b.ok w) (hn2 : b.n ≤ 4000000000) (hwd : b.r.x1 - b.r.x0 = (wd : Int)) (hht : b.r.y1 - b.r.y0 = (ht : Int)) (h1 : wd ≤ 8192) (h2 : ht ≤ 8192) :
    Calls Try.prog 72 #[.agg #[.int .i64 b.r.x0, .int .i64 b.r.y0, .int .i64 b.r.x1, .int .i64 b.r.y1, .slice b.A b.n b.c]] w fun e w' => ∃ v, e = .returned (.agg #[.int .i64 (wd : Int), .int .i64 (ht : Int), v]) ∧ OwnL encB 5 1 w' w.heap.size v b.l ∧ Below w.heap.size w w' := by
  have HB := Lib.hid hb
  clear hb
  obtain ⟨W, HW⟩ : ∃ W : World, Hid (W = ((w.alloc (.cells #[.int .i64 b.r.x0, .int .i64 b.r.y0, .int .i64 b.r.x1, .int .i64 b.r.y1, .slice b.A b.n b.c] 29)).alloc (.cells #[.int .i64 0, .int .i64 0, .slice none 0 0] 70)).alloc (.cells #[.int .i64 (wd : Int), .int .i64 (ht : Int), .slice none 0 0] 70)) := ⟨_, rfl⟩
  have kC : Bk W (w.heap.size) 29 #[.int .i64 b.r.x0, .int .i64 b.r.y0, .int .i64 b.r.x1, .int .i64 b.r.y1, .slice b.A b.n b.c] := by rw [HW.out]; exact (by repeat (first | (with_reducible assumption) | ((with_reducible refine Bk.new _ _ _ ?_); first | (with_reducible rfl) | (simp; done)) | (with_reducible refine Bk.alloc ?_ _) | (with_reducible refine Bk.drew ?_) | (with_reducible refine Bk.drewN ?_ _) | ((with_reducible refine Bk.far ?_ ?_ _); rotate_left; focus (first | (simp; done) | (simp; omega))) | (with_reducible refine Bk.below ?_ (by with_reducible assumption))))
  have kO : Bk W (w.heap.size + 1) 70 #[.int .i64 0, .int .i64 0, .slice none 0 0] := by rw [HW.out]; exact (by repeat (first | (with_reducible assumption) | ((with_reducible refine Bk.new _ _ _ ?_); first | (with_reducible rfl) | (simp; done)) | (with_reducible refine Bk.alloc ?_ _) | (with_reducible refine Bk.drew ?_) | (with_reducible refine Bk.drewN ?_ _) | ((with_reducible refine Bk.far ?_ ?_ _); rotate_left; focus (first | (simp; done) | (simp; omega))) | (with_reducible refine Bk.below ?_ (by with_reducible assumption))))
  have kG : Bk W (w.heap.size + 1 + 1) 70 #[.int .i64 (wd : Int), .int .i64 (ht : Int), .slice none 0 0] := by rw [HW.out]; exact (by repeat (first | (with_reducible assumption) | ((with_reducible refine Bk.new _ _ _ ?_); first | (with_reducible rfl) | (simp; done)) | (with_reducible refine Bk.alloc ?_ _) | (with_reducible refine Bk.drew ?_) | (with_reducible refine Bk.drewN ?_ _) | ((with_reducible refine Bk.far ?_ ?_ _); rotate_left; focus (first | (simp; done) | (simp; omega))) | (with_reducible refine Bk.below ?_ (by with_reducible assumption))))
  have hB0 : Below w.heap.size w W := by rw [HW.out]; exact (by repeat (first | (with_reducible exact Below.refl _ _) | (with_reducible refine balloc ?_ _) | (with_reducible refine Below.drew ?_) | (with_reducible refine bdrewN ?_ _) | ((with_reducible refine bset ?_ ?_ _); rotate_left; focus (first | (with_reducible exact Nat.le_refl _) | (simp; done) | (simp; omega) | omega)) | (with_reducible refine bstep (by with_reducible assumption) ?_)))
  have hszW : w.heap.size ≤ W.heap.size := hB0.size
  have HRD := Lib.hid (HB.out.rd.below hB0)
  have HLN := Lib.hid HB.out.ln
  have hE : OwnL encB 5 1 W W.heap.size (.slice none 0 0) [] := OwnL.nil _ _
  have hll : ([] : List Int).length + b.n ≤ 4294967296 := by simp; omega
  go_enter Try.func72, Try.ntmps72
  go_wp2_with (rw [← HW.out]; at_builtin; refine wpList_append_rd encB_len encB_one 27 Try.infoU8 rfl (by decide) (by decide) Try.underlying27 rfl _ _ rfl (W.heap.size) _ [] rfl hE b.A b.n b.c b.l rfl HLN.out HRD.out hll (Nat.le_refl _) ?_; intro v5 w5 ho5 hg5; obtain ⟨A5, c5, hv5, _, _⟩ := ho5.form encB_len; rw [List.nil_append, HLN.out] at hv5; subst hv5; have q5 := kC.grown hg5 (hE.neBk kC (by decide)); obtain ⟨kc5, kf5, ka5, kg5, kl5⟩ := q5.rules; have r5 := kO.grown hg5 (hE.neBk kO (by decide)); obtain ⟨kc6, kf6, ka6, kg6, kl6⟩ := r5.rules; have s5 := kG.grown hg5 (hE.neBk kG (by decide)); obtain ⟨kc7, kf7, ka7, kg7, kl7⟩ := s5.rules)
  rw [List.nil_append] at ho5
  have hB5 := below_grown hE hg5 hB0 hszW
  have r5 := kO.grown hg5 (hE.neBk kO (by decide))
  have s5 := kG.grown hg5 (hE.neBk kG (by decide))
  have o0 := ho5.setFar s5 (by decide) 2 (.slice A5 b.n c5)
  have r6 := r5.far (p := ⟨w.heap.size + 1 + 1, 2, none⟩) (by simp) (.slice A5 b.n c5)
  have s6 := s5.set 2 (.slice A5 b.n c5)
  have o1 := o0.setFar r6 (by decide) 0 (.int .i64 (wd : Int))
  have m1 := r6.set 0 (.int .i64 (wd : Int))
  have o2 := o1.setFar m1 (by decide) 1 (.int .i64 (ht : Int))
  have m2 := m1.set 1 (.int .i64 (ht : Int))
  have o3 := o2.setFar m2 (by decide) 2 (.slice A5 b.n c5)
  obtain ⟨kc8, kf8, ka8, kg8, kl8⟩ := r5.rules
  obtain ⟨kc9, kf9, ka9, kg9, kl9⟩ := s5.rules
  clear o0 o1 o2 m1 m2 r6 s6
  go_wp2
  refine bodyPost_ret (v := _) ?_ rfl ⟨_, rfl, o3.mono hszW, (by repeat (first | (with_reducible exact Below.refl _ _) | (with_reducible refine balloc ?_ _) | (with_reducible refine Below.drew ?_) | (with_reducible refine bdrewN ?_ _) | ((with_reducible refine bset ?_ ?_ _); rotate_left; focus (first | (with_reducible exact Nat.le_refl _) | (simp; done) | (simp; omega) | omega)) | (with_reducible refine bstep (by with_reducible assumption) ?_)))⟩
  simp [results, Try.results72, go_sem, kc8]
end Go.Proofs.Ytndablijjkchjaa
