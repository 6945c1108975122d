/-
  The walk of grisailleref27.Scale.
-/
import Derived.Test.YtnefnnhnjmmebaaMn8
namespace Go.Proofs.Ytnefnnhnjmmebaa
open Go.RowKit
set_option linter.unusedSimpArgs false
set_option linter.unusedVariables false


set_option maxHeartbeats 1600000 in
theorem rscale_q (p : Px) (k : Int) (q : Px) (hq : Hid (scaleP p k = q)) (w : World) (hp : p.byte) (b0 : 0 ≤ k) (b1 : k ≤ 255) :
    Calls Try.prog 93 #[.agg #[.int .u8 p.r, .int .u8 p.g, .int .u8 p.b, .int .u8 p.a], .int .u8 k] w fun e w' => e = .returned (.agg #[.int .u8 q.r, .int .u8 q.g, .int .u8 q.b, .int .u8 q.a]) ∧ Below w.heap.size w w' := by
  have h := hq.out; subst h
  unfold scaleP
  obtain ⟨r0, r1, g0, g1, c0, c1, a0, a1⟩ := hp
  go_enter Try.func93, Try.ntmps93
  go_wp2_with fail
  refine wp_region_gob 17 [(0, true), (1, true), (2, true), (4, true), (5, true), (6, true), (8, true), (9, true), (10, true), (12, true), (13, true), (14, true), (3, false), (7, false), (11, false), (15, false), (16, true)] (by kernel_rfl) (by kernel_rfl) (fun c a d v w h => by cases d <;> exact h) ?_
  repeat (first | (refine wpGo_pure (v := ?_) rfl rfl (fun w' hS => ?_) ?_; rotate_left; (· have kXp : Bk w' (w.heap.size) 25 #[.int .u8 p.r, .int .u8 p.g, .int .u8 p.b, .int .u8 p.a] := (by repeat (first | (with_reducible assumption) | ((with_reducible refine Bk.new _ _ _ ?_); first | (with_reducible rfl) | (simp; done)) | (with_reducible refine Bk.alloc ?_ _) | (with_reducible refine Bk.drew ?_) | (with_reducible refine Bk.drewN ?_ _) | ((with_reducible refine Bk.far ?_ ?_ _); rotate_left; focus (first | (simp; done) | (simp; omega))) | (with_reducible refine Bk.below ?_ (by with_reducible assumption)))); obtain ⟨kcXp, kfXp, kaXp, kgXp, klXp⟩ := kXp.rules; go_simp; exact rfl); (try simp only [Act.put, List.setIfInBounds_toArray, List.set_cons_zero, List.set_cons_succ])) | ((refine wpGo_skip rfl rfl ?_); (try simp only [Act.put, List.setIfInBounds_toArray, List.set_cons_zero, List.set_cons_succ])))
  refine wpGo_eff rfl (fun K hK => ?_)
  go_simp
  refine (rmn8_any _ k _ r0 r1 b0 b1).mono ?_
  rintro e w1 ⟨rfl, hb1⟩
  refine hK.out _ _ (by repeat (first | (with_reducible exact Below.refl _ _) | (with_reducible refine balloc ?_ _) | (with_reducible refine Below.drew ?_) | (with_reducible refine bdrewN ?_ _) | ((with_reducible refine bset ?_ ?_ _); rotate_left; focus (first | (with_reducible exact Nat.le_refl _) | (simp; done) | (simp; omega) | omega)) | (with_reducible refine bstep (by with_reducible assumption) ?_))) (fun hS1 => ?_)
  clear hK K
  refine wpGo_eff rfl (fun K hK => ?_)
  go_simp
  refine (rmn8_any _ k _ g0 g1 b0 b1).mono ?_
  rintro e w2 ⟨rfl, hb2⟩
  refine hK.out _ _ (by repeat (first | (with_reducible exact Below.refl _ _) | (with_reducible refine balloc ?_ _) | (with_reducible refine Below.drew ?_) | (with_reducible refine bdrewN ?_ _) | ((with_reducible refine bset ?_ ?_ _); rotate_left; focus (first | (with_reducible exact Nat.le_refl _) | (simp; done) | (simp; omega) | omega)) | (with_reducible refine bstep (by with_reducible assumption) ?_))) (fun hS2 => ?_)
  clear hK K
  refine wpGo_eff rfl (fun K hK => ?_)
  go_simp
  refine (rmn8_any _ k _ c0 c1 b0 b1).mono ?_
  rintro e w3 ⟨rfl, hb3⟩
  refine hK.out _ _ (by repeat (first | (with_reducible exact Below.refl _ _) | (with_reducible refine balloc ?_ _) | (with_reducible refine Below.drew ?_) | (with_reducible refine bdrewN ?_ _) | ((with_reducible refine bset ?_ ?_ _); rotate_left; focus (first | (with_reducible exact Nat.le_refl _) | (simp; done) | (simp; omega) | omega)) | (with_reducible refine bstep (by with_reducible assumption) ?_))) (fun hS3 => ?_)
  clear hK K
  refine wpGo_eff rfl (fun K hK => ?_)
  go_simp
  refine (rmn8_any _ k _ a0 a1 b0 b1).mono ?_
  rintro e w4 ⟨rfl, hb4⟩
  refine hK.out _ _ (by repeat (first | (with_reducible exact Below.refl _ _) | (with_reducible refine balloc ?_ _) | (with_reducible refine Below.drew ?_) | (with_reducible refine bdrewN ?_ _) | ((with_reducible refine bset ?_ ?_ _); rotate_left; focus (first | (with_reducible exact Nat.le_refl _) | (simp; done) | (simp; omega) | omega)) | (with_reducible refine bstep (by with_reducible assumption) ?_))) (fun hS4 => ?_)
  clear hK K
  repeat (first | (refine wpGo_pure (v := ?_) rfl rfl (fun w' hS => ?_) ?_; rotate_left; (· have kXp : Bk w' (w.heap.size) 25 #[.int .u8 p.r, .int .u8 p.g, .int .u8 p.b, .int .u8 p.a] := (by repeat (first | (with_reducible assumption) | ((with_reducible refine Bk.new _ _ _ ?_); first | (with_reducible rfl) | (simp; done)) | (with_reducible refine Bk.alloc ?_ _) | (with_reducible refine Bk.drew ?_) | (with_reducible refine Bk.drewN ?_ _) | ((with_reducible refine Bk.far ?_ ?_ _); rotate_left; focus (first | (simp; done) | (simp; omega))) | (with_reducible refine Bk.below ?_ (by with_reducible assumption)))); obtain ⟨kcXp, kfXp, kaXp, kgXp, klXp⟩ := kXp.rules; go_simp; exact rfl); (try simp only [Act.put, List.setIfInBounds_toArray, List.set_cons_zero, List.set_cons_succ])) | ((refine wpGo_skip rfl rfl ?_); (try simp only [Act.put, List.setIfInBounds_toArray, List.set_cons_zero, List.set_cons_succ])))
  refine wpGo_nil ?_
  simp only [List.drop_succ_cons, List.drop_zero]
  have kO4 : Bk w4 (w.heap.size + 1) 25 #[.int .u8 0, .int .u8 0, .int .u8 0, .int .u8 0] := (by repeat (first | (with_reducible assumption) | ((with_reducible refine Bk.new _ _ _ ?_); first | (with_reducible rfl) | (simp; done)) | (with_reducible refine Bk.alloc ?_ _) | (with_reducible refine Bk.drew ?_) | (with_reducible refine Bk.drewN ?_ _) | ((with_reducible refine Bk.far ?_ ?_ _); rotate_left; focus (first | (simp; done) | (simp; omega))) | (with_reducible refine Bk.below ?_ (by with_reducible assumption)))); obtain ⟨kcO4, kfO4, kaO4, kgO4, klO4⟩ := kO4.rules
  go_wp2
  refine bodyPost_ret (v := _) ?_ rfl ⟨rfl, (by repeat (first | (with_reducible exact Below.refl _ _) | (with_reducible refine balloc ?_ _) | (with_reducible refine Below.drew ?_) | (with_reducible refine bdrewN ?_ _) | ((with_reducible refine bset ?_ ?_ _); rotate_left; focus (first | (with_reducible exact Nat.le_refl _) | (simp; done) | (simp; omega) | omega)) | (with_reducible refine bstep (by with_reducible assumption) ?_)))⟩
  simp [results, Try.results93, go_sem, kcO4]
end Go.Proofs.Ytnefnnhnjmmebaa
