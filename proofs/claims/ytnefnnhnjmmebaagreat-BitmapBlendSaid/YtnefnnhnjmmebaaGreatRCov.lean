/-
  The walk of grisailleref29.BlendWithCoverage.
-/
import Derived.Test.YtnefnnhnjmmebaaGreatRScale
import Derived.Test.YtnefnnhnjmmebaaGreatRb3
namespace Go.Proofs.YtnefnnhnjmmebaaGreat
open Go.RowKit
set_option linter.unusedSimpArgs false
set_option linter.unusedVariables false


set_option maxHeartbeats 1600000 in
theorem rbwc_q (mode : Int) (s d : Px) (k : Int) (w : World) (hs : s.byte) (hd : d.byte) (b0 : 0 ≤ k) (b1 : k ≤ 255) (p : Px) (Hp : Hid (bwcP mode s d k = p)) :
    Calls Tryz.prog 27 #[.int .i64 mode, .agg #[.int .u8 s.r, .int .u8 s.g, .int .u8 s.b, .int .u8 s.a], .agg #[.int .u8 d.r, .int .u8 d.g, .int .u8 d.b, .int .u8 d.a], .int .u8 k] w fun e w' =>
      e = .returned (.agg #[.int .u8 p.r, .int .u8 p.g, .int .u8 p.b, .int .u8 p.a]) ∧ Below w.heap.size w w' := by
  obtain ⟨c, Hc⟩ : ∃ c, Hid (scaleP s k = c) := ⟨_, rfl⟩
  have hcb := scale_byte hs b0 b1
  rw [Hc.out] at hcb
  have HCB := Lib.hid hcb
  have HS := Lib.hid hs
  have HD := Lib.hid hd
  have HB : Hid (blendP mode c d = p) := by have h := Hp.out; unfold bwcP at h; rw [Hc.out] at h; exact h
  clear hcb hs hd Hp
  go_enter Tryz.func27, Tryz.ntmps27
  go_wp2_with fail
  refine wp_region_gob 5 [(0, true), (1, true), (2, true), (4, true), (3, false)] (by kernel_rfl) (by kernel_rfl) (fun c a d v w h => by cases d <;> exact h) ?_
  repeat (refine wpGo_pure (v := ?_) rfl rfl (fun w' hS => ?_) ?_; rotate_left; (· have kSp : Bk w' (w.heap.size) 45 #[.int .u8 s.r, .int .u8 s.g, .int .u8 s.b, .int .u8 s.a] := (by repeat (first | (with_reducible assumption) | ((with_reducible refine Bk.new _ _ _ ?_); first | (with_reducible rfl) | (simp; done)) | (with_reducible refine Bk.alloc ?_ _) | (with_reducible refine Bk.drew ?_) | (with_reducible refine Bk.drewN ?_ _) | ((with_reducible refine Bk.far ?_ ?_ _); rotate_left; focus (first | (simp; done) | (simp; omega))) | (with_reducible refine Bk.below ?_ (by with_reducible assumption)))); obtain ⟨kcSp, kfSp, kaSp, kgSp, klSp⟩ := kSp.rules; have kDp : Bk w' (w.heap.size + 1) 45 #[.int .u8 d.r, .int .u8 d.g, .int .u8 d.b, .int .u8 d.a] := (by repeat (first | (with_reducible assumption) | ((with_reducible refine Bk.new _ _ _ ?_); first | (with_reducible rfl) | (simp; done)) | (with_reducible refine Bk.alloc ?_ _) | (with_reducible refine Bk.drew ?_) | (with_reducible refine Bk.drewN ?_ _) | ((with_reducible refine Bk.far ?_ ?_ _); rotate_left; focus (first | (simp; done) | (simp; omega))) | (with_reducible refine Bk.below ?_ (by with_reducible assumption)))); obtain ⟨kcDp, kfDp, kaDp, kgDp, klDp⟩ := kDp.rules; go_simp; exact rfl); (try simp only [Act.put, List.setIfInBounds_toArray, List.set_cons_zero, List.set_cons_succ]))
  refine wpGo_eff rfl (fun K hK => ?_)
  go_simp
  refine (rscale_q s k c Hc _ HS.out b0 b1).mono ?_
  rintro e w1 ⟨rfl, hb1⟩
  refine hK.out _ _ (by repeat (first | (with_reducible exact Below.refl _ _) | (with_reducible refine balloc ?_ _) | (with_reducible refine Below.drew ?_) | (with_reducible refine bdrewN ?_ _) | ((with_reducible refine bset ?_ ?_ _); rotate_left; focus (first | (with_reducible exact Nat.le_refl _) | (simp; done) | (simp; omega) | omega)) | (with_reducible refine bstep (by with_reducible assumption) ?_))) (fun hS1 => ?_)
  clear hK K
  refine wpGo_nil ?_
  simp only [List.drop_succ_cons, List.drop_zero]
  go_wp2_with fail
  refine (rblend_q mode c d _ HCB.out HD.out p HB).mono ?_
  rintro e w2 ⟨rfl, hb2⟩
  have kP2 : Bk w2 (w.heap.size + 1 + 1) 45 #[.int .u8 0, .int .u8 0, .int .u8 0, .int .u8 0] := (by repeat (first | (with_reducible assumption) | ((with_reducible refine Bk.new _ _ _ ?_); first | (with_reducible rfl) | (simp; done)) | (with_reducible refine Bk.alloc ?_ _) | (with_reducible refine Bk.drew ?_) | (with_reducible refine Bk.drewN ?_ _) | ((with_reducible refine Bk.far ?_ ?_ _); rotate_left; focus (first | (simp; done) | (simp; omega))) | (with_reducible refine Bk.below ?_ (by with_reducible assumption)))); obtain ⟨kcP2, kfP2, kaP2, kgP2, klP2⟩ := kP2.rules
  go_wp2
  refine bodyPost_ret (v := _) ?_ rfl ⟨rfl, (by repeat (first | (with_reducible exact Below.refl _ _) | (with_reducible refine balloc ?_ _) | (with_reducible refine Below.drew ?_) | (with_reducible refine bdrewN ?_ _) | ((with_reducible refine bset ?_ ?_ _); rotate_left; focus (first | (with_reducible exact Nat.le_refl _) | (simp; done) | (simp; omega) | omega)) | (with_reducible refine bstep (by with_reducible assumption) ?_)))⟩
  simp [results, Tryz.results27, go_sem, kcP2]
end Go.Proofs.YtnefnnhnjmmebaaGreat
