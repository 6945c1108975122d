/-
  The walk of grisaille/grisailleref30.LerpMask.
-/
import Derived.Test.YtnefnnhnjmmebaaGreatBmLm
import Derived.Test.YtnefnnhnjmmebaaGreatBm7
import Derived.Test.YtnefnnhnjmmebaaGreatLerp
import Derived.Test.YtnefnnhnjmmebaaGreatBmBo
namespace Go.Proofs.YtnefnnhnjmmebaaGreat
open Go.RowKit
set_option linter.unusedSimpArgs false
set_option linter.unusedVariables false

set_option maxHeartbeats 12800000 in
theorem rlm_any (s d : Bm) (m : Mk) (w : World) (hs : s.ok w) (hd : d.ok w) (hm : m.ok w) (hns : s.n ≤ 4000000000) (hnd : d.n ≤ 4000000000) (hnm : m.n ≤ 4000000000) :
    Calls Tryz.prog 10 #[.agg #[.int .i64 s.r.x0, .int .i64 s.r.y0, .int .i64 s.r.x1, .int .i64 s.r.y1, .slice s.A s.n s.c], .agg #[.int .i64 d.r.x0, .int .i64 d.r.y0, .int .i64 d.r.x1, .int .i64 d.r.y1, .slice d.A d.n d.c], .agg #[.int .i64 m.r.x0, .int .i64 m.r.y0, .int .i64 m.r.x1, .int .i64 m.r.y1, .slice m.A m.n m.c]] w (RetBE (lmR s d m) (lmL s d m) (lmE s d m) w) := by
  have HS := Lib.hid hs
  have HD := Lib.hid hd
  have HM := Lib.hid hm
  clear hs hd hm
  cases hs : vBm s with
  | false =>
    have hv : lmV s d m = false := by unfold lmV; rw [hs]; rfl
    have e1 : lmR s d m = ⟨0, 0, 0, 0⟩ := by unfold lmR; rw [hv]; rfl
    have e2 : lmL s d m = [] := by unfold lmL; rw [hv]; rfl
    have e3 : lmE s d m = 15 := by unfold lmE; rw [hs]; rfl
    rw [e1, e2, e3]
    clear e1 e2 e3 hv
    have Hvs : Hid (bmValid s.r s.l = false) := hs
    clear hs
    go_enter Tryz.func10, Tryz.ntmps10
    go_wp2_with fail
    refine (rbvalid_any s.r s.A s.n s.c s.l _ (HS.out.rd.below (by repeat (first | (with_reducible exact Below.refl _ _) | (with_reducible refine balloc ?_ _) | (with_reducible refine Below.drew ?_) | (with_reducible refine bdrewN ?_ _) | ((with_reducible refine bset ?_ ?_ _); rotate_left; focus (first | (with_reducible exact Nat.le_refl _) | (simp; done) | (simp; omega) | omega)) | (with_reducible refine bstep (by with_reducible assumption) ?_)))) HS.out.ln hns false Hvs).mono ?_
    rintro e w1 ⟨rfl, hb1⟩
    have kO1 : Bk w1 (w.heap.size + 1 + 1 + 1) 26 #[.int .i64 0, .int .i64 0, .int .i64 0, .int .i64 0, .slice none 0 0] := (by repeat (first | (with_reducible assumption) | ((with_reducible refine Bk.new _ _ _ ?_); first | (with_reducible rfl) | (simp; done)) | (with_reducible refine Bk.alloc ?_ _) | (with_reducible refine Bk.drew ?_) | (with_reducible refine Bk.drewN ?_ _) | ((with_reducible refine Bk.far ?_ ?_ _); rotate_left; focus (first | (simp; done) | (simp; omega))) | (with_reducible refine Bk.below ?_ (by with_reducible assumption)))); obtain ⟨kcO1, kfO1, kaO1, kgO1, klO1⟩ := kO1.rules
    go_wp2
    refine bodyPost_ret (v := _) ?_ rfl (RetBE.no 15 (by repeat (first | (with_reducible exact Below.refl _ _) | (with_reducible refine balloc ?_ _) | (with_reducible refine Below.drew ?_) | (with_reducible refine bdrewN ?_ _) | ((with_reducible refine bset ?_ ?_ _); rotate_left; focus (first | (with_reducible exact Nat.le_refl _) | (simp; done) | (simp; omega) | omega)) | (with_reducible refine bstep (by with_reducible assumption) ?_))))
    simp [results, Tryz.results10, go_sem, kcO1]
  | true =>
    cases hd : vBm d with
    | false =>
      have hv : lmV s d m = false := by unfold lmV; rw [hs, hd]; rfl
      have e1 : lmR s d m = ⟨0, 0, 0, 0⟩ := by unfold lmR; rw [hv]; rfl
      have e2 : lmL s d m = [] := by unfold lmL; rw [hv]; rfl
      have e3 : lmE s d m = 15 := by unfold lmE; rw [hs, hd]; rfl
      rw [e1, e2, e3]
      clear e1 e2 e3 hv
      have Hvs : Hid (bmValid s.r s.l = true) := hs
      have Hvd : Hid (bmValid d.r d.l = false) := hd
      clear hs hd
      go_enter Tryz.func10, Tryz.ntmps10
      go_wp2_with fail
      refine (rbvalid_any s.r s.A s.n s.c s.l _ (HS.out.rd.below (by repeat (first | (with_reducible exact Below.refl _ _) | (with_reducible refine balloc ?_ _) | (with_reducible refine Below.drew ?_) | (with_reducible refine bdrewN ?_ _) | ((with_reducible refine bset ?_ ?_ _); rotate_left; focus (first | (with_reducible exact Nat.le_refl _) | (simp; done) | (simp; omega) | omega)) | (with_reducible refine bstep (by with_reducible assumption) ?_)))) HS.out.ln hns true Hvs).mono ?_
      rintro e w1 ⟨rfl, hb1⟩
      have kD1 : Bk w1 (w.heap.size + 1) 26 #[.int .i64 d.r.x0, .int .i64 d.r.y0, .int .i64 d.r.x1, .int .i64 d.r.y1, .slice d.A d.n d.c] := (by repeat (first | (with_reducible assumption) | ((with_reducible refine Bk.new _ _ _ ?_); first | (with_reducible rfl) | (simp; done)) | (with_reducible refine Bk.alloc ?_ _) | (with_reducible refine Bk.drew ?_) | (with_reducible refine Bk.drewN ?_ _) | ((with_reducible refine Bk.far ?_ ?_ _); rotate_left; focus (first | (simp; done) | (simp; omega))) | (with_reducible refine Bk.below ?_ (by with_reducible assumption)))); obtain ⟨kcD1, kfD1, kaD1, kgD1, klD1⟩ := kD1.rules
      go_wp2_with fail
      refine (rbvalid_any d.r d.A d.n d.c d.l _ (HD.out.rd.below (by repeat (first | (with_reducible exact Below.refl _ _) | (with_reducible refine balloc ?_ _) | (with_reducible refine Below.drew ?_) | (with_reducible refine bdrewN ?_ _) | ((with_reducible refine bset ?_ ?_ _); rotate_left; focus (first | (with_reducible exact Nat.le_refl _) | (simp; done) | (simp; omega) | omega)) | (with_reducible refine bstep (by with_reducible assumption) ?_)))) HD.out.ln hnd false Hvd).mono ?_
      rintro e w2 ⟨rfl, hb2⟩
      clear kcD1 kfD1 kaD1 kgD1
      have kO2 : Bk w2 (w.heap.size + 1 + 1 + 1) 26 #[.int .i64 0, .int .i64 0, .int .i64 0, .int .i64 0, .slice none 0 0] := (by repeat (first | (with_reducible assumption) | ((with_reducible refine Bk.new _ _ _ ?_); first | (with_reducible rfl) | (simp; done)) | (with_reducible refine Bk.alloc ?_ _) | (with_reducible refine Bk.drew ?_) | (with_reducible refine Bk.drewN ?_ _) | ((with_reducible refine Bk.far ?_ ?_ _); rotate_left; focus (first | (simp; done) | (simp; omega))) | (with_reducible refine Bk.below ?_ (by with_reducible assumption)))); obtain ⟨kcO2, kfO2, kaO2, kgO2, klO2⟩ := kO2.rules
      go_wp2
      refine bodyPost_ret (v := _) ?_ rfl (RetBE.no 15 (by repeat (first | (with_reducible exact Below.refl _ _) | (with_reducible refine balloc ?_ _) | (with_reducible refine Below.drew ?_) | (with_reducible refine bdrewN ?_ _) | ((with_reducible refine bset ?_ ?_ _); rotate_left; focus (first | (with_reducible exact Nat.le_refl _) | (simp; done) | (simp; omega) | omega)) | (with_reducible refine bstep (by with_reducible assumption) ?_))))
      simp [results, Tryz.results10, go_sem, kcO2]
    | true =>
      cases hmv : vMk m with
      | false =>
        have hv : lmV s d m = false := by unfold lmV; rw [hs, hd, hmv]; rfl
        have e1 : lmR s d m = ⟨0, 0, 0, 0⟩ := by unfold lmR; rw [hv]; rfl
        have e2 : lmL s d m = [] := by unfold lmL; rw [hv]; rfl
        have e3 : lmE s d m = 14 := by unfold lmE; rw [hs, hd, hmv]; rfl
        rw [e1, e2, e3]
        clear e1 e2 e3 hv
        have Hvs : Hid (bmValid s.r s.l = true) := hs
        have Hvd : Hid (bmValid d.r d.l = true) := hd
        have Hvm : Hid (mkValid m.r m.l = false) := hmv
        clear hs hd hmv
        go_enter Tryz.func10, Tryz.ntmps10
        go_wp2_with fail
        refine (rbvalid_any s.r s.A s.n s.c s.l _ (HS.out.rd.below (by repeat (first | (with_reducible exact Below.refl _ _) | (with_reducible refine balloc ?_ _) | (with_reducible refine Below.drew ?_) | (with_reducible refine bdrewN ?_ _) | ((with_reducible refine bset ?_ ?_ _); rotate_left; focus (first | (with_reducible exact Nat.le_refl _) | (simp; done) | (simp; omega) | omega)) | (with_reducible refine bstep (by with_reducible assumption) ?_)))) HS.out.ln hns true Hvs).mono ?_
        rintro e w1 ⟨rfl, hb1⟩
        have kD1 : Bk w1 (w.heap.size + 1) 26 #[.int .i64 d.r.x0, .int .i64 d.r.y0, .int .i64 d.r.x1, .int .i64 d.r.y1, .slice d.A d.n d.c] := (by repeat (first | (with_reducible assumption) | ((with_reducible refine Bk.new _ _ _ ?_); first | (with_reducible rfl) | (simp; done)) | (with_reducible refine Bk.alloc ?_ _) | (with_reducible refine Bk.drew ?_) | (with_reducible refine Bk.drewN ?_ _) | ((with_reducible refine Bk.far ?_ ?_ _); rotate_left; focus (first | (simp; done) | (simp; omega))) | (with_reducible refine Bk.below ?_ (by with_reducible assumption)))); obtain ⟨kcD1, kfD1, kaD1, kgD1, klD1⟩ := kD1.rules
        go_wp2_with fail
        refine (rbvalid_any d.r d.A d.n d.c d.l _ (HD.out.rd.below (by repeat (first | (with_reducible exact Below.refl _ _) | (with_reducible refine balloc ?_ _) | (with_reducible refine Below.drew ?_) | (with_reducible refine bdrewN ?_ _) | ((with_reducible refine bset ?_ ?_ _); rotate_left; focus (first | (with_reducible exact Nat.le_refl _) | (simp; done) | (simp; omega) | omega)) | (with_reducible refine bstep (by with_reducible assumption) ?_)))) HD.out.ln hnd true Hvd).mono ?_
        rintro e w2 ⟨rfl, hb2⟩
        clear kcD1 kfD1 kaD1 kgD1
        have kM2 : Bk w2 (w.heap.size + 1 + 1) 29 #[.int .i64 m.r.x0, .int .i64 m.r.y0, .int .i64 m.r.x1, .int .i64 m.r.y1, .slice m.A m.n m.c] := (by repeat (first | (with_reducible assumption) | ((with_reducible refine Bk.new _ _ _ ?_); first | (with_reducible rfl) | (simp; done)) | (with_reducible refine Bk.alloc ?_ _) | (with_reducible refine Bk.drew ?_) | (with_reducible refine Bk.drewN ?_ _) | ((with_reducible refine Bk.far ?_ ?_ _); rotate_left; focus (first | (simp; done) | (simp; omega))) | (with_reducible refine Bk.below ?_ (by with_reducible assumption)))); obtain ⟨kcM2, kfM2, kaM2, kgM2, klM2⟩ := kM2.rules
        go_wp2_with fail
        refine (rmvalid_any m.r m.A m.n m.c m.l _ (HM.out.rd.below (by repeat (first | (with_reducible exact Below.refl _ _) | (with_reducible refine balloc ?_ _) | (with_reducible refine Below.drew ?_) | (with_reducible refine bdrewN ?_ _) | ((with_reducible refine bset ?_ ?_ _); rotate_left; focus (first | (with_reducible exact Nat.le_refl _) | (simp; done) | (simp; omega) | omega)) | (with_reducible refine bstep (by with_reducible assumption) ?_)))) HM.out.ln hnm false Hvm).mono ?_
        rintro e w3 ⟨rfl, hb3⟩
        clear kcM2 kfM2 kaM2 kgM2
        have kO3 : Bk w3 (w.heap.size + 1 + 1 + 1) 26 #[.int .i64 0, .int .i64 0, .int .i64 0, .int .i64 0, .slice none 0 0] := (by repeat (first | (with_reducible assumption) | ((with_reducible refine Bk.new _ _ _ ?_); first | (with_reducible rfl) | (simp; done)) | (with_reducible refine Bk.alloc ?_ _) | (with_reducible refine Bk.drew ?_) | (with_reducible refine Bk.drewN ?_ _) | ((with_reducible refine Bk.far ?_ ?_ _); rotate_left; focus (first | (simp; done) | (simp; omega))) | (with_reducible refine Bk.below ?_ (by with_reducible assumption)))); obtain ⟨kcO3, kfO3, kaO3, kgO3, klO3⟩ := kO3.rules
        go_wp2
        refine bodyPost_ret (v := _) ?_ rfl (RetBE.no 14 (by repeat (first | (with_reducible exact Below.refl _ _) | (with_reducible refine balloc ?_ _) | (with_reducible refine Below.drew ?_) | (with_reducible refine bdrewN ?_ _) | ((with_reducible refine bset ?_ ?_ _); rotate_left; focus (first | (with_reducible exact Nat.le_refl _) | (simp; done) | (simp; omega) | omega)) | (with_reducible refine bstep (by with_reducible assumption) ?_))))
        simp [results, Tryz.results10, go_sem, kcO3]
      | true =>
        have HSn : Hid ((s.n : Int) = areaR s.r) := by unfold Hid; rw [← HS.out.ln]; exact (valid_cn hs).2.1
        have HDn : Hid ((d.n : Int) = areaR d.r) := by unfold Hid; rw [← HD.out.ln]; exact (valid_cn hd).2.1
        have HMn : Hid ((m.n : Int) = areaR m.r) := by unfold Hid; rw [← HM.out.ln]; exact (mk_cn hmv).2.1
        have HDC : Hid (canonR s.r = s.r) := (valid_cn hs).1
        have hv : lmV s d m = true := by unfold lmV; rw [hs, hd, hmv]; rfl
        obtain ⟨g, Hg⟩ : ∃ g, Hid (lmG s d m = g) := ⟨_, rfl⟩
        have e1 : lmR s d m = s.r := by unfold lmR; rw [hv]; rfl
        have e2 : lmL s d m = pixL g s.r := by unfold lmL; rw [hv, Hg.out]; rfl
        have e3 : lmE s d m = 0 := by unfold lmE; rw [hs, hd, hmv]; rfl
        rw [e1, e2, e3]
        clear e1 e2 e3 hv
        have Hvs : Hid (bmValid s.r s.l = true) := hs
        have Hvd : Hid (bmValid d.r d.l = true) := hd
        have Hvm : Hid (mkValid m.r m.l = true) := hmv
        clear hs hd hmv
        go_enter Tryz.func10, Tryz.ntmps10
        go_wp2_with fail
        refine (rbvalid_any s.r s.A s.n s.c s.l _ (HS.out.rd.below (by repeat (first | (with_reducible exact Below.refl _ _) | (with_reducible refine balloc ?_ _) | (with_reducible refine Below.drew ?_) | (with_reducible refine bdrewN ?_ _) | ((with_reducible refine bset ?_ ?_ _); rotate_left; focus (first | (with_reducible exact Nat.le_refl _) | (simp; done) | (simp; omega) | omega)) | (with_reducible refine bstep (by with_reducible assumption) ?_)))) HS.out.ln hns true Hvs).mono ?_
        rintro e w1 ⟨rfl, hb1⟩
        have kD1 : Bk w1 (w.heap.size + 1) 26 #[.int .i64 d.r.x0, .int .i64 d.r.y0, .int .i64 d.r.x1, .int .i64 d.r.y1, .slice d.A d.n d.c] := (by repeat (first | (with_reducible assumption) | ((with_reducible refine Bk.new _ _ _ ?_); first | (with_reducible rfl) | (simp; done)) | (with_reducible refine Bk.alloc ?_ _) | (with_reducible refine Bk.drew ?_) | (with_reducible refine Bk.drewN ?_ _) | ((with_reducible refine Bk.far ?_ ?_ _); rotate_left; focus (first | (simp; done) | (simp; omega))) | (with_reducible refine Bk.below ?_ (by with_reducible assumption)))); obtain ⟨kcD1, kfD1, kaD1, kgD1, klD1⟩ := kD1.rules
        go_wp2_with fail
        refine (rbvalid_any d.r d.A d.n d.c d.l _ (HD.out.rd.below (by repeat (first | (with_reducible exact Below.refl _ _) | (with_reducible refine balloc ?_ _) | (with_reducible refine Below.drew ?_) | (with_reducible refine bdrewN ?_ _) | ((with_reducible refine bset ?_ ?_ _); rotate_left; focus (first | (with_reducible exact Nat.le_refl _) | (simp; done) | (simp; omega) | omega)) | (with_reducible refine bstep (by with_reducible assumption) ?_)))) HD.out.ln hnd true Hvd).mono ?_
        rintro e w2 ⟨rfl, hb2⟩
        clear kcD1 kfD1 kaD1 kgD1
        have kM2 : Bk w2 (w.heap.size + 1 + 1) 29 #[.int .i64 m.r.x0, .int .i64 m.r.y0, .int .i64 m.r.x1, .int .i64 m.r.y1, .slice m.A m.n m.c] := (by repeat (first | (with_reducible assumption) | ((with_reducible refine Bk.new _ _ _ ?_); first | (with_reducible rfl) | (simp; done)) | (with_reducible refine Bk.alloc ?_ _) | (with_reducible refine Bk.drew ?_) | (with_reducible refine Bk.drewN ?_ _) | ((with_reducible refine Bk.far ?_ ?_ _); rotate_left; focus (first | (simp; done) | (simp; omega))) | (with_reducible refine Bk.below ?_ (by with_reducible assumption)))); obtain ⟨kcM2, kfM2, kaM2, kgM2, klM2⟩ := kM2.rules
        go_wp2_with fail
        refine (rmvalid_any m.r m.A m.n m.c m.l _ (HM.out.rd.below (by repeat (first | (with_reducible exact Below.refl _ _) | (with_reducible refine balloc ?_ _) | (with_reducible refine Below.drew ?_) | (with_reducible refine bdrewN ?_ _) | ((with_reducible refine bset ?_ ?_ _); rotate_left; focus (first | (with_reducible exact Nat.le_refl _) | (simp; done) | (simp; omega) | omega)) | (with_reducible refine bstep (by with_reducible assumption) ?_)))) HM.out.ln hnm true Hvm).mono ?_
        rintro e w3 ⟨rfl, hb3⟩
        clear kcM2 kfM2 kaM2 kgM2
        have kS3 : Bk w3 (w.heap.size) 26 #[.int .i64 s.r.x0, .int .i64 s.r.y0, .int .i64 s.r.x1, .int .i64 s.r.y1, .slice s.A s.n s.c] := (by repeat (first | (with_reducible assumption) | ((with_reducible refine Bk.new _ _ _ ?_); first | (with_reducible rfl) | (simp; done)) | (with_reducible refine Bk.alloc ?_ _) | (with_reducible refine Bk.drew ?_) | (with_reducible refine Bk.drewN ?_ _) | ((with_reducible refine Bk.far ?_ ?_ _); rotate_left; focus (first | (simp; done) | (simp; omega))) | (with_reducible refine Bk.below ?_ (by with_reducible assumption)))); obtain ⟨kcS3, kfS3, kaS3, kgS3, klS3⟩ := kS3.rules; have kD3 : Bk w3 (w.heap.size + 1) 26 #[.int .i64 d.r.x0, .int .i64 d.r.y0, .int .i64 d.r.x1, .int .i64 d.r.y1, .slice d.A d.n d.c] := (by repeat (first | (with_reducible assumption) | ((with_reducible refine Bk.new _ _ _ ?_); first | (with_reducible rfl) | (simp; done)) | (with_reducible refine Bk.alloc ?_ _) | (with_reducible refine Bk.drew ?_) | (with_reducible refine Bk.drewN ?_ _) | ((with_reducible refine Bk.far ?_ ?_ _); rotate_left; focus (first | (simp; done) | (simp; omega))) | (with_reducible refine Bk.below ?_ (by with_reducible assumption)))); obtain ⟨kcD3, kfD3, kaD3, kgD3, klD3⟩ := kD3.rules; have kM3 : Bk w3 (w.heap.size + 1 + 1) 29 #[.int .i64 m.r.x0, .int .i64 m.r.y0, .int .i64 m.r.x1, .int .i64 m.r.y1, .slice m.A m.n m.c] := (by repeat (first | (with_reducible assumption) | ((with_reducible refine Bk.new _ _ _ ?_); first | (with_reducible rfl) | (simp; done)) | (with_reducible refine Bk.alloc ?_ _) | (with_reducible refine Bk.drew ?_) | (with_reducible refine Bk.drewN ?_ _) | ((with_reducible refine Bk.far ?_ ?_ _); rotate_left; focus (first | (simp; done) | (simp; omega))) | (with_reducible refine Bk.below ?_ (by with_reducible assumption)))); obtain ⟨kcM3, kfM3, kaM3, kgM3, klM3⟩ := kM3.rules; have kO3 : Bk w3 (w.heap.size + 1 + 1 + 1) 26 #[.int .i64 0, .int .i64 0, .int .i64 0, .int .i64 0, .slice none 0 0] := (by repeat (first | (with_reducible assumption) | ((with_reducible refine Bk.new _ _ _ ?_); first | (with_reducible rfl) | (simp; done)) | (with_reducible refine Bk.alloc ?_ _) | (with_reducible refine Bk.drew ?_) | (with_reducible refine Bk.drewN ?_ _) | ((with_reducible refine Bk.far ?_ ?_ _); rotate_left; focus (first | (simp; done) | (simp; omega))) | (with_reducible refine Bk.below ?_ (by with_reducible assumption)))); obtain ⟨kcO3, kfO3, kaO3, kgO3, klO3⟩ := kO3.rules
        have sz3 := kO3.lt
        have hB3 : Below w.heap.size w w3 := (by repeat (first | (with_reducible exact Below.refl _ _) | (with_reducible refine balloc ?_ _) | (with_reducible refine Below.drew ?_) | (with_reducible refine bdrewN ?_ _) | ((with_reducible refine bset ?_ ?_ _); rotate_left; focus (first | (with_reducible exact Nat.le_refl _) | (simp; done) | (simp; omega) | omega)) | (with_reducible refine bstep (by with_reducible assumption) ?_)))
        clear hb1 hb2 hb3
        have hcb := canon_bd s.r
        rw [HDC.out] at hcb
        obtain ⟨⟨bx0, bx1, bx2⟩, ⟨by0, by1, by2⟩⟩ := hcb
        obtain ⟨wd, hwd⟩ : ∃ n : Nat, s.r.x1 - s.r.x0 = (n : Int) := ⟨(s.r.x1 - s.r.x0).toNat, by omega⟩
        obtain ⟨ht, hht⟩ : ∃ n : Nat, s.r.y1 - s.r.y0 = (n : Int) := ⟨(s.r.y1 - s.r.y0).toNat, by omega⟩
        have hw1 : s.r.x1 ≤ s.r.x0 + wd ∧ s.r.x0 + wd ≤ s.r.x1 := by omega
        have hh1 : s.r.y1 ≤ s.r.y0 + ht ∧ s.r.y0 + ht ≤ s.r.y1 := by omega
        have hPL : pixL g (s.r) = madeL g s.r.x0 s.r.y0 wd ht := by unfold pixL; rw [hwd, hht, Int.toNat_natCast, Int.toNat_natCast]
        have HPL := Lib.hid hPL
        have hwl : wd ≤ 8192 := by omega
        have hhl : ht ≤ 8192 := by omega
        clear hwd hht hPL
        go_wp2_with fail
        clear kcS3 kfS3 kaS3 kgS3 kcD3 kfD3 kaD3 kgD3 kcM3 kfM3 kaM3 kgM3 kcO3 kfO3 kaO3 kgO3
        go_loopw [9] (fun i wr => ∃ (j : Nat) (v : Value), j ≤ ht ∧ i = .int .i64 (s.r.y0 + j) ∧ Bk wr (w.heap.size) 26 #[.int .i64 s.r.x0, .int .i64 s.r.y0, .int .i64 s.r.x1, .int .i64 s.r.y1, .slice s.A s.n s.c] ∧ Bk wr (w.heap.size + 1) 26 #[.int .i64 d.r.x0, .int .i64 d.r.y0, .int .i64 d.r.x1, .int .i64 d.r.y1, .slice d.A d.n d.c] ∧ Bk wr (w.heap.size + 1 + 1) 29 #[.int .i64 m.r.x0, .int .i64 m.r.y0, .int .i64 m.r.x1, .int .i64 m.r.y1, .slice m.A m.n m.c] ∧ Bk wr (w.heap.size + 1 + 1 + 1) 26 #[.int .i64 0, .int .i64 0, .int .i64 0, .int .i64 0, .slice none 0 0] ∧ Bk wr (w3.heap.size) 26 #[.int .i64 s.r.x0, .int .i64 s.r.y0, .int .i64 s.r.x1, .int .i64 s.r.y1, v] ∧ OwnL encP 45 4 wr (w3.heap.size) v (madeL g s.r.x0 s.r.y0 wd j) ∧ Below w.heap.size w wr) (fun i _ => (s.r.y1 - intOf i).toNat)
        case atStart => exact ⟨0, _, Nat.zero_le _, by simp, kS3.alloc _, kD3.alloc _, kM3.alloc _, kO3.alloc _, Bk.new _ _ _ rfl, OwnL.nil _ _, (by repeat (first | (with_reducible exact Below.refl _ _) | (with_reducible refine balloc ?_ _) | (with_reducible refine Below.drew ?_) | (with_reducible refine bdrewN ?_ _) | ((with_reducible refine bset ?_ ?_ _); rotate_left; focus (first | (with_reducible exact Nat.le_refl _) | (simp; done) | (simp; omega) | omega)) | (with_reducible refine bstep (by with_reducible assumption) ?_)))⟩
        case round =>
          obtain ⟨j, v, hj, rfl, jS, jD, jM, jO, jB, ho, hbw⟩ := hrel
          obtain ⟨kcS, kfS, kaS, kgS, klS⟩ := jS.rules
          obtain ⟨kcD, kfD, kaD, kgD, klD⟩ := jD.rules
          obtain ⟨kcM, kfM, kaM, kgM, klM⟩ := jM.rules
          obtain ⟨kcO, kfO, kaO, kgO, klO⟩ := jO.rules
          obtain ⟨kcB, kfB, kaB, kgB, klB⟩ := jB.rules
          by_cases hlt : s.r.y0 + j < s.r.y1
          · go_wp2_with fail
            clear kcS kfS kaS kgS kcD kfD kaD kgD kcM kfM kaM kgM kcO kfO kaO kgO kcB kfB kaB kgB
            go_loopw [10] (fun i wr => ∃ (k : Nat) (u : Value), k ≤ wd ∧ i = .int .i64 (s.r.x0 + k) ∧ Bk wr (w.heap.size) 26 #[.int .i64 s.r.x0, .int .i64 s.r.y0, .int .i64 s.r.x1, .int .i64 s.r.y1, .slice s.A s.n s.c] ∧ Bk wr (w.heap.size + 1) 26 #[.int .i64 d.r.x0, .int .i64 d.r.y0, .int .i64 d.r.x1, .int .i64 d.r.y1, .slice d.A d.n d.c] ∧ Bk wr (w.heap.size + 1 + 1) 29 #[.int .i64 m.r.x0, .int .i64 m.r.y0, .int .i64 m.r.x1, .int .i64 m.r.y1, .slice m.A m.n m.c] ∧ Bk wr (w.heap.size + 1 + 1 + 1) 26 #[.int .i64 0, .int .i64 0, .int .i64 0, .int .i64 0, .slice none 0 0] ∧ Bk wr (w3.heap.size) 26 #[.int .i64 s.r.x0, .int .i64 s.r.y0, .int .i64 s.r.x1, .int .i64 s.r.y1, u] ∧ OwnL encP 45 4 wr (w3.heap.size) u (madeL g s.r.x0 s.r.y0 wd j ++ rowL g s.r.x0 (s.r.y0 + j) k) ∧ Below w.heap.size w wr) (fun i _ => (s.r.x1 - intOf i).toNat)
            case atStart => exact ⟨0, v, Nat.zero_le _, by simp, jS, jD, jM, jO, jB, by simpa [rowL] using ho, hbw⟩
            case round =>
              obtain ⟨k, u, hk, rfl, q0S, q0D, q0M, q0O, q0B, qu0, qB0⟩ := hrel
              obtain ⟨kcS, kfS, kaS, kgS, klS⟩ := q0S.rules
              obtain ⟨kcD, kfD, kaD, kgD, klD⟩ := q0D.rules
              obtain ⟨kcM, kfM, kaM, kgM, klM⟩ := q0M.rules
              obtain ⟨kcO, kfO, kaO, kgO, klO⟩ := q0O.rules
              obtain ⟨kcB, kfB, kaB, kgB, klB⟩ := q0B.rules
              by_cases hlx : s.r.x0 + k < s.r.x1
              · obtain ⟨p, Hp⟩ : ∃ p, Hid (g (s.r.x0 + k) (s.r.y0 + j) = p) := ⟨_, rfl⟩
                have hlen : (madeL g s.r.x0 s.r.y0 wd j ++ rowL g s.r.x0 (s.r.y0 + j) k).length ≤ 4294967296 := by
                  rw [List.length_append, madeL_len, rowL_len]
                  have : j * wd ≤ 8192 * 8192 := Nat.mul_le_mul (by omega) hwl
                  omega
                obtain ⟨ps, Hps⟩ : ∃ p, Hid (atL zP s.r s.l (s.r.x0 + k) (s.r.y0 + j) = p) := ⟨_, rfl⟩
                obtain ⟨pd, Hpd⟩ : ∃ p, Hid (atL zP d.r d.l (s.r.x0 + k) (s.r.y0 + j) = p) := ⟨_, rfl⟩
                obtain ⟨pm, Hpm⟩ : ∃ p, Hid (atL 0 m.r m.l (s.r.x0 + k) (s.r.y0 + j) = p) := ⟨_, rfl⟩
                have bs := atL_px (r := s.r) HS.out.byte (s.r.x0 + k) (s.r.y0 + j)
                have bd := atL_px (r := d.r) HD.out.byte (s.r.x0 + k) (s.r.y0 + j)
                have bm := atL_byte (r := m.r) HM.out.byte (s.r.x0 + k) (s.r.y0 + j)
                rw [Hps.out] at bs
                rw [Hpd.out] at bd
                rw [Hpm.out] at bm
                have BS := Lib.hid bs
                have BD := Lib.hid bd
                have Hpm2 : Hid ((if mkValid m.r m.l then atL 0 m.r m.l (s.r.x0 + k) (s.r.y0 + j) else 0) = pm) := by unfold Hid; rw [Hvm.out]; exact Hpm.out
                have Hp0 : Hid (lerpP ps pd pm = p) := by have h := Hp.out; rw [← Hg.out] at h; unfold lmG at h; rw [Hps.out, Hpd.out, Hpm.out] at h; exact h
                clear bs bd
                go_wp2_with fail
                clear kcS kfS kaS kgS kcD kfD kaD kgD kcM kfM kaM kgM kcO kfO kaO kgO kcB kfB kaB kgB
                have q1S := q0S.drew
                have q1D := q0D.drew
                have q1M := q0M.drew
                have q1O := q0O.drew
                have q1B := q0B.drew
                have qu1 := qu0.drew
                have qB1 := qB0.drew
                refine wp_region_go 18 [(0, true), (1, true), (2, true), (3, true), (4, true), (6, true), (7, true), (8, true), (10, true), (11, true), (12, true), (5, false), (9, false), (13, false), (14, false), (15, false), (16, false), (17, true)] (fun w' => Bk w' (w.heap.size) 26 #[.int .i64 s.r.x0, .int .i64 s.r.y0, .int .i64 s.r.x1, .int .i64 s.r.y1, .slice s.A s.n s.c] ∧ Bk w' (w.heap.size + 1) 26 #[.int .i64 d.r.x0, .int .i64 d.r.y0, .int .i64 d.r.x1, .int .i64 d.r.y1, .slice d.A d.n d.c] ∧ Bk w' (w.heap.size + 1 + 1) 29 #[.int .i64 m.r.x0, .int .i64 m.r.y0, .int .i64 m.r.x1, .int .i64 m.r.y1, .slice m.A m.n m.c] ∧ Bk w' (w.heap.size + 1 + 1 + 1) 26 #[.int .i64 0, .int .i64 0, .int .i64 0, .int .i64 0, .slice none 0 0] ∧ Bk w' (w3.heap.size) 26 #[.int .i64 s.r.x0, .int .i64 s.r.y0, .int .i64 s.r.x1, .int .i64 s.r.y1, u] ∧ Below w.heap.size w w') (by kernel_rfl) (by kernel_rfl) (fun c a d v w h => by cases d <;> exact h) ⟨q1S, q1D, q1M, q1O, q1B, qB1⟩ ?_
                repeat (first | (refine wpGo_pure (v := ?_) rfl rfl (fun w' hS => ?_) ?_; rotate_left; (· obtain ⟨kc0, kf0, ka0, kg0, kl0⟩ := Bk.rules hS.1; obtain ⟨kc1, kf1, ka1, kg1, kl1⟩ := Bk.rules hS.2.1; obtain ⟨kc2, kf2, ka2, kg2, kl2⟩ := Bk.rules hS.2.2.1; obtain ⟨kc3, kf3, ka3, kg3, kl3⟩ := Bk.rules hS.2.2.2.1; obtain ⟨kc4, kf4, ka4, kg4, kl4⟩ := Bk.rules hS.2.2.2.2.1; have hSB := hS.2.2.2.2.2; go_simp; exact rfl); (try simp only [Act.put, List.setIfInBounds_toArray, List.set_cons_zero, List.set_cons_succ])) | ((refine wpGo_skip rfl rfl ?_); (try simp only [Act.put, List.setIfInBounds_toArray, List.set_cons_zero, List.set_cons_succ])))
                refine wpGo_eff rfl (fun K hK => ?_)
                go_simp
                refine (pixat_any s.r s.A s.n s.c s.l _ _ _ (HS.out.rd.below qB1) HS.out.ln hns HSn.out ps Hps).mono ?_
                rintro e w11 ⟨rfl, hb11⟩
                have q2S := q1S.below hb11
                have q2D := q1D.below hb11
                have q2M := q1M.below hb11
                have q2O := q1O.below hb11
                have q2B := q1B.below hb11
                have qu2 := qu1.below hb11
                have qB2 := bstep hb11 qB1
                refine hK.out _ _ ⟨q2S, q2D, q2M, q2O, q2B, qB2⟩ (fun _ => ?_)
                clear hK K
                refine wpGo_eff rfl (fun K hK => ?_)
                go_simp
                refine (pixat_any d.r d.A d.n d.c d.l _ _ _ (HD.out.rd.below qB2) HD.out.ln hnd HDn.out pd Hpd).mono ?_
                rintro e w12 ⟨rfl, hb12⟩
                have q3S := q2S.below hb12
                have q3D := q2D.below hb12
                have q3M := q2M.below hb12
                have q3O := q2O.below hb12
                have q3B := q2B.below hb12
                have qu3 := qu2.below hb12
                have qB3 := bstep hb12 qB2
                refine hK.out _ _ ⟨q3S, q3D, q3M, q3O, q3B, qB3⟩ (fun _ => ?_)
                clear hK K
                refine wpGo_eff rfl (fun K hK => ?_)
                go_simp
                refine (rmAt_any m.r m.A m.n m.c m.l _ _ _ (HM.out.rd.below qB3) HM.out.ln hnm pm Hpm2).mono ?_
                rintro e w13 ⟨rfl, hb13⟩
                have q4S := q3S.below hb13
                have q4D := q3D.below hb13
                have q4M := q3M.below hb13
                have q4O := q3O.below hb13
                have q4B := q3B.below hb13
                have qu4 := qu3.below hb13
                have qB4 := bstep hb13 qB3
                refine hK.out _ _ ⟨q4S, q4D, q4M, q4O, q4B, qB4⟩ (fun _ => ?_)
                clear hK K
                refine wpGo_eff rfl (fun K hK => ?_)
                go_simp
                refine (rlerp_q ps pd pm p Hp0 _ BS.out BD.out bm.1 bm.2).mono ?_
                rintro e w14 ⟨rfl, hb14⟩
                have q5S := q4S.below hb14
                have q5D := q4D.below hb14
                have q5M := q4M.below hb14
                have q5O := q4O.below hb14
                have q5B := q4B.below hb14
                have qu5 := qu4.below hb14
                have qB5 := bstep hb14 qB4
                refine hK.out _ _ ⟨q5S, q5D, q5M, q5O, q5B, qB5⟩ (fun _ => ?_)
                clear hK K
                refine wpGo_eff rfl (fun K hK => ?_)
                go_simp
                have q6S := q5S.alloc (.cells #[.int .u8 p.r, .int .u8 p.g, .int .u8 p.b, .int .u8 p.a] 45)
                have q6D := q5D.alloc (.cells #[.int .u8 p.r, .int .u8 p.g, .int .u8 p.b, .int .u8 p.a] 45)
                have q6M := q5M.alloc (.cells #[.int .u8 p.r, .int .u8 p.g, .int .u8 p.b, .int .u8 p.a] 45)
                have q6O := q5O.alloc (.cells #[.int .u8 p.r, .int .u8 p.g, .int .u8 p.b, .int .u8 p.a] 45)
                have q6B := q5B.alloc (.cells #[.int .u8 p.r, .int .u8 p.g, .int .u8 p.b, .int .u8 p.a] 45)
                have qu6 := qu5.alloc (.cells #[.int .u8 p.r, .int .u8 p.g, .int .u8 p.b, .int .u8 p.a] 45)
                have qB6 := balloc qB5 (.cells #[.int .u8 p.r, .int .u8 p.g, .int .u8 p.b, .int .u8 p.a] 45)
                refine hK.out _ _ ⟨q6S, q6D, q6M, q6O, q6B, qB6⟩ (fun _ => ?_)
                clear hK K
                have hsz := qB6.size
                refine wpGo_effp rfl (fun K hK => ?_)
                refine wp_append_one encP_len encP_one 24 Tryz.infoPx rfl (by decide) (by decide) Tryz.underlying24 _ _ rfl (w3.heap.size) u _ rfl qu6 w14.heap.size p rfl (Bk.new _ _ _ (by first | rfl | simp)) rfl hlen (by first | (simp at hsz ⊢; omega) | (have h1 := q6B.lt; simp at hsz h1 ⊢; omega) | (have h1 := q6B.lt; simp at hsz ⊢; omega)) ?_
                intro v5 w5 ho5 hg5 hv5
                have q7S := q6S.grown hg5 (qu6.neBk q6S (by decide))
                have q7D := q6D.grown hg5 (qu6.neBk q6D (by decide))
                have q7M := q6M.grown hg5 (qu6.neBk q6M (by decide))
                have q7O := q6O.grown hg5 (qu6.neBk q6O (by decide))
                have q7B := q6B.grown hg5 (qu6.neBk q6B (by decide))
                have qu7 := ho5
                have qB7 := below_grown qu6 hg5 qB6 (by first | exact Nat.le_refl _ | omega)
                obtain ⟨g5, c5, hv5, _⟩ := hv5
                refine hK.out _ _ ⟨q7S, q7D, q7M, q7O, q7B, qB7⟩ (fun _ => ?_)
                clear hK K
                simp only [Act.put, List.setIfInBounds_toArray, List.set_cons_zero, List.set_cons_succ]
                repeat (first | (refine wpGo_pure (v := ?_) rfl rfl (fun w' hS => ?_) ?_; rotate_left; (· obtain ⟨kc0, kf0, ka0, kg0, kl0⟩ := Bk.rules hS.1; obtain ⟨kc1, kf1, ka1, kg1, kl1⟩ := Bk.rules hS.2.1; obtain ⟨kc2, kf2, ka2, kg2, kl2⟩ := Bk.rules hS.2.2.1; obtain ⟨kc3, kf3, ka3, kg3, kl3⟩ := Bk.rules hS.2.2.2.1; obtain ⟨kc4, kf4, ka4, kg4, kl4⟩ := Bk.rules hS.2.2.2.2.1; have hSB := hS.2.2.2.2.2; go_simp; exact rfl); (try simp only [Act.put, List.setIfInBounds_toArray, List.set_cons_zero, List.set_cons_succ])) | ((refine wpGo_skip rfl rfl ?_); (try simp only [Act.put, List.setIfInBounds_toArray, List.set_cons_zero, List.set_cons_succ])))
                refine wpGo_nil ?_
                simp only [List.drop_succ_cons, List.drop_zero]
                clear Hps Hpd Hpm Hpm2 Hp0 BS BD bm
                have HL : Hid (madeL g s.r.x0 s.r.y0 wd j ++ rowL g s.r.x0 (s.r.y0 + j) k ++ [p] = madeL g s.r.x0 s.r.y0 wd j ++ rowL g s.r.x0 (s.r.y0 + j) (k + 1)) := by
                  unfold Hid; rw [rowL_succ, Hp.out, List.append_assoc]
                rw [HL.out] at qu7
                obtain ⟨kc5, kf5, ka5, kg5, kl5⟩ := q7B.rules
                have mB : Bk _ (w3.heap.size) 26 #[.int .i64 s.r.x0, .int .i64 s.r.y0, .int .i64 s.r.x1, .int .i64 s.r.y1, v5] := q7B.set 4 v5
                have mS := q7S.far (p := ⟨w3.heap.size, 4, none⟩) (show w.heap.size ≠ w3.heap.size by omega) v5
                have mD := q7D.far (p := ⟨w3.heap.size, 4, none⟩) (show w.heap.size + 1 ≠ w3.heap.size by omega) v5
                have mM := q7M.far (p := ⟨w3.heap.size, 4, none⟩) (show w.heap.size + 1 + 1 ≠ w3.heap.size by omega) v5
                have mO := q7O.far (p := ⟨w3.heap.size, 4, none⟩) (show w.heap.size + 1 + 1 + 1 ≠ w3.heap.size by omega) v5
                have ho6 := qu7.setFar q7B (by decide) 4 v5
                have hB6 := bset qB7 (p := ⟨w3.heap.size, 4, none⟩) (show w.heap.size ≤ w3.heap.size by omega) v5
                clear HL q1S q1D q1M q1O q1B q2S q2D q2M q2O q2B q3S q3D q3M q3O q3B q4S q4D q4M q4O q4B q5S q5D q5M q5O q5B q6S q6D q6M q6O q6B q7S q7D q7M q7O q7B qu1 qu2 qu3 qu4 qu5 qu6 qB1 qB2 qB3 qB4 qB5 qB6 qB7
                generalize (madeL g s.r.x0 s.r.y0 wd j ++ rowL g s.r.x0 (s.r.y0 + (j : Int)) k).length + 1 = n5 at hv5
                subst hv5
                go_wp2
                go_roundw
                case rel => exact ⟨k + 1, _, by omega, by rw [show s.r.x0 + (k : Int) + 1 = s.r.x0 + ((k + 1 : Nat) : Int) by omega], mS, mD, mM, mO, mB, ho6, hB6⟩
                case measure => simp [intOf]; omega
              · obtain rfl : k = wd := by omega
                have hu' : OwnL encP 45 4 wr (w3.heap.size) u (madeL g s.r.x0 s.r.y0 k (j + 1)) := by rw [madeL_succ]; exact qu0
                go_wp2
                go_roundw
                case rel => exact ⟨j + 1, u, by omega, by rw [show s.r.y0 + (j : Int) + 1 = s.r.y0 + ((j + 1 : Nat) : Int) by omega], q0S, q0D, q0M, q0O, q0B, hu', qB0⟩
                case measure => simp [intOf]; omega
          · obtain rfl : j = ht := by omega
            have ho := ho.mono (show w.heap.size ≤ w3.heap.size by omega)
            obtain ⟨kc', kf', ka', kg', kl'⟩ := jO.rules
            obtain ⟨A0, c0', hv0, _, _⟩ := ho.form encP_len
            generalize (madeL g s.r.x0 s.r.y0 wd j).length = n0 at hv0
            subst hv0
            have o1 := ho.setFar jO (by decide) 0 (.int .i64 s.r.x0)
            have m1 := jO.set 0 (.int .i64 s.r.x0)
            have o2 := o1.setFar m1 (by decide) 1 (.int .i64 s.r.y0)
            have m2 := m1.set 1 (.int .i64 s.r.y0)
            have o3 := o2.setFar m2 (by decide) 2 (.int .i64 s.r.x1)
            have m3 := m2.set 2 (.int .i64 s.r.x1)
            have o4 := o3.setFar m3 (by decide) 3 (.int .i64 s.r.y1)
            have m4 := m3.set 3 (.int .i64 s.r.y1)
            have o5 := o4.setFar m4 (by decide) 4 (.slice A0 n0 c0')
            clear o1 o2 o3 o4 m1 m2 m3 m4
            rw [← HPL.out] at o5
            go_wp2
            refine bodyPost_ret (v := _) ?_ rfl ⟨_, rfl, o5, (by repeat (first | (with_reducible exact Below.refl _ _) | (with_reducible refine balloc ?_ _) | (with_reducible refine Below.drew ?_) | (with_reducible refine bdrewN ?_ _) | ((with_reducible refine bset ?_ ?_ _); rotate_left; focus (first | (with_reducible exact Nat.le_refl _) | (simp; done) | (simp; omega) | omega)) | (with_reducible refine bstep (by with_reducible assumption) ?_)))⟩
            simp [results, Tryz.results10, go_sem, kc']
end Go.Proofs.YtnefnnhnjmmebaaGreat
