/-
  The walk of grisaillelaw21.exampleHolds.
-/
import Derived.Test.YtndablijjkchjaaMk2
import Derived.Test.YtndablijjkchjaaMk5
import Derived.Test.YtndablijjkchjaaMk6
namespace Go.Proofs.Ytndablijjkchjaa
open Go.RowKit
set_option linter.unusedSimpArgs false
set_option linter.unusedVariables false

def oneM (w : World) : Mk := ⟨⟨0, 0, 1, 1⟩, some ⟨w.heap.size, 0, none⟩, 1, 1, [128]⟩
theorem oneM_ok {w W : World} (h : Bk W w.heap.size 5 #[.int .u8 128]) : (oneM w).ok W :=
  ⟨rd_of_bk (e := 5) encB_len h rfl, rfl, (fun x hx => by rw [List.mem_singleton.1 hx]; omega), Nat.le_refl _, by show (1 : Nat) ≤ maxLen; unfold maxLen; omega⟩

set_option maxHeartbeats 3200000 in
theorem ex_any (w : World) : Calls Try.prog 14 #[] w fun e w' => e = .returned (.bool true) ∧ Below w.heap.size w w' := by
  have HU := Lib.hid (fun W h => munion_any (oneM w) (oneM w) W h h (by show (1 : Nat) ≤ _; omega) (by show (1 : Nat) ≤ _; omega))
  have HM := Lib.hid (fun A c W hr hnc hcm ho => mmul_any A 2 c [oneM w, oneM w] W hr rfl (by omega) hnc hcm ho (fun b hb => by
    have : b = oneM w := by rcases List.mem_cons.1 hb with h | h; exact h; exact List.mem_singleton.1 h
    rw [this]; show (1 : Nat) ≤ _; omega))
  have u1 : unMR (oneM w) (oneM w) = ⟨0, 0, 1, 1⟩ := rfl
  have u2 : unML (oneM w) (oneM w) = [192] := rfl
  have u3 : unME (oneM w) (oneM w) = 0 := rfl
  have m1 : mulR [oneM w, oneM w] = ⟨0, 0, 1, 1⟩ := rfl
  have m2 : mulL [oneM w, oneM w] = [64] := rfl
  have m3 : mulE [oneM w, oneM w] = 0 := rfl
  rw [u1, u2, u3] at HU
  rw [m1, m2, m3] at HM
  clear u1 u2 u3 m1 m2 m3
  go_enter Try.func14, Try.ntmps14
  go_wp2_with fail
  refine (HU.out _ (oneM_ok (by repeat (first | (with_reducible assumption) | ((with_reducible refine Bk.new _ _ _ ?_); first | (with_reducible rfl) | (simp; done)) | (with_reducible refine Bk.alloc ?_ _) | (with_reducible refine Bk.drew ?_) | (with_reducible refine Bk.drewN ?_ _) | ((with_reducible refine Bk.far ?_ ?_ _); rotate_left; focus (first | (simp; done) | (simp; omega))) | (with_reducible refine Bk.below ?_ (by with_reducible assumption)))))).mono ?_
  rintro e w1 ⟨v1, rfl, ho1, hb1⟩
  obtain ⟨A1, c1, hv1, hr1, _⟩ := ho1.form encB_len
  have hv1' : v1 = .slice A1 1 c1 := hv1
  subst hv1'
  have HR1 := Lib.hid hr1
  have kU1 : Bk w1 (w.heap.size) 5 #[.int .u8 128] := (by repeat (first | (with_reducible assumption) | ((with_reducible refine Bk.new _ _ _ ?_); first | (with_reducible rfl) | (simp; done)) | (with_reducible refine Bk.alloc ?_ _) | (with_reducible refine Bk.drew ?_) | (with_reducible refine Bk.drewN ?_ _) | ((with_reducible refine Bk.far ?_ ?_ _); rotate_left; focus (first | (simp; done) | (simp; omega))) | (with_reducible refine Bk.below ?_ (by with_reducible assumption))))
  clear hv1 ho1 hr1
  have kM1 : Bk w1 (w.heap.size + 1) 29 #[.int .i64 0, .int .i64 0, .int .i64 1, .int .i64 1, .slice (some ⟨w.heap.size, 0, none⟩) 1 1] := (by repeat (first | (with_reducible assumption) | ((with_reducible refine Bk.new _ _ _ ?_); first | (with_reducible rfl) | (simp; done)) | (with_reducible refine Bk.alloc ?_ _) | (with_reducible refine Bk.drew ?_) | (with_reducible refine Bk.drewN ?_ _) | ((with_reducible refine Bk.far ?_ ?_ _); rotate_left; focus (first | (simp; done) | (simp; omega))) | (with_reducible refine Bk.below ?_ (by with_reducible assumption)))); obtain ⟨kcM1, kfM1, kaM1, kgM1, klM1⟩ := kM1.rules
  go_wp2_with fail
  refine (HM.out _ _ _ (rd_of_bk (e := 29) encMk_len (Bk.new _ _ _ (by first | rfl | simp)) rfl) (by omega) (by unfold maxLen; omega) (fun b hb => by
    have : b = oneM w := by rcases List.mem_cons.1 hb with h | h; exact h; exact List.mem_singleton.1 h
    rw [this]; exact oneM_ok ((kU1.alloc _).alloc _))).mono ?_
  rintro e w2 ⟨v2, rfl, ho2, hb2⟩
  obtain ⟨A2, c2, hv2, hr2, _⟩ := ho2.form encB_len
  have hv2' : v2 = .slice A2 1 c2 := hv2
  subst hv2'
  have HR2 := Lib.hid hr2
  clear hv2 ho2 hr2 kcM1 kfM1 kaM1 kgM1
  have kM2 : Bk w2 (w.heap.size + 1) 29 #[.int .i64 0, .int .i64 0, .int .i64 1, .int .i64 1, .slice (some ⟨w.heap.size, 0, none⟩) 1 1] := (by repeat (first | (with_reducible assumption) | ((with_reducible refine Bk.new _ _ _ ?_); first | (with_reducible rfl) | (simp; done)) | (with_reducible refine Bk.alloc ?_ _) | (with_reducible refine Bk.drew ?_) | (with_reducible refine Bk.drewN ?_ _) | ((with_reducible refine Bk.far ?_ ?_ _); rotate_left; focus (first | (simp; done) | (simp; omega))) | (with_reducible refine Bk.below ?_ (by with_reducible assumption)))); obtain ⟨kcM2, kfM2, kaM2, kgM2, klM2⟩ := kM2.rules
  have k1 : Bk w2 w1.heap.size 29 #[.int .i64 0, .int .i64 0, .int .i64 1, .int .i64 1, .slice A1 1 c1] := (by repeat (first | (with_reducible assumption) | ((with_reducible refine Bk.new _ _ _ ?_); first | (with_reducible rfl) | (simp; done)) | (with_reducible refine Bk.alloc ?_ _) | (with_reducible refine Bk.drew ?_) | (with_reducible refine Bk.drewN ?_ _) | ((with_reducible refine Bk.far ?_ ?_ _); rotate_left; focus (first | (simp; done) | (simp; omega))) | (with_reducible refine Bk.below ?_ (by with_reducible assumption))))
  obtain ⟨kc1, kf1, ka1, kg1, kl1⟩ := k1.rules
  go_wp2_with fail
  refine (rmequal_any ⟨0, 0, 1, 1⟩ ⟨0, 0, 1, 1⟩ A1 _ 1 1 c1 1 [192] [192] _ (HR1.out.below (by repeat (first | (with_reducible exact Below.refl _ _) | (with_reducible refine balloc ?_ _) | (with_reducible refine Below.drew ?_) | (with_reducible refine bdrewN ?_ _) | ((with_reducible refine bset ?_ ?_ _); rotate_left; focus (first | (with_reducible exact Nat.le_refl _) | (simp; done) | (simp; omega) | omega)) | (with_reducible refine bstep (by with_reducible assumption) ?_)))) (rd_of_bk (e := 5) encB_len (Bk.new _ _ _ (by first | rfl | simp)) rfl) rfl rfl (by omega) (by omega) true ⟨fun _ => ⟨rfl, rfl⟩, fun _ => rfl⟩).mono ?_
  rintro e w3 ⟨rfl, hb3⟩
  clear kcM2 kfM2 kaM2 kgM2 kc1 kf1 ka1 kg1
  have kM3 : Bk w3 (w.heap.size + 1) 29 #[.int .i64 0, .int .i64 0, .int .i64 1, .int .i64 1, .slice (some ⟨w.heap.size, 0, none⟩) 1 1] := (by repeat (first | (with_reducible assumption) | ((with_reducible refine Bk.new _ _ _ ?_); first | (with_reducible rfl) | (simp; done)) | (with_reducible refine Bk.alloc ?_ _) | (with_reducible refine Bk.drew ?_) | (with_reducible refine Bk.drewN ?_ _) | ((with_reducible refine Bk.far ?_ ?_ _); rotate_left; focus (first | (simp; done) | (simp; omega))) | (with_reducible refine Bk.below ?_ (by with_reducible assumption)))); obtain ⟨kcM3, kfM3, kaM3, kgM3, klM3⟩ := kM3.rules
  have k2 : Bk w3 w2.heap.size 29 #[.int .i64 0, .int .i64 0, .int .i64 1, .int .i64 1, .slice A2 1 c2] := (by repeat (first | (with_reducible assumption) | ((with_reducible refine Bk.new _ _ _ ?_); first | (with_reducible rfl) | (simp; done)) | (with_reducible refine Bk.alloc ?_ _) | (with_reducible refine Bk.drew ?_) | (with_reducible refine Bk.drewN ?_ _) | ((with_reducible refine Bk.far ?_ ?_ _); rotate_left; focus (first | (simp; done) | (simp; omega))) | (with_reducible refine Bk.below ?_ (by with_reducible assumption))))
  obtain ⟨kc2, kf2, ka2, kg2, kl2⟩ := k2.rules
  go_wp2_with fail
  refine (rmequal_any ⟨0, 0, 1, 1⟩ ⟨0, 0, 1, 1⟩ A2 _ 1 1 c2 1 [64] [64] _ (HR2.out.below (by repeat (first | (with_reducible exact Below.refl _ _) | (with_reducible refine balloc ?_ _) | (with_reducible refine Below.drew ?_) | (with_reducible refine bdrewN ?_ _) | ((with_reducible refine bset ?_ ?_ _); rotate_left; focus (first | (with_reducible exact Nat.le_refl _) | (simp; done) | (simp; omega) | omega)) | (with_reducible refine bstep (by with_reducible assumption) ?_)))) (rd_of_bk (e := 5) encB_len (Bk.new _ _ _ (by first | rfl | simp)) rfl) rfl rfl (by omega) (by omega) true ⟨fun _ => ⟨rfl, rfl⟩, fun _ => rfl⟩).mono ?_
  rintro e w4 ⟨rfl, hb4⟩
  go_wp2
  go_ret
  exact ⟨rfl, (by repeat (first | (with_reducible exact Below.refl _ _) | (with_reducible refine balloc ?_ _) | (with_reducible refine Below.drew ?_) | (with_reducible refine bdrewN ?_ _) | ((with_reducible refine bset ?_ ?_ _); rotate_left; focus (first | (with_reducible exact Nat.le_refl _) | (simp; done) | (simp; omega) | omega)) | (with_reducible refine bstep (by with_reducible assumption) ?_)))⟩
end Go.Proofs.Ytndablijjkchjaa
