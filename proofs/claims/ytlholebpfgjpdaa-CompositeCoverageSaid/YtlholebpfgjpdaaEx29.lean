/-
  The walk of grisaillelaw29.exampleHolds.
-/
import Derived.Test.YtlholebpfgjpdaaComp3
import Derived.Test.YtlholebpfgjpdaaOpen
namespace Go.Proofs.Ytlholebpfgjpdaa
open Go.RowKit
set_option linter.unusedSimpArgs false
set_option linter.unusedVariables false


def exS : Px := ⟨128, 0, 0, 128⟩
def exD : Px := ⟨0, 0, 255, 255⟩
def exR : Px := ⟨128, 0, 127, 255⟩
theorem exS_byte : exS.byte := ⟨by decide, by decide, by decide, by decide, by decide, by decide, by decide, by decide⟩
theorem exD_byte : exD.byte := ⟨by decide, by decide, by decide, by decide, by decide, by decide, by decide, by decide⟩
set_option maxHeartbeats 1600000 in
theorem ex_any (w : World) : Calls Try.prog 14 #[] w fun e w' => e = .returned (.bool true) ∧ Below w.heap.size w w' := by
  have h1 : Hid (facP 6 100 200 = (200, 155)) := by unfold Hid; decide +kernel
  have h2 : Hid (composeP 3 exS exD = ⟨128, 0, 127, 255⟩) := (eqP_iff _ _).1 (by decide +kernel)
  have h3 : Hid (bwcP 1 exS exD 255 = ⟨128, 0, 127, 255⟩) := (eqP_iff _ _).1 (by decide +kernel)
  have h4 : Hid (blendAllP 1 exD [exS] = ⟨128, 0, 127, 255⟩) := (eqP_iff _ _).1 (by decide +kernel)
  have h5 : Hid (composeP 7 exD exD = ⟨0, 0, 0, 0⟩) := (eqP_iff _ _).1 (by decide +kernel)
  have h6 : Hid (validOpB 10 = true) := by unfold Hid; decide +kernel
  have h7 : Hid (validOpB 0 = false) := by unfold Hid; decide +kernel
  have heq := fun w => (eql_px ⟨128, 0, 127, 255⟩ ⟨128, 0, 127, 255⟩ w).trans (by rw [eqP_refl])
  have heq2 := fun w => (eql_px ⟨0, 0, 0, 0⟩ ⟨0, 0, 0, 0⟩ w).trans (by rw [eqP_refl])
  go_enter Try.func14, Try.ntmps14
  go_wp2_with fail
  refine (factors_q 6 100 200 200 155 h1 _ (by omega) (by omega) (by omega) (by omega)).mono ?_
  rintro e w1 ⟨rfl, hb1⟩
  have kS1 : Bk w1 (w.heap.size) 29 #[.int .u8 128, .int .u8 0, .int .u8 0, .int .u8 128] := (by repeat (first | (with_reducible assumption) | ((with_reducible refine Bk.new _ _ _ ?_); first | (with_reducible rfl) | (simp; done)) | (with_reducible refine Bk.alloc ?_ _) | (with_reducible refine Bk.drew ?_) | (with_reducible refine Bk.drewN ?_ _) | ((with_reducible refine Bk.far ?_ ?_ _); rotate_left; focus (first | (simp; done) | (simp; omega))) | (with_reducible refine Bk.below ?_ (by with_reducible assumption)))); obtain ⟨kcS1, kfS1, kaS1, kgS1, klS1⟩ := kS1.rules; have kD1 : Bk w1 (w.heap.size + 1) 29 #[.int .u8 0, .int .u8 0, .int .u8 255, .int .u8 255] := (by repeat (first | (with_reducible assumption) | ((with_reducible refine Bk.new _ _ _ ?_); first | (with_reducible rfl) | (simp; done)) | (with_reducible refine Bk.alloc ?_ _) | (with_reducible refine Bk.drew ?_) | (with_reducible refine Bk.drewN ?_ _) | ((with_reducible refine Bk.far ?_ ?_ _); rotate_left; focus (first | (simp; done) | (simp; omega))) | (with_reducible refine Bk.below ?_ (by with_reducible assumption)))); obtain ⟨kcD1, kfD1, kaD1, kgD1, klD1⟩ := kD1.rules
  go_wp2_with fail
  refine (compose_q 3 exS exD _ exS_byte exD_byte ⟨128, 0, 127, 255⟩ h2).mono ?_
  rintro e w2 ⟨rfl, hb2⟩
  clear kcS1 kfS1 kaS1 kgS1 kcD1 kfD1 kaD1 kgD1
  go_wp2_with fail
  refine (validop_any _ _).mono ?_
  rw [h6.out]
  rintro e w3 ⟨rfl, hb3⟩
  go_wp2_with fail
  refine (validop_any _ _).mono ?_
  rw [h7.out]
  rintro e w4 ⟨rfl, hb4⟩
  have kS4 : Bk w4 (w.heap.size) 29 #[.int .u8 128, .int .u8 0, .int .u8 0, .int .u8 128] := (by repeat (first | (with_reducible assumption) | ((with_reducible refine Bk.new _ _ _ ?_); first | (with_reducible rfl) | (simp; done)) | (with_reducible refine Bk.alloc ?_ _) | (with_reducible refine Bk.drew ?_) | (with_reducible refine Bk.drewN ?_ _) | ((with_reducible refine Bk.far ?_ ?_ _); rotate_left; focus (first | (simp; done) | (simp; omega))) | (with_reducible refine Bk.below ?_ (by with_reducible assumption)))); obtain ⟨kcS4, kfS4, kaS4, kgS4, klS4⟩ := kS4.rules; have kD4 : Bk w4 (w.heap.size + 1) 29 #[.int .u8 0, .int .u8 0, .int .u8 255, .int .u8 255] := (by repeat (first | (with_reducible assumption) | ((with_reducible refine Bk.new _ _ _ ?_); first | (with_reducible rfl) | (simp; done)) | (with_reducible refine Bk.alloc ?_ _) | (with_reducible refine Bk.drew ?_) | (with_reducible refine Bk.drewN ?_ _) | ((with_reducible refine Bk.far ?_ ?_ _); rotate_left; focus (first | (simp; done) | (simp; omega))) | (with_reducible refine Bk.below ?_ (by with_reducible assumption)))); obtain ⟨kcD4, kfD4, kaD4, kgD4, klD4⟩ := kD4.rules
  go_wp2_with fail
  refine (bwc_q 1 exS exD 255 _ exS_byte exD_byte (by omega) (by omega) ⟨128, 0, 127, 255⟩ h3).mono ?_
  rintro e w5 ⟨rfl, hb5⟩
  clear kcS4 kfS4 kaS4 kgS4 kcD4 kfD4 kaD4 kgD4
  have kS5 : Bk w5 (w.heap.size) 29 #[.int .u8 128, .int .u8 0, .int .u8 0, .int .u8 128] := (by repeat (first | (with_reducible assumption) | ((with_reducible refine Bk.new _ _ _ ?_); first | (with_reducible rfl) | (simp; done)) | (with_reducible refine Bk.alloc ?_ _) | (with_reducible refine Bk.drew ?_) | (with_reducible refine Bk.drewN ?_ _) | ((with_reducible refine Bk.far ?_ ?_ _); rotate_left; focus (first | (simp; done) | (simp; omega))) | (with_reducible refine Bk.below ?_ (by with_reducible assumption)))); obtain ⟨kcS5, kfS5, kaS5, kgS5, klS5⟩ := kS5.rules; have kD5 : Bk w5 (w.heap.size + 1) 29 #[.int .u8 0, .int .u8 0, .int .u8 255, .int .u8 255] := (by repeat (first | (with_reducible assumption) | ((with_reducible refine Bk.new _ _ _ ?_); first | (with_reducible rfl) | (simp; done)) | (with_reducible refine Bk.alloc ?_ _) | (with_reducible refine Bk.drew ?_) | (with_reducible refine Bk.drewN ?_ _) | ((with_reducible refine Bk.far ?_ ?_ _); rotate_left; focus (first | (simp; done) | (simp; omega))) | (with_reducible refine Bk.below ?_ (by with_reducible assumption)))); obtain ⟨kcD5, kfD5, kaD5, kgD5, klD5⟩ := kD5.rules
  go_wp2_with fail
  refine (all_any 1 exD _ 1 _ [exS] _ exD_byte (fun p hp => by rw [List.mem_singleton.1 hp]; exact exS_byte) (rd_of_bk (e := 29) encP_len (Bk.new _ _ _ rfl) rfl) rfl (by omega) ⟨128, 0, 127, 255⟩ h4).mono ?_
  rintro e w6 ⟨rfl, hb6⟩
  clear kcS5 kfS5 kaS5 kgS5 kcD5 kfD5 kaD5 kgD5
  have kS6 : Bk w6 (w.heap.size) 29 #[.int .u8 128, .int .u8 0, .int .u8 0, .int .u8 128] := (by repeat (first | (with_reducible assumption) | ((with_reducible refine Bk.new _ _ _ ?_); first | (with_reducible rfl) | (simp; done)) | (with_reducible refine Bk.alloc ?_ _) | (with_reducible refine Bk.drew ?_) | (with_reducible refine Bk.drewN ?_ _) | ((with_reducible refine Bk.far ?_ ?_ _); rotate_left; focus (first | (simp; done) | (simp; omega))) | (with_reducible refine Bk.below ?_ (by with_reducible assumption)))); obtain ⟨kcS6, kfS6, kaS6, kgS6, klS6⟩ := kS6.rules; have kD6 : Bk w6 (w.heap.size + 1) 29 #[.int .u8 0, .int .u8 0, .int .u8 255, .int .u8 255] := (by repeat (first | (with_reducible assumption) | ((with_reducible refine Bk.new _ _ _ ?_); first | (with_reducible rfl) | (simp; done)) | (with_reducible refine Bk.alloc ?_ _) | (with_reducible refine Bk.drew ?_) | (with_reducible refine Bk.drewN ?_ _) | ((with_reducible refine Bk.far ?_ ?_ _); rotate_left; focus (first | (simp; done) | (simp; omega))) | (with_reducible refine Bk.below ?_ (by with_reducible assumption)))); obtain ⟨kcD6, kfD6, kaD6, kgD6, klD6⟩ := kD6.rules
  go_wp2_with fail
  refine (compose_q 7 exD exD _ exD_byte exD_byte ⟨0, 0, 0, 0⟩ h5).mono ?_
  rintro e w7 ⟨rfl, hb7⟩
  go_wp2
  go_ret
  exact ⟨rfl, (by repeat (first | (with_reducible exact Below.refl _ _) | (with_reducible refine balloc ?_ _) | (with_reducible refine Below.drew ?_) | (with_reducible refine bdrewN ?_ _) | ((with_reducible refine bset ?_ ?_ _); rotate_left; focus (first | (with_reducible exact Nat.le_refl _) | (simp; done) | (simp; omega) | omega)) | (with_reducible refine bstep (by with_reducible assumption) ?_)))⟩
end Go.Proofs.Ytlholebpfgjpdaa
