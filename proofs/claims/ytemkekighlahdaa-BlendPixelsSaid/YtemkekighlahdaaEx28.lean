/-
  The walk of grisaillelaw28.exampleHolds.
-/
import Derived.Test.YtemkekighlahdaaBlendF
import Derived.Test.YtemkekighlahdaaPxEq
import Derived.Test.YtemkekighlahdaaNames
namespace Go.Proofs.Ytemkekighlahdaa
open Go.RowKit
set_option linter.unusedSimpArgs false
set_option linter.unusedVariables false


set_option maxHeartbeats 800000 in
theorem ex_any (w : World) : Calls Try.prog 20 #[] w fun e w' => e = .returned (.bool true) ∧ Below w.heap.size w w' := by
  have h1 : Hid (blendP 2 ⟨128, 128, 128, 255⟩ ⟨128, 128, 128, 255⟩ = ⟨64, 64, 64, 255⟩) := (eqP_iff _ _).1 (by decide +kernel)
  have h2 : Hid (modeN ⟨#[104, 97, 114, 100, 108, 105, 103, 104, 116]⟩ = 9) := modeN_name 9 (by omega) (by omega)
  have h3 : Hid (nameP 3 = ⟨#[115, 99, 114, 101, 101, 110]⟩) := by unfold Hid; decide +kernel
  have h4 : Hid (validModeB 1 = true) := by unfold Hid; decide +kernel
  have heq := fun w => (eql_px ⟨64, 64, 64, 255⟩ ⟨64, 64, 64, 255⟩ w).trans (by rw [eqP_refl])
  go_enter Try.func20, Try.ntmps20
  go_wp2_with fail
  refine (byname_any _ _).mono ?_
  rw [h2.out]
  rintro e w1 ⟨rfl, hb1⟩
  have kG1 : Bk w1 (w.heap.size) 29 #[.int .u8 128, .int .u8 128, .int .u8 128, .int .u8 255] := (by repeat (first | (with_reducible assumption) | ((with_reducible refine Bk.new _ _ _ ?_); first | (with_reducible rfl) | (simp; done)) | (with_reducible refine Bk.alloc ?_ _) | (with_reducible refine Bk.drew ?_) | (with_reducible refine Bk.drewN ?_ _) | ((with_reducible refine Bk.far ?_ ?_ _); rotate_left; focus (first | (simp; done) | (simp; omega))) | (with_reducible refine Bk.below ?_ (by with_reducible assumption)))); obtain ⟨kcG1, kfG1, kaG1, kgG1, klG1⟩ := kG1.rules
  go_wp2_with fail
  refine (blend_q 2 ⟨128, 128, 128, 255⟩ ⟨128, 128, 128, 255⟩ _ ⟨by decide, by decide, by decide, by decide, by decide, by decide, by decide, by decide⟩ ⟨by decide, by decide, by decide, by decide, by decide, by decide, by decide, by decide⟩ _ h1).mono ?_
  rintro e w2 ⟨rfl, hb2⟩
  go_wp2_with fail
  refine (name_any _ _).mono ?_
  rw [h3.out]
  rintro e w3 ⟨rfl, hb3⟩
  go_wp2_with fail
  refine (vmode_any _ _).mono ?_
  rw [h4.out]
  rintro e w4 ⟨rfl, rfl⟩
  go_wp2
  go_ret
  exact ⟨rfl, (by repeat (first | (with_reducible exact Below.refl _ _) | (with_reducible refine balloc ?_ _) | (with_reducible refine Below.drew ?_) | (with_reducible refine bdrewN ?_ _) | ((with_reducible refine bset ?_ ?_ _); rotate_left; focus (first | (with_reducible exact Nat.le_refl _) | (simp; done) | (simp; omega) | omega)) | (with_reducible refine bstep (by with_reducible assumption) ?_)))⟩
end Go.Proofs.Ytemkekighlahdaa
