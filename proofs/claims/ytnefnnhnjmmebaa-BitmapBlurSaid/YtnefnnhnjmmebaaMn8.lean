/-
  The walks of intmath.MulNorm8 and grisailleref08.MulNorm8.
-/
import Derived.Test.YtnefnnhnjmmebaaIntm
import Derived.Test.YtnefnnhnjmmebaaPlA
namespace Go.Proofs.Ytnefnnhnjmmebaa
open Go.RowKit
set_option linter.unusedSimpArgs false
set_option linter.unusedVariables false

set_option maxHeartbeats 400000 in
theorem mn8_any (a b : Int) (w : World) (a0 : 0 ≤ a) (a1 : a ≤ 255) (b0 : 0 ≤ b) (b1 : b ≤ 255) :
    Calls Try.prog 110 #[.int .u8 a, .int .u8 b] w fun e w' => e = .returned (.int .u8 (mn8 a b)) ∧ Below w.heap.size w w' := by
  have e1 := mul_byte a0 a1 b0 b1
  have e2 := mn8_bd a0 a1 b0 b1
  have HC := Lib.hid (fun w => divround_pos (a * b) 255 w (by omega) (by omega) (by omega) (by omega))
  obtain ⟨n, Hn⟩ : ∃ n, Hid (mn8 a b = n) := ⟨_, rfl⟩
  have Hn' : Hid (rndP (a * b) 255 = n) := Hn.out
  rw [Hn'.out] at HC
  rw [Hn.out] at e2 ⊢
  go_enter Try.func110, Try.ntmps110
  go_wp2_with fail
  refine (HC.out _).mono ?_
  rintro e w1 ⟨rfl, hb1⟩
  go_wp2
  go_ret
  exact ⟨rfl, (by repeat (first | (with_reducible exact Below.refl _ _) | (with_reducible refine balloc ?_ _) | (with_reducible refine Below.drew ?_) | (with_reducible refine bdrewN ?_ _) | ((with_reducible refine bset ?_ ?_ _); rotate_left; focus (first | (with_reducible exact Nat.le_refl _) | (simp; done) | (simp; omega) | omega)) | (with_reducible refine bstep (by with_reducible assumption) ?_)))⟩

set_option maxHeartbeats 400000 in
theorem rmn8_any (a b : Int) (w : World) (a0 : 0 ≤ a) (a1 : a ≤ 255) (b0 : 0 ≤ b) (b1 : b ≤ 255) :
    Calls Try.prog 117 #[.int .u8 a, .int .u8 b] w fun e w' => e = .returned (.int .u8 (mn8 a b)) ∧ Below w.heap.size w w' := by
  have e1 := mul_byte a0 a1 b0 b1
  have e2 := mn8_bd a0 a1 b0 b1
  have e3 : 2 * a * b = 2 * (a * b) := Int.mul_assoc _ _ _
  have e4 : mn8 a b = (2 * a * b + 255) / 510 := by unfold mn8 rndP; rw [e3]; rfl
  have i1 : 0 ≤ 2 * a * b ∧ 2 * a * b ≤ 130050 := by omega
  have i2 : 0 ≤ (2 * a * b + 255) / 510 ∧ (2 * a * b + 255) / 510 ≤ 255 := by omega
  rw [e4]
  clear e3 e4 e2 e1
  go_enter Try.func117, Try.ntmps117
  go_wp2
  go_ret
  exact ⟨rfl, (by repeat (first | (with_reducible exact Below.refl _ _) | (with_reducible refine balloc ?_ _) | (with_reducible refine Below.drew ?_) | (with_reducible refine bdrewN ?_ _) | ((with_reducible refine bset ?_ ?_ _); rotate_left; focus (first | (with_reducible exact Nat.le_refl _) | (simp; done) | (simp; omega) | omega)) | (with_reducible refine bstep (by with_reducible assumption) ?_)))⟩
end Go.Proofs.Ytnefnnhnjmmebaa
