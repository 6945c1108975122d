/-
  What the laws on blending share.
-/
import Derived.Test.YtemkekighlahdaaEx28
import Derived.Test.YtemkekighlahdaaBlendTm
import Derived.Test.YtemkekighlahdaaOpen
import Derived.ChangeMaps5
namespace Go.Proofs.Ytemkekighlahdaa
open Go.RowKit
set_option linter.unusedSimpArgs false
set_option linter.unusedVariables false

set_option maxHeartbeats 400000 in
theorem luma_any (p : Px) (n : Int) (hn : Hid (lumaP p = n)) (w : World) (hp : p.byte) :
    Calls Try.prog 25 #[.agg #[.int .u8 p.r, .int .u8 p.g, .int .u8 p.b, .int .u8 p.a]] w fun e w' => e = .returned (.int .i64 n) ∧ Below w.heap.size w w' := by
  have h := hn.out; subst h
  obtain ⟨r0, r1, g0, g1, b0, b1, a0, a1⟩ := hp
  unfold lumaP
  go_enter Try.func25, Try.ntmps25
  go_wp2
  go_ret
  exact ⟨rfl, (by repeat (first | (with_reducible exact Below.refl _ _) | (with_reducible refine balloc ?_ _) | (with_reducible refine Below.drew ?_) | (with_reducible refine bdrewN ?_ _) | ((with_reducible refine bset ?_ ?_ _); rotate_left; focus (first | (with_reducible exact Nat.le_refl _) | (simp; done) | (simp; omega) | omega)) | (with_reducible refine bstep (by with_reducible assumption) ?_)))⟩
set_option maxHeartbeats 400000 in
theorem near_any (a b : Int) (w : World) (h0 : 0 ≤ a) (h1 : a ≤ 25500) (h2 : 0 ≤ b) (h3 : b ≤ 25500) (h4 : a - b ≤ 50) (h5 : b - a ≤ 50) :
    Calls Try.prog 24 #[.int .i64 a, .int .i64 b] w fun e w' => e = .returned (.bool true) ∧ Below w.heap.size w w' := by
  have hmx := max_if
  have h6 : max (a - b) (b - a) ≤ 50 := by omega
  go_enter Try.func24, Try.ntmps24
  go_wp2
  go_ret
  exact ⟨rfl, (by repeat (first | (with_reducible exact Below.refl _ _) | (with_reducible refine balloc ?_ _) | (with_reducible refine Below.drew ?_) | (with_reducible refine bdrewN ?_ _) | ((with_reducible refine bset ?_ ?_ _); rotate_left; focus (first | (with_reducible exact Nat.le_refl _) | (simp; done) | (simp; omega) | omega)) | (with_reducible refine bstep (by with_reducible assumption) ?_)))⟩
theorem luma_bd {p : Px} (h : p.byte) : 0 ≤ lumaP p ∧ lumaP p ≤ 25500 := by
  obtain ⟨r0, r1, g0, g1, b0, b1, a0, a1⟩ := h
  unfold lumaP; omega
end Go.Proofs.Ytemkekighlahdaa
