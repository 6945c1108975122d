/-
  rect.Tiles: what it hands back, and what the loop over that does.
-/
import Derived.Test.YtiaeaegocfmjhaaTiles
import Derived.Test.YtiaeaegocfmjhaaOver
import Derived.Test.YtiaeaegocfmjhaaRect
namespace Go.Proofs.Ytiaeaegocfmjhaa
open Go.RowKit Go.Shelf
set_option linter.unusedSimpArgs false
set_option linter.unusedVariables false

set_option maxHeartbeats 1000000 in
theorem tiles_any (a b c d w h : Int) (W : World) :
    Calls Try.prog 46 #[rcv ⟨a, b, c, d⟩, .int .i64 w, .int .i64 h] W fun e W' => ∃ Bw Bh Br, e = .returned (.func (.func 51) #[] #[.pointer (some ⟨Bw, 0, none⟩), .pointer (some ⟨Bh, 0, none⟩), .pointer (some ⟨Br, 0, none⟩)]) ∧
      Bk W' Bw 3 #[.int .i64 w] ∧ Bk W' Bh 3 #[.int .i64 h] ∧ Bk W' Br 23 #[.int .i64 (canonR ⟨a, b, c, d⟩).x0, .int .i64 (canonR ⟨a, b, c, d⟩).y0, .int .i64 (canonR ⟨a, b, c, d⟩).x1, .int .i64 (canonR ⟨a, b, c, d⟩).y1] ∧ Below W.heap.size W W' := by
  obtain ⟨q, Hq⟩ : ∃ q, Hid (canonR ⟨a, b, c, d⟩ = q) := ⟨_, rfl⟩
  rw [Hq.out]
  go_enter Try.func46, Try.ntmps46
  have hR : Bk (((W.alloc (.cells #[.int .i64 a, .int .i64 b, .int .i64 c, .int .i64 d] 23)).alloc (.cells #[.int .i64 w] 3)).alloc (.cells #[.int .i64 h] 3)) W.heap.size 23 #[.int .i64 a, .int .i64 b, .int .i64 c, .int .i64 d] := ((Bk.new _ _ _ rfl).alloc _).alloc _
  have hW : Bk (((W.alloc (.cells #[.int .i64 a, .int .i64 b, .int .i64 c, .int .i64 d] 23)).alloc (.cells #[.int .i64 w] 3)).alloc (.cells #[.int .i64 h] 3)) (W.heap.size + 1) 3 #[.int .i64 w] := (Bk.new _ _ _ (by simp)).alloc _
  have hH : Bk (((W.alloc (.cells #[.int .i64 a, .int .i64 b, .int .i64 c, .int .i64 d] 23)).alloc (.cells #[.int .i64 w] 3)).alloc (.cells #[.int .i64 h] 3)) (W.heap.size + 1 + 1) 3 #[.int .i64 h] := Bk.new _ _ _ (by simp)
  go_wp2_with (go_at_call 21; refine (canon_q _ _ _ _ q Hq _).mono ?_; rintro e w1 ⟨rfl, hb1⟩; have hR1 := hR.below hb1; have hW1 := hW.below hb1; have hH1 := hH.below hb1; obtain ⟨r1, r2, r3, r4, r5⟩ := hR1.rules)
  go_ret
  refine ⟨_, _, _, rfl, ((((hW1.far ?_ _).far ?_ _).far ?_ _).far ?_ _), ((((hH1.far ?_ _).far ?_ _).far ?_ _).far ?_ _), ?_, (by repeat (first | (with_reducible exact Below.refl _ _) | (with_reducible refine balloc ?_ _) | (with_reducible refine Below.drew ?_) | (with_reducible refine bdrewN ?_ _) | ((with_reducible refine bset ?_ ?_ _); rotate_left; focus (first | (with_reducible exact Nat.le_refl _) | (simp; done) | (simp; omega) | omega)) | (with_reducible refine bstep (by with_reducible assumption) ?_)))⟩
  iterate 8 · show _ ≠ W.heap.size; omega
  have h4 := (((hR1.set 0 (.int .i64 q.x0)).set 1 (.int .i64 q.y0)).set 2 (.int .i64 q.x1)).set 3 (.int .i64 q.y1)
  simpa using h4
end Go.Proofs.Ytiaeaegocfmjhaa
