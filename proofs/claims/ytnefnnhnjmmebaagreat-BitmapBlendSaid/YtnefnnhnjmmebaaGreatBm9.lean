/-
  The box of the pixels that differ: bitmap.DiffBounds$1 and grisailleref30.diff.
-/
import Derived.Test.YtnefnnhnjmmebaaGreatBm7
import Derived.Test.YtnefnnhnjmmebaaGreatPlA
import Derived.Test.YtnefnnhnjmmebaaGreatRcA
namespace Go.Proofs.YtnefnnhnjmmebaaGreat
open Go.RowKit
set_option linter.unusedSimpArgs false
set_option linter.unusedVariables false

theorem grefl (w : World) (row : Option Nat) : w.grownBy w row := ⟨rfl, rfl, rfl, Nat.le_refl _, fun _ _ _ => rfl⟩
theorem gstep {a b c : World} {row : Option Nat} (h : a.grownBy b row) (k : Below b.heap.size b c) : a.grownBy c row :=
  ⟨k.os.trans h.os, k.tape.trans h.tape, k.output.trans h.output, Nat.le_trans h.size k.size, fun i hi hx => (k.block i (Nat.lt_of_lt_of_le hi h.size)).trans (h.block i hi hx)⟩
theorem gset {a b : World} {g : Nat} (h : a.grownBy b (some g)) (i : Nat) (u : Value) : a.grownBy (b.setCell ⟨g, i, none⟩ u) (some g) :=
  ⟨h.os, h.tape, h.output, by simpa [World.setCell] using h.size, fun k hk hx => (Below.heap_setCell _ _ _ _ (fun e => hx (by rw [e]))).trans (h.block k hk hx)⟩
def dfP (r : Rc) (l : List Px) (r' : Rc) (l' : List Px) (x y : Int) : Bool := !eqP (atL zP r l x y) (atL zP r' l' x y)
theorem dfP_comm (r : Rc) (l : List Px) (r' : Rc) (l' : List Px) : dfP r l r' l' = dfP r' l' r l := by
  funext x y
  unfold dfP
  congr 1
  rw [Bool.eq_iff_iff, eqP_iff, eqP_iff]
  exact ⟨Eq.symm, Eq.symm⟩

end Go.Proofs.YtnefnnhnjmmebaaGreat
