/-
  The comparisons of dilation and erosion.
-/
import Derived.Test.YtndablijjkchjaaQueue
import Derived.Test.YtndablijjkchjaaMkP
namespace Go.Proofs.Ytndablijjkchjaa
open Go.RowKit
set_option linter.unusedSimpArgs false
set_option linter.unusedVariables false

theorem made_u8 (n : Nat) : (madeCells (Value.int .u8 0).cells (n * 1)).toList = (List.replicate n 0).flatMap encB := by
  rw [Nat.mul_one]
  have h1 : ∀ m, (List.replicate m 0).flatMap encB = List.replicate m (Value.int .u8 0) := fun m => by
    induction m with
    | zero => rfl
    | succ m ih => rw [List.replicate_succ, List.flatMap_cons, ih, List.replicate_succ]; rfl
  rw [h1]
  apply List.ext_getElem?
  intro i
  rw [Array.getElem?_toList]
  simp [madeCells, List.getElem?_replicate, Value.cells, Nat.mod_one]
  split <;> simp_all
theorem Try.infoInt : (Try.prog.info? 3).map (fun i => (i.zero, i.size, i.bytes)) = some (some (.int .i64 0), 1, 8) := by kernel_rfl
theorem lineL_some {sg : Int} {f : Nat → Int} {count n k : Nat} {v : Int} (hk : k < count) (h : lineV sg f count n k = v) : (lineL sg f count n)[k]? = some v := by
  unfold lineL; rw [List.getElem?_map, List.getElem?_range hk, ← h]; rfl
theorem fill_set2 {T R : List Int} {k : Nat} {v : Int} (hr : R.length = T.length) (h : T[k]? = some v) : (T.take k ++ R.drop k).set k v = T.take (k + 1) ++ R.drop (k + 1) := by
  obtain ⟨h0, h1⟩ := List.getElem?_eq_some_iff.1 h
  rw [← h1]; exact fill_set T R h0 hr
theorem own_bk {w : World} {base g n c : Nat} {m : List Int} (h : OwnL encB 5 1 w base (.slice (some ⟨g, 0, none⟩) n c) m) (hm : m ≠ []) : ∃ cur, Bk w g 5 cur := by
  obtain ⟨g', cap, cur, hv, h1, h2, _⟩ := h.block hm
  injection hv with e1 e2 e3
  injection e1 with e1
  injection e1 with e1
  subst e1
  exact ⟨cur, h2⟩
set_option maxHeartbeats 400000 in
theorem better_D (a b : Int) (v : Bool) (hv : Hid (decide (b < a) = v)) (w : World) :
    Calls Try.prog 75 #[.int .u8 a, .int .u8 b] w fun e w' => e = .returned (.bool v) ∧ w = w' := by
  have h := hv.out
  subst h
  go_enter Try.func75, Try.ntmps75
  go_wp2
  all_goals
    go_ret
    exact ⟨ret_bool (by simp; try omega), rfl⟩
set_option maxHeartbeats 400000 in
theorem better_E (a b : Int) (v : Bool) (hv : Hid (decide (a < b) = v)) (w : World) :
    Calls Try.prog 76 #[.int .u8 a, .int .u8 b] w fun e w' => e = .returned (.bool v) ∧ w = w' := by
  have h := hv.out
  subst h
  go_enter Try.func76, Try.ntmps76
  go_wp2
  all_goals
    go_ret
    exact ⟨ret_bool (by simp; try omega), rfl⟩
end Go.Proofs.Ytndablijjkchjaa
