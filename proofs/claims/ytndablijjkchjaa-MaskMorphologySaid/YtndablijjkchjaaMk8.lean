/-
  slices.Clone at bytes; masks with all values mapped.
-/
import Derived.Test.YtndablijjkchjaaMk3
import Derived.Test.YtndablijjkchjaaMn8
import Derived.Test.YtndablijjkchjaaMkMade0
import Derived.Test.YtndablijjkchjaaPlB
import Derived.Lib.SliceRun
namespace Go.Proofs.Ytndablijjkchjaa
open Go.RowKit
set_option linter.unusedSimpArgs false
set_option linter.unusedVariables false

/-- A mask with all values mapped, or the error. -/
def mpR (b : Mk) : Rc := if vMk b then b.r else ⟨0, 0, 0, 0⟩
def mpL (F : Int → Int) (b : Mk) : List Int := if vMk b then b.l.map F else []
def mpE (b : Mk) : Int := if vMk b then 0 else 14
def invF (x : Int) : Int := 255 - x
def sclF (k x : Int) : Int := mn8 x k
theorem map_set {F : Int → Int} {l : List Int} {k : Nat} (h : k < l.length) : ((l.take k).map F ++ l.drop k).set k (F l[k]) = (l.take (k + 1)).map F ++ l.drop (k + 1) := by
  have e : ((l.take k).map F).length = k := by rw [List.length_map, List.length_take]; omega
  rw [List.set_append_right _ _ (by omega), e, Nat.sub_self, List.drop_eq_getElem_cons h, List.set_cons_zero, List.take_succ_eq_append_getElem h, List.map_append, List.append_assoc]
  rfl
theorem map_at {F : Int → Int} {l : List Int} {k : Nat} (h : k < l.length) (h' : k < ((l.take k).map F ++ l.drop k).length) : ((l.take k).map F ++ l.drop k)[k] = l[k] := by
  have e : ((l.take k).map F).length = k := by rw [List.length_map, List.length_take]; omega
  rw [List.getElem_append_right (by omega)]
  have e2 : k - min k l.length = 0 := by omega
  simp [e2]
theorem map_len {F : Int → Int} {l : List Int} {k : Nat} (h : k ≤ l.length) : ((l.take k).map F ++ l.drop k).length = l.length := by
  rw [List.length_append, List.length_map, List.length_take, List.length_drop]; omega
def RetV (l : List Int) (w : World) (e : Ending) (w' : World) : Prop := ∃ v, e = .returned v ∧ OwnL encB 5 1 w' w.heap.size v l ∧ Below w.heap.size w w'
set_option maxHeartbeats 1600000 in
theorem sclone_any (A : Option Addr) (n c : Nat) (l : List Int) (w : World) (hr : RdL encB 1 w A l) (hn : l.length = n) (hn2 : n ≤ 4000000000) (hz : A = none → n = 0 ∧ c = 0) :
    Calls Try.prog 86 #[.slice A n c] w (RetV l w) := by
  cases A with
  | none =>
    obtain ⟨rfl, rfl⟩ := hz rfl
    obtain rfl : l = [] := List.eq_nil_of_length_eq_zero hn
    have heq := fun w => Lib.run_eql_slice_nil (P := Try.prog) w 27 5 none 0 0 0 0 Try.underlying27
    go_enter Try.func86, Try.ntmps86
    go_wp2
    go_ret
    exact ⟨_, rfl, OwnL.nil _ _, (by repeat (first | (with_reducible exact Below.refl _ _) | (with_reducible refine balloc ?_ _) | (with_reducible refine Below.drew ?_) | (with_reducible refine bdrewN ?_ _) | ((with_reducible refine bset ?_ ?_ _); rotate_left; focus (first | (with_reducible exact Nat.le_refl _) | (simp; done) | (simp; omega) | omega)) | (with_reducible refine bstep (by with_reducible assumption) ?_)))⟩
  | some a =>
    have heq := fun w => Lib.run_eql_slice_nil (P := Try.prog) w 27 5 (some a) n c 0 0 Try.underlying27
    have kE : Bk (w.alloc (.cells #[] 5)) w.heap.size 5 #[] := Bk.new _ _ _ rfl
    have hE : OwnL encB 5 1 (w.alloc (.cells #[] 5)) w.heap.size (.slice (some ⟨w.heap.size, 0, none⟩) 0 0) [] := OwnL.lit (l := []) encB_len kE (Nat.le_refl _) (by decide) rfl
    have hB0 : Below w.heap.size w (w.alloc (.cells #[] 5)) := (by repeat (first | (with_reducible exact Below.refl _ _) | (with_reducible refine balloc ?_ _) | (with_reducible refine Below.drew ?_) | (with_reducible refine bdrewN ?_ _) | ((with_reducible refine bset ?_ ?_ _); rotate_left; focus (first | (with_reducible exact Nat.le_refl _) | (simp; done) | (simp; omega) | omega)) | (with_reducible refine bstep (by with_reducible assumption) ?_)))
    have HR := Lib.hid (hr.below hB0)
    have HN := Lib.hid hn
    have hll : ([] : List Int).length + n ≤ 4294967296 := by simp; omega
    clear hr hn hz
    go_enter Try.func86, Try.ntmps86
    go_wp2_with (at_builtin; refine wpList_append_rd encB_len encB_one 27 Try.infoU8 rfl (by decide) (by decide) Try.underlying27 rfl _ _ rfl w.heap.size _ [] rfl hE (some a) n c l rfl HN.out HR.out hll (by simp) ?_; intro v5 w5 ho5 hg5)
    rw [List.nil_append] at ho5
    have hB5 := below_grown hE hg5 hB0 (Nat.le_refl _)
    go_wp2
    go_ret
    exact ⟨_, rfl, ho5, hB5⟩
end Go.Proofs.Ytndablijjkchjaa
