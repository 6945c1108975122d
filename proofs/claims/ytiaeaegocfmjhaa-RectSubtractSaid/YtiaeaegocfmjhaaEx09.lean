/-
  grisaillelaw09.exampleHolds returns true.
-/
import Derived.Test.YtiaeaegocfmjhaaSub
namespace Go.Proofs.Ytiaeaegocfmjhaa
open Go.RowKit
set_option linter.unusedSimpArgs false
set_option linter.unusedVariables false

theorem same_q (A B : Option Addr) (a b c c' : Nat) (l m : List Rc) (v : Bool) (hv : Hid (sameB l m = v)) (hla : Hid (l.length = a)) (hmb : Hid (m.length = b)) (w : World) (hA : RdL encR 4 w A l) (hB : RdL encR 4 w B m) (hl : a ≤ 4000000000) (hm : b ≤ 4000000000) :
    Calls Try.prog 13 #[.slice A a c, .slice B b c'] w fun e w' => e = .returned (.bool v) ∧ Below w.heap.size w w' := by
  have h := hv.out; subst h
  have h := hla.out; subst h
  have h := hmb.out; subst h
  exact same_any A B c c' l m w hA hB hl hm
theorem area_q (a b c d n : Int) (hn : Hid (areaR ⟨a, b, c, d⟩ = n)) (w : World) :
    Calls Try.prog 23 #[.agg #[.int .i64 a, .int .i64 b, .int .i64 c, .int .i64 d]] w fun e w' => e = .returned (.int .i64 n) ∧ Below w.heap.size w w' := by
  have h := hn.out; subst h; exact area_any a b c d w

theorem sub_example : subL ⟨0, 0, 4, 4⟩ ⟨1, 1, 2, 2⟩ = [⟨0, 0, 4, 1⟩, ⟨0, 1, 1, 2⟩, ⟨2, 1, 4, 2⟩, ⟨0, 2, 4, 4⟩] := by rfl

set_option maxHeartbeats 400000 in
theorem ex_any (w : World) : Calls Try.prog 16 #[] w fun e w' => e = .returned (.bool true) ∧ Below w.heap.size w w' := by
  have HS : Hid (sameB [⟨0, 0, 4, 1⟩, ⟨0, 1, 1, 2⟩, ⟨2, 1, 4, 2⟩, ⟨0, 2, 4, 4⟩] [⟨0, 0, 4, 1⟩, ⟨0, 1, 1, 2⟩, ⟨2, 1, 4, 2⟩, ⟨0, 2, 4, 4⟩] = true) := rfl
  have HA : Hid (areaR ⟨0, 0, 4, 4⟩ = 16) := rfl
  go_enter Try.func16, Try.ntmps16
  go_wp2_with fail
  refine (sub_any _ _ _ _ _ _ _ _ _).mono ?_
  rintro e w1 ⟨v1, rfl, ho1, hb1⟩
  rw [sub_example] at ho1
  obtain ⟨A1, c1, hv1, hr1, hc1⟩ := ho1.form encR_len
  simp only [List.length_cons, List.length_nil, Nat.reduceAdd] at hv1 hc1
  subst hv1
  go_wp2_with fail
  refine (same_q _ _ _ _ _ _ _ _ true HS rfl rfl _ (RdL.below hr1 ((Below.refl _ _).alloc (Nat.le_refl _) _)) (rd_of_bk (size := 4) encR_len (Bk.new _ _ _ rfl) rfl) (by decide) (by decide)).mono ?_
  rintro e w2 ⟨rfl, hb2⟩
  go_wp2_with fail
  refine (area_q _ _ _ _ 16 HA _).mono ?_
  rintro e w3 ⟨rfl, hb3⟩
  go_wp2
  go_ret
  exact ⟨rfl, (by repeat (first | (with_reducible exact Below.refl _ _) | (with_reducible refine balloc ?_ _) | (with_reducible refine Below.drew ?_) | (with_reducible refine bdrewN ?_ _) | ((with_reducible refine bset ?_ ?_ _); rotate_left; focus (first | (with_reducible exact Nat.le_refl _) | (simp; done) | (simp; omega) | omega)) | (with_reducible refine bstep (by with_reducible assumption) ?_)))⟩
end Go.Proofs.Ytiaeaegocfmjhaa
