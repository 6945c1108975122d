/-
  What the laws on Pack share: points read from an argument, equalRects.
-/
import Derived.Test.YtiaeaegocfmjhaaPack6
import Derived.Test.YtiaeaegocfmjhaaEx09
import Derived.Test.YtiaeaegocfmjhaaOpen
namespace Go.Proofs.Ytiaeaegocfmjhaa
open Go.ChangeShapes Go.WideShapes Go.ChangeAt Go.RowKit Go.Deep
set_option linter.unusedSimpArgs false
set_option linter.unusedVariables false

theorem dec_pt {H : Type} {enc : TypeId × Value → H} {w : World} {base : Nat} {spare : Nat → Bool} {held : Bool} : ∀ n cs x, cs.length = 2 → DataW.trod enc Try.prog w base spare held n 51 cs = some x → ∃ z : Int × Int, cs = encZ z ∧ True := fun n cs x hl h => by
  have hf := dec_fields Try.underlying51 (by kernel_rfl) (by rw [hl]; kernel_rfl) h
  obtain ⟨u, y, k, hu, hy⟩ := hf 0 _ rfl
  obtain ⟨u', y', k', hu', hy'⟩ := hf 1 _ rfl
  obtain ⟨a, rfl, _⟩ := fld_int Try.underlying3 hy
  obtain ⟨b, rfl, _⟩ := fld_int Try.underlying3 hy'
  match cs, hl with
  | [p, q], _ =>
    have h0 : p = .int .i64 a := by simpa using hu
    have h1 : q = .int .i64 b := by simpa using hu'
    subst h0 h1
    exact ⟨(a, b), rfl, trivial⟩

set_option maxHeartbeats 400000 in
theorem eqr_q (A B : Option Addr) (a b c c' : Nat) (l m : List Rc) (v : Bool) (hv : Hid (sameB l m = v)) (hla : Hid (l.length = a)) (hmb : Hid (m.length = b)) (w : World) (hA : RdL encR 4 w A l) (hB : RdL encR 4 w B m) (hl : a ≤ 4000000000) (hm : b ≤ 4000000000) :
    Calls Try.prog 42 #[.slice A a c, .slice B b c'] w fun e w' => e = .returned (.bool v) ∧ Below w.heap.size w w' := by
  go_enter Try.func42, Try.ntmps42
  go_wp2_with fail
  refine (same_q A B a b c c' l m v hv hla hmb _ hA hB hl hm).mono ?_
  rintro e w1 ⟨rfl, hb1⟩
  go_wp2
  go_ret
  exact ⟨rfl, (by repeat (first | (with_reducible exact Below.refl _ _) | (with_reducible refine balloc ?_ _) | (with_reducible refine Below.drew ?_) | (with_reducible refine bdrewN ?_ _) | ((with_reducible refine bset ?_ ?_ _); rotate_left; focus (first | (with_reducible exact Nat.le_refl _) | (simp; done) | (simp; omega) | omega)) | (with_reducible refine bstep (by with_reducible assumption) ?_)))⟩

/-- A packing's length. -/
theorem pack_len {pw ph : Int} {l : List (Int × Int)} {os : List Rc} (h : packR pw ph l = some os) : os.length = l.length ∧ l.length ≤ 1024 := by
  unfold packR at h
  split at h
  · rename_i hc
    simp only [Bool.and_eq_true, decide_eq_true_eq] at hc
    cases hr : runP pw ph l with
    | none => rw [hr] at h; cases h
    | some q =>
      obtain ⟨o, ss, nx⟩ := q
      rw [hr] at h
      simp only [Option.map_some, Option.some.injEq] at h
      subst h
      have := run_len l.length l o ss nx (Nat.le_refl _) (by rw [List.take_length]; exact hr)
      exact ⟨this.1, hc.1.2⟩
  · cases h
theorem pack_getD {pw ph : Int} {l : List (Int × Int)} : ((packR pw ph l).getD []).length ≤ 1024 := by
  cases h : packR pw ph l with
  | none => simp
  | some os => have := pack_len h; simp; omega
end Go.Proofs.Ytiaeaegocfmjhaa
