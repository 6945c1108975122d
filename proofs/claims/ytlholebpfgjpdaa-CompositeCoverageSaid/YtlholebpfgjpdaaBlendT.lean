/-
  The walks of blend.Term and what it calls, and of grisailleref28.Term.
-/
import Derived.Test.YtlholebpfgjpdaaIntm
namespace Go.Proofs.Ytlholebpfgjpdaa
open Go.RowKit
set_option linter.unusedSimpArgs false
set_option linter.unusedVariables false

theorem ovl_parts {s sa d da : Int} (h0 : 0 ≤ s) (h1 : s ≤ sa) (h2 : sa ≤ 255) (h3 : 0 ≤ d) (h4 : d ≤ da) (h5 : da ≤ 255) :
    (0 ≤ 2 * s * d ∧ 2 * s * d ≤ 130050) ∧ (0 ≤ sa * da ∧ sa * da ≤ 65025) ∧ (0 ≤ 2 * (da - d) * (sa - s) ∧ 2 * (da - d) * (sa - s) ≤ 130050) := by
  have a1 := mul_le (x := 2 * s) (y := d) (a := 510) (b := 255) (by omega) (by omega) h3 (by omega)
  have a2 := mul_byte (x := sa) (y := da) (by omega) h2 (by omega) h5
  have a3 := mul_le (x := 2 * (da - d)) (y := sa - s) (a := 510) (b := 255) (by omega) (by omega) (by omega) (by omega)
  omega
theorem trm_parts {s sa d da : Int} (h0 : 0 ≤ s) (h1 : s ≤ sa) (h2 : sa ≤ 255) (h3 : 0 ≤ d) (h4 : d ≤ da) (h5 : da ≤ 255) :
    (0 ≤ s * d ∧ s * d ≤ 65025) ∧ (0 ≤ s * da ∧ s * da ≤ 65025) ∧ (0 ≤ d * sa ∧ d * sa ≤ 65025) ∧ (0 ≤ 2 * s * d ∧ 2 * s * d ≤ 130050) := by
  have a1 := mul_le (x := 2 * s) (y := d) (a := 510) (b := 255) (by omega) (by omega) h3 (by omega)
  have a2 := mul_byte (x := s) (y := d) (by omega) (by omega) (by omega) (by omega)
  have a3 := mul_byte (x := s) (y := da) (by omega) (by omega) (by omega) (by omega)
  have a4 := mul_byte (x := d) (y := sa) (by omega) (by omega) (by omega) (by omega)
  omega

set_option maxHeartbeats 400000 in
theorem overlay_any (s sa d da : Int) (w : World) (h0 : 0 ≤ s) (h1 : s ≤ sa) (h2 : sa ≤ 255) (h3 : 0 ≤ d) (h4 : d ≤ da) (h5 : da ≤ 255) :
    Calls Try.prog 66 #[.int .i64 s, .int .i64 sa, .int .i64 d, .int .i64 da] w fun e w' => e = .returned (.int .i64 (ovl s sa d da)) ∧ w = w' := by
  obtain ⟨p1, p2, p3⟩ := ovl_parts h0 h1 h2 h3 h4 h5
  by_cases hc : 2 * d ≤ da
  · have hE : ovl s sa d da = 2 * s * d := by unfold ovl; rw [if_pos hc]
    rw [hE]; clear hE
    go_enter Try.func66, Try.ntmps66
    go_wp2
    go_ret
    exact ⟨rfl, rfl⟩
  · have hE : ovl s sa d da = sa * da - 2 * (da - d) * (sa - s) := by unfold ovl; rw [if_neg hc]
    rw [hE]; clear hE
    go_enter Try.func66, Try.ntmps66
    go_wp2
    go_ret
    exact ⟨rfl, rfl⟩

set_option maxHeartbeats 1600000 in
theorem term_any (mode s sa d da : Int) (w : World) (h0 : 0 ≤ s) (h1 : s ≤ sa) (h2 : sa ≤ 255) (h3 : 0 ≤ d) (h4 : d ≤ da) (h5 : da ≤ 255) :
    Calls Try.prog 52 #[.int .i64 mode, .int .i64 s, .int .i64 sa, .int .i64 d, .int .i64 da] w fun e w' => e = .returned (.int .i64 (trm mode s sa d da)) ∧ w = w' := by
  obtain ⟨p1, p2, p3, p4⟩ := trm_parts h0 h1 h2 h3 h4 h5
  have hmx := max_if
  have hmn := min_if
  go_enter Try.func52, Try.ntmps52
  go_wp2_with (go_at_call 66; refine (overlay_any _ _ _ _ _ (by assumption) (by assumption) (by assumption) (by assumption) (by assumption) (by assumption)).mono ?_; rintro e w' ⟨rfl, rfl⟩)
  all_goals
    go_ret
    refine ⟨ret_int ?_, rfl⟩
    simp_all [trm]

set_option maxHeartbeats 400000 in
theorem sep_any (mode : Int) (w : World) :
    Calls Try.prog 39 #[.int .i64 mode] w fun e w' => e = .returned (.bool (sepB mode)) ∧ w = w' := by
  go_enter Try.func39, Try.ntmps39
  go_wp2
  all_goals
    go_ret
    exact ⟨ret_bool (by simp [sepB]; try omega), rfl⟩

set_option maxHeartbeats 400000 in
theorem vmode_any (mode : Int) (w : World) :
    Calls Try.prog 38 #[.int .i64 mode] w fun e w' => e = .returned (.bool (validModeB mode)) ∧ w = w' := by
  go_enter Try.func38, Try.ntmps38
  go_wp2
  all_goals
    go_ret
    exact ⟨ret_bool (by simp [validModeB]; try omega), rfl⟩

set_option maxHeartbeats 400000 in
theorem rvmode_any (mode : Int) (w : World) :
    Calls Try.prog 23 #[.int .i64 mode] w fun e w' => e = .returned (.bool (validModeB mode)) ∧ w = w' := by
  go_enter Try.func23, Try.ntmps23
  go_wp2
  all_goals
    go_ret
    exact ⟨ret_bool (by simp [validModeB]; try omega), rfl⟩

theorem chan_parts {s sa d da : Int} (h0 : 0 ≤ s) (h1 : s ≤ sa) (h2 : sa ≤ 255) (h3 : 0 ≤ d) (h4 : d ≤ da) (h5 : da ≤ 255) :
    (0 ≤ s * (255 - da) ∧ s * (255 - da) ≤ 65025) ∧ (0 ≤ d * (255 - sa) ∧ d * (255 - sa) ≤ 65025) ∧ (0 ≤ sa * da ∧ sa * da ≤ 65025) := by
  have a2 := mul_byte (x := sa) (y := da) (by omega) h2 (by omega) h5
  have a3 := mul_byte (x := s) (y := 255 - da) (by omega) (by omega) (by omega) (by omega)
  have a4 := mul_byte (x := d) (y := 255 - sa) (by omega) (by omega) (by omega) (by omega)
  omega

set_option maxHeartbeats 800000 in
theorem chan_any (mode s sa d da : Int) (w : World) (h0 : 0 ≤ s) (h1 : s ≤ sa) (h2 : sa ≤ 255) (h3 : 0 ≤ d) (h4 : d ≤ da) (h5 : da ≤ 255) :
    Calls Try.prog 41 #[.int .i64 mode, .int .i64 s, .int .i64 sa, .int .i64 d, .int .i64 da] w fun e w' => e = .returned (.int .u8 (chanP mode s sa d da)) ∧ Below w.heap.size w w' := by
  obtain ⟨p1, p2, p3⟩ := chan_parts h0 h1 h2 h3 h4 h5
  have ht := trm_bd (mode := mode) h0 h1 h3 h4
  unfold chanP
  go_enter Try.func41, Try.ntmps41
  go_wp2_with fail
  refine (term_any _ _ _ _ _ _ h0 h1 h2 h3 h4 h5).mono ?_
  rintro e w' ⟨rfl, rfl⟩
  go_wp2_with fail
  refine (divnorm_any _ _ (by omega) (by omega)).mono ?_
  rintro e w1 ⟨rfl, hb1⟩
  go_wp2_with fail
  go_ret
  exact ⟨rfl, (by repeat (first | (with_reducible exact Below.refl _ _) | (with_reducible refine balloc ?_ _) | (with_reducible refine Below.drew ?_) | (with_reducible refine bdrewN ?_ _) | ((with_reducible refine bset ?_ ?_ _); rotate_left; focus (first | (with_reducible exact Nat.le_refl _) | (simp; done) | (simp; omega) | omega)) | (with_reducible refine bstep (by with_reducible assumption) ?_)))⟩
end Go.Proofs.Ytlholebpfgjpdaa
