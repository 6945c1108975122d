/-
  The walks of blend.Term and of grisailleref28.Term.
-/
import Derived.Test.YtlholebpfgjpdaaBlendT
namespace Go.Proofs.Ytlholebpfgjpdaa
open Go.RowKit
set_option linter.unusedSimpArgs false
set_option linter.unusedVariables false

theorem inB_true {s sa d da : Int} (h : inB s sa d da = true) : 0 ≤ s ∧ s ≤ sa ∧ sa ≤ 255 ∧ 0 ≤ d ∧ d ≤ da ∧ da ≤ 255 := by
  simp only [inB, Bool.and_eq_true, decide_eq_true_eq] at h; omega
theorem inB_false {s sa d da : Int} (h : inB s sa d da = false) : s < 0 ∨ d < 0 ∨ sa < s ∨ da < d ∨ 255 < sa ∨ 255 < da := by
  simp only [inB, Bool.and_eq_false_iff, decide_eq_false_iff_not] at h; omega

def mayP (s sa : Int) : Bool := decide (0 ≤ s) && decide (s ≤ sa) && decide (sa ≤ 255)
set_option maxHeartbeats 400000 in
theorem rmay_any (s sa : Int) (w : World) :
    Calls Try.prog 70 #[.int .i64 s, .int .i64 sa] w fun e w' => e = .returned (.bool (mayP s sa)) ∧ w = w' := by
  go_enter Try.func70, Try.ntmps70
  go_wp2
  all_goals
    go_ret
    exact ⟨ret_bool (by simp [mayP]; try omega), rfl⟩
theorem inB_may (s sa d da : Int) : inB s sa d da = (mayP s sa && mayP d da) := by
  unfold inB mayP; simp only [Bool.and_assoc]

def hardP (low : Bool) (s sa d da : Int) : Int := if low then 2 * s * d else sa * da - 2 * (da - d) * (sa - s)
set_option maxHeartbeats 400000 in
theorem hard_any (low : Bool) (s sa d da : Int) (w : World) (h0 : 0 ≤ s) (h1 : s ≤ sa) (h2 : sa ≤ 255) (h3 : 0 ≤ d) (h4 : d ≤ da) (h5 : da ≤ 255) :
    Calls Try.prog 71 #[.bool low, .int .i64 s, .int .i64 sa, .int .i64 d, .int .i64 da] w fun e w' => e = .returned (.int .i64 (hardP low s sa d da)) ∧ w = w' := by
  obtain ⟨p1, p2, p3⟩ := ovl_parts h0 h1 h2 h3 h4 h5
  cases low with
  | true =>
    have hE : hardP true s sa d da = 2 * s * d := rfl
    rw [hE]; clear hE
    go_enter Try.func71, Try.ntmps71
    go_wp2
    go_ret
    exact ⟨rfl, rfl⟩
  | false =>
    have hE : hardP false s sa d da = sa * da - 2 * (da - d) * (sa - s) := rfl
    rw [hE]; clear hE
    go_enter Try.func71, Try.ntmps71
    go_wp2
    go_ret
    exact ⟨rfl, rfl⟩
theorem hard_ovl (s sa d da : Int) : hardP (decide (2 * d ≤ da)) s sa d da = ovl s sa d da := by
  unfold hardP ovl; by_cases h : 2 * d ≤ da <;> simp [h]
theorem hard_ovl' (s sa d da : Int) : hardP (decide (2 * s ≤ sa)) s sa d da = ovl d da s sa := by
  unfold hardP ovl
  have e1 : 2 * s * d = 2 * d * s := by rw [Int.mul_assoc, Int.mul_comm s d, ← Int.mul_assoc]
  have e2 : sa * da = da * sa := Int.mul_comm _ _
  have e3 : 2 * (da - d) * (sa - s) = 2 * (sa - s) * (da - d) := by rw [Int.mul_assoc, Int.mul_comm (da - d), ← Int.mul_assoc]
  by_cases h : 2 * s ≤ sa <;> simp only [h, decide_true, decide_false, if_true, if_false, Bool.false_eq_true] <;> omega

theorem sepB_cases {mode : Int} (h : sepB mode = true) : mode = 1 ∨ mode = 2 ∨ mode = 3 ∨ mode = 4 ∨ mode = 5 ∨ mode = 6 ∨ mode = 7 ∨ mode = 8 ∨ mode = 9 := by
  simp only [sepB, Bool.and_eq_true, decide_eq_true_eq] at h; omega
theorem sepB_false {mode : Int} (h : sepB mode = false) : (mode == 1) = false ∧ (mode == 2) = false ∧ (mode == 3) = false ∧ (mode == 4) = false ∧ (mode == 5) = false ∧ (mode == 6) = false ∧ (mode == 7) = false ∧ (mode == 8) = false ∧ (mode == 9) = false := by
  simp only [sepB, Bool.and_eq_false_iff, decide_eq_false_iff_not] at h
  simp only [beq_eq_false_iff_ne]
  omega

set_option maxHeartbeats 1600000 in
theorem rTerm_any (mode s sa d da : Int) (w : World) :
    Calls Try.prog 58 #[.int .i64 mode, .int .i64 s, .int .i64 sa, .int .i64 d, .int .i64 da] w fun e w' => e = .returned (.int .i64 (TermP mode s sa d da)) ∧ w = w' := by
  obtain ⟨v1, Hv1⟩ : ∃ v, Hid (mayP s sa = v) := ⟨_, rfl⟩
  obtain ⟨v2, Hv2⟩ : ∃ v, Hid (mayP d da = v) := ⟨_, rfl⟩
  have H1 : Hid (∀ w, Calls Try.prog 70 #[.int .i64 s, .int .i64 sa] w fun e w' => e = .returned (.bool v1) ∧ w = w') := fun w => by rw [← Hv1.out]; exact rmay_any s sa w
  have H2 : Hid (∀ w, Calls Try.prog 70 #[.int .i64 d, .int .i64 da] w fun e w' => e = .returned (.bool v2) ∧ w = w') := fun w => by rw [← Hv2.out]; exact rmay_any d da w
  have HI : Hid (inB s sa d da = (v1 && v2)) := by unfold Hid; rw [inB_may, Hv1.out, Hv2.out]
  clear Hv1 Hv2
  cases v1 with
  | false =>
    have hE : TermP mode s sa d da = 0 := by unfold TermP; rw [HI.out]; simp
    rw [hE]; clear hE
    go_enter Try.func58, Try.ntmps58
    go_wp2_with fail
    refine (H1.out _).mono ?_
    rintro e w' ⟨rfl, rfl⟩
    go_wp2_with fail
    go_ret
    exact ⟨rfl, rfl⟩
  | true =>
    cases v2 with
    | false =>
      have hE : TermP mode s sa d da = 0 := by unfold TermP; rw [HI.out]; simp
      rw [hE]; clear hE
      go_enter Try.func58, Try.ntmps58
      go_wp2_with fail
      refine (H1.out _).mono ?_
      rintro e w' ⟨rfl, rfl⟩
      go_wp2_with fail
      refine (H2.out _).mono ?_
      rintro e w' ⟨rfl, rfl⟩
      go_wp2_with fail
      go_ret
      exact ⟨rfl, rfl⟩
    | true =>
      obtain ⟨h0, h1, h2, h3, h4, h5⟩ := inB_true HI.out
      obtain ⟨p1, p2, p3, p4⟩ := trm_parts h0 h1 h2 h3 h4 h5
      have hmx := max_if
      have hmn := min_if
      cases hs : sepB mode with
      | false =>
        have hE : TermP mode s sa d da = 0 := by unfold TermP; rw [hs]; simp
        rw [hE]; clear hE
        obtain ⟨m1, m2, m3, m4, m5, m6, m7, m8, m9⟩ := sepB_false hs
        clear hs
        go_enter Try.func58, Try.ntmps58
        go_wp2_with fail
        refine (H1.out _).mono ?_
        rintro e w' ⟨rfl, rfl⟩
        go_wp2_with fail
        refine (H2.out _).mono ?_
        rintro e w' ⟨rfl, rfl⟩
        go_wp2_with fail
        go_ret
        exact ⟨rfl, rfl⟩
      | true =>
        have hE : TermP mode s sa d da = trm mode s sa d da := by unfold TermP; rw [hs, HI.out]; rfl
        rw [hE]; clear hE
        have hm := sepB_cases hs
        clear hs
        rcases hm with rfl | rfl | rfl | rfl | rfl | rfl | rfl | rfl | rfl
        all_goals
          go_enter Try.func58, Try.ntmps58
          go_wp2_with fail
          refine (H1.out _).mono ?_
          rintro e w' ⟨rfl, rfl⟩
          go_wp2_with fail
          refine (H2.out _).mono ?_
          rintro e w' ⟨rfl, rfl⟩
          go_wp2_with (go_at_call 71; refine (hard_any _ _ _ _ _ _ h0 h1 h2 h3 h4 h5).mono ?_; rintro e w' ⟨rfl, rfl⟩)
          go_ret
          refine ⟨ret_int ?_, rfl⟩
          first
            | (simp [trm]; done)
            | (simp only [trm]; simp [hard_ovl]; done)
            | (simp only [trm]; simp [hard_ovl']; done)
            | (simp only [trm]; simp; omega)

end Go.Proofs.Ytlholebpfgjpdaa
