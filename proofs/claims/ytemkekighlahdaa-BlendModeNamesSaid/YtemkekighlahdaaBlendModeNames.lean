/- BlendModeNames: for every number and every string the law grisaillelaw28.BlendModeNames returns true. No conditions. -/
import Derived.Test.YtemkekighlahdaaLaw28
namespace Go.Proofs.Ytemkekighlahdaa
open Go.ChangeShapes Go.WideShapes Go.ChangeAt Go.RowKit
set_option linter.unusedSimpArgs false
set_option linter.unusedVariables false

theorem modeN_lt (name : ByteArray) : modeN name ≤ 13 := by
  by_cases h : modeN name = 0
  · omega
  · exact (modeN_some h).2.1
theorem nameP_of {name : ByteArray} (h : modeN name ≠ 0) : nameP (modeN name : Nat) = name := by
  obtain ⟨a, b, c⟩ := modeN_some h
  unfold nameP
  rw [if_pos (by simp [validModeB]; omega), Int.toNat_natCast, c]
set_option maxHeartbeats 1600000 in
theorem walk_BlendModeNames (mode : Int) (name : ByteArray) (w : World) :
    Calls Try.prog 3 #[.int .i64 mode, .string name] w fun e w' => e = .returned (.bool true) ∧ Below w.heap.size w w' := by
  obtain ⟨n, Hn⟩ : ∃ n, Hid (modeN name = n) := ⟨_, rfl⟩
  have hn := modeN_lt name
  rw [Hn.out] at hn
  obtain ⟨v, Hv⟩ : ∃ v, Hid (validModeB mode = v) := ⟨_, rfl⟩
  obtain ⟨nm, Hnm⟩ : ∃ v, Hid (nameP mode = v) := ⟨_, rfl⟩
  obtain ⟨k, Hk⟩ : ∃ v, Hid (modeN nm = v) := ⟨_, rfl⟩
  have hvv : (v == v) = true := by cases v <;> rfl
  have hs2 := streq_true (a := nm) (b := nm) rfl
  obtain ⟨z, Hz⟩ : ∃ z, Hid ((n != 0) = z) := ⟨_, rfl⟩
  obtain ⟨z2, Hz2⟩ : ∃ z, Hid ((k != 0) = z) := ⟨_, rfl⟩
  have hzz : (z != z) = false := by cases z <;> rfl
  have HK : Hid (v = true → (k : Int) = mode ∧ z2 = true) := fun hv => by
    have h1 := nm_of mode (Hv.out.trans hv)
    have h2 : nm = nmB mode.toNat := by rw [← Hnm.out]; unfold nameP; rw [if_pos (Hv.out.trans hv)]
    have h3 := modeN_name mode.toNat h1.1 h1.2.1
    rw [← h2, Hk.out] at h3
    refine ⟨by omega, ?_⟩
    rw [← Hz2.out, h3]; simp; omega
  have HN : Hid (z = true → nameP (n : Int) = name) := fun hz => by
    have : modeN name ≠ 0 := by rw [Hn.out]; intro h; rw [← Hz.out, h] at hz; simp at hz
    have h2 := nameP_of this
    rw [Hn.out] at h2; exact h2
  have hs1 := streq_true (a := name) (b := name) rfl
  have hnn : ((n : Int) != (n : Int)) = false := by simp
  cases z with
  | false =>
    go_enter Try.func3, Try.ntmps3
    go_wp2_with fail
    refine (byname_any _ _).mono ?_
    rw [Hn.out, Hz.out]
    rintro e w1 ⟨rfl, hb1⟩
    go_wp2_with fail
    refine (rbyname_any _ _).mono ?_
    rw [Hn.out, Hz.out]
    rintro e w2 ⟨rfl, hb2⟩
    go_wp2_with fail
    refine (name_any mode _).mono ?_
    rw [Hnm.out]
    rintro e w4 ⟨rfl, hb4⟩
    go_wp2_with fail
    refine (byname_any _ _).mono ?_
    rw [Hk.out, Hz2.out]
    rintro e w5 ⟨rfl, hb5⟩
    go_wp2_with fail
    refine (vmode_any _ _).mono ?_
    rw [Hv.out]
    rintro e w6 ⟨rfl, rfl⟩
    cases v with
    | false =>
      go_wp2_with fail
      refine (vmode_any _ _).mono ?_
      rw [Hv.out]
      rintro e w6 ⟨rfl, rfl⟩
      go_wp2_with fail
      refine (rvmode_any _ _).mono ?_
      rw [Hv.out]
      rintro e w6 ⟨rfl, rfl⟩
      go_wp2_with fail
      refine (name_any mode _).mono ?_
      rw [Hnm.out]
      rintro e w7 ⟨rfl, hb7⟩
      go_wp2_with fail
      refine (rname_any mode _).mono ?_
      rw [Hnm.out]
      rintro e w8 ⟨rfl, hb8⟩
      go_wp2_with fail
      refine (ex_any _).mono ?_
      rintro e w9 ⟨rfl, hb9⟩
      go_wp2
      go_ret
      exact ⟨rfl, (by repeat (first | (with_reducible exact Below.refl _ _) | (with_reducible refine balloc ?_ _) | (with_reducible refine Below.drew ?_) | (with_reducible refine bdrewN ?_ _) | ((with_reducible refine bset ?_ ?_ _); rotate_left; focus (first | (with_reducible exact Nat.le_refl _) | (simp; done) | (simp; omega) | omega)) | (with_reducible refine bstep (by with_reducible assumption) ?_)))⟩
    | true =>
      obtain ⟨hk1, hk2⟩ := HK.out rfl
      have hk3 : ((k : Int) != mode) = false := by simp; exact hk1
      subst hk2
      have Hk1 := Lib.hid hk1
      clear hk1
      go_wp2_with fail
      refine (vmode_any _ _).mono ?_
      rw [Hv.out]
      rintro e w6 ⟨rfl, rfl⟩
      go_wp2_with fail
      refine (rvmode_any _ _).mono ?_
      rw [Hv.out]
      rintro e w6 ⟨rfl, rfl⟩
      go_wp2_with fail
      refine (name_any mode _).mono ?_
      rw [Hnm.out]
      rintro e w7 ⟨rfl, hb7⟩
      go_wp2_with fail
      refine (rname_any mode _).mono ?_
      rw [Hnm.out]
      rintro e w8 ⟨rfl, hb8⟩
      go_wp2_with fail
      refine (ex_any _).mono ?_
      rintro e w9 ⟨rfl, hb9⟩
      go_wp2
      go_ret
      exact ⟨rfl, (by repeat (first | (with_reducible exact Below.refl _ _) | (with_reducible refine balloc ?_ _) | (with_reducible refine Below.drew ?_) | (with_reducible refine bdrewN ?_ _) | ((with_reducible refine bset ?_ ?_ _); rotate_left; focus (first | (with_reducible exact Nat.le_refl _) | (simp; done) | (simp; omega) | omega)) | (with_reducible refine bstep (by with_reducible assumption) ?_)))⟩
  | true =>
    go_enter Try.func3, Try.ntmps3
    go_wp2_with fail
    refine (byname_any _ _).mono ?_
    rw [Hn.out, Hz.out]
    rintro e w1 ⟨rfl, hb1⟩
    go_wp2_with fail
    refine (rbyname_any _ _).mono ?_
    rw [Hn.out, Hz.out]
    rintro e w2 ⟨rfl, hb2⟩
    go_wp2_with fail
    refine (name_any (n : Int) _).mono ?_
    rw [HN.out (by first | rfl | exact trivial)]
    rintro e w3 ⟨rfl, hb3⟩
    go_wp2_with fail
    refine (name_any mode _).mono ?_
    rw [Hnm.out]
    rintro e w4 ⟨rfl, hb4⟩
    go_wp2_with fail
    refine (byname_any _ _).mono ?_
    rw [Hk.out, Hz2.out]
    rintro e w5 ⟨rfl, hb5⟩
    go_wp2_with fail
    refine (vmode_any _ _).mono ?_
    rw [Hv.out]
    rintro e w6 ⟨rfl, rfl⟩
    cases v with
    | false =>
      go_wp2_with fail
      refine (vmode_any _ _).mono ?_
      rw [Hv.out]
      rintro e w6 ⟨rfl, rfl⟩
      go_wp2_with fail
      refine (rvmode_any _ _).mono ?_
      rw [Hv.out]
      rintro e w6 ⟨rfl, rfl⟩
      go_wp2_with fail
      refine (name_any mode _).mono ?_
      rw [Hnm.out]
      rintro e w7 ⟨rfl, hb7⟩
      go_wp2_with fail
      refine (rname_any mode _).mono ?_
      rw [Hnm.out]
      rintro e w8 ⟨rfl, hb8⟩
      go_wp2_with fail
      refine (ex_any _).mono ?_
      rintro e w9 ⟨rfl, hb9⟩
      go_wp2
      go_ret
      exact ⟨rfl, (by repeat (first | (with_reducible exact Below.refl _ _) | (with_reducible refine balloc ?_ _) | (with_reducible refine Below.drew ?_) | (with_reducible refine bdrewN ?_ _) | ((with_reducible refine bset ?_ ?_ _); rotate_left; focus (first | (with_reducible exact Nat.le_refl _) | (simp; done) | (simp; omega) | omega)) | (with_reducible refine bstep (by with_reducible assumption) ?_)))⟩
    | true =>
      obtain ⟨hk1, hk2⟩ := HK.out rfl
      have hk3 : ((k : Int) != mode) = false := by simp; exact hk1
      subst hk2
      have Hk1 := Lib.hid hk1
      clear hk1
      go_wp2_with fail
      refine (vmode_any _ _).mono ?_
      rw [Hv.out]
      rintro e w6 ⟨rfl, rfl⟩
      go_wp2_with fail
      refine (rvmode_any _ _).mono ?_
      rw [Hv.out]
      rintro e w6 ⟨rfl, rfl⟩
      go_wp2_with fail
      refine (name_any mode _).mono ?_
      rw [Hnm.out]
      rintro e w7 ⟨rfl, hb7⟩
      go_wp2_with fail
      refine (rname_any mode _).mono ?_
      rw [Hnm.out]
      rintro e w8 ⟨rfl, hb8⟩
      go_wp2_with fail
      refine (ex_any _).mono ?_
      rintro e w9 ⟨rfl, hb9⟩
      go_wp2
      go_ret
      exact ⟨rfl, (by repeat (first | (with_reducible exact Below.refl _ _) | (with_reducible refine balloc ?_ _) | (with_reducible refine Below.drew ?_) | (with_reducible refine bdrewN ?_ _) | ((with_reducible refine bset ?_ ?_ _); rotate_left; focus (first | (with_reducible exact Nat.le_refl _) | (simp; done) | (simp; omega) | omega)) | (with_reducible refine bstep (by with_reducible assumption) ?_)))⟩

set_option maxRecDepth 100000 in
theorem lifted_BlendModeNames (os : Os) (started : os.Started) (H : Type) (enc : TypeId × Value → H) :
    ReturnsInHanded {} Try.checked os 3 .any (Rows.blendModeNamesSpec.pre6 enc Try.prog Try.f3 Rows.blendModeNamesRow.domain false) (Rows.blendModeNamesSpec.post enc Try.prog Try.f3 false true false false) := by
  refine returnsInHanded_of_change (C := Try.checked) Try.own started (by kernel_rfl) Try.func3
    (ChangeSpec.witness6 (enc := enc) (C := Try.checked) false ⟨#[], #[.int .i64 0, .string ⟨#[]⟩], []⟩ 8 (by kernel_rfl) (by kernel_rfl) (by kernel_rfl) (by kernel_rfl)) ?_
  intro W base args ds gs before hval0 hW hcnd _
  have hval : ∀ (j : Nat) t v, Try.f3.params[j]? = some t → args[j]? = some v → Value.okWide Try.prog W .any base t v := hval0
  have hW' := hW
  obtain ⟨p, q, hA0, hV, rfl, hfz, hnd⟩ := hW
  have hA : DataW.TrodAll enc Try.prog W 0 (fun _ => true) true Try.f3.params.toList args.toList ds p := hA0
  rw [Try.params3] at hA hval
  obtain ⟨v0, vs0, d0, ds0, p0, q0, hargs, rfl, rfl, h0, r0⟩ := trodAll_cons hA
  obtain ⟨v1, vs1, d1, ds1, p1, q1, rfl, rfl, rfl, h1, r1⟩ := trodAll_cons r0
  obtain ⟨rfl, rfl, rfl⟩ := trodAll_nil r1
  obtain rfl : args = #[v0, v1] := by cases args; simp_all
  obtain ⟨x0, rfl, _, _, g0⟩ := open_int Try.underlying3 (hval 0 3 v0 rfl rfl) h0
  obtain ⟨x1, rfl, _, _, g1⟩ := ChangeMaps.open_string Try.underlying9 (hval 1 9 v1 rfl rfl) h1
  refine (walk_BlendModeNames x0 x1 W).mono fun e W' ⟨he, hb⟩ => ?_
  subst he
  exact ⟨_, rfl, law_post (tb := 4) Try.laidOut (by kernel_rfl) hW' rfl rfl Try.underlying4 rfl rfl rfl hb⟩

theorem BlendModeNames_holds : Rows.BlendModeNamesSaid :=
  OpenClaim.holds_of_wide 3 Try.f3 rfl rfl rfl rfl rfl rfl rfl ⟨rfl, rfl, rfl, rfl, rfl⟩ rfl rfl rfl rfl rfl (by kernel_rfl) Try.func3 (by kernel_rfl)
    (of_decide_eq_true (by kernel_rfl)) (by unfold Func.isWrapper; first | (rw [if_pos (by decide +kernel)]; kernel_rfl) | (rw [if_neg (by decide +kernel)]; exact ⟨rfl, rfl⟩))
    (fun os started H enc _ => lifted_BlendModeNames os started H enc)
#print axioms BlendModeNames_holds
end Go.Proofs.Ytemkekighlahdaa
