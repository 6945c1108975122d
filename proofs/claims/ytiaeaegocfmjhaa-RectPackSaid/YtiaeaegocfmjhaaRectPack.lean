/- RectPack: for all w, h and every slice of sizes the law grisaillelaw09.RectPack returns true. No conditions. -/
import Derived.Test.YtiaeaegocfmjhaaPackL
namespace Go.Proofs.Ytiaeaegocfmjhaa
open Go.ChangeShapes Go.WideShapes Go.ChangeAt Go.RowKit
set_option linter.unusedSimpArgs false
set_option linter.unusedVariables false

set_option maxHeartbeats 800000 in
theorem walk_RectPack (pw ph : Int) (A : Option Addr) (n c : Nat) (l : List (Int × Int)) (w : World) (hr : RdL encZ 2 w A l) (hn : l.length = n) (hq : ∀ z ∈ l, True) (hc : n ≤ c) (hm : c ≤ maxLen) :
    Calls Try.prog 9 #[.int .i64 pw, .int .i64 ph, .slice A n c] w fun e w' => e = .returned (.bool true) ∧ Below w.heap.size w w' := by
  obtain ⟨o, Ho⟩ : ∃ o, Hid (packR pw ph l = o) := ⟨_, rfl⟩
  have hlen : (o.getD []).length ≤ 1024 := by rw [← Ho.out]; exact pack_getD
  have HR := Lib.hid hr
  have Hn := Lib.hid hn
  clear hr hn hq
  cases h1 : decide ((60 : Int) < (n : Int)) with
  | true =>
    cases h2 : decide ((n : Int) < 1024) with
    | true =>
      go_enter Try.func9, Try.ntmps9
      go_wp2_with fail
      refine (ex_any _).mono ?_
      rintro e w1 ⟨rfl, hb1⟩
      go_wp2
      go_ret
      exact ⟨rfl, (by repeat (first | (with_reducible exact Below.refl _ _) | (with_reducible refine balloc ?_ _) | (with_reducible refine Below.drew ?_) | (with_reducible refine bdrewN ?_ _) | ((with_reducible refine bset ?_ ?_ _); rotate_left; focus (first | (with_reducible exact Nat.le_refl _) | (simp; done) | (simp; omega) | omega)) | (with_reducible refine bstep (by with_reducible assumption) ?_)))⟩
    | false =>
      go_enter Try.func9, Try.ntmps9
      go_wp2_with fail
      refine (pack_any pw ph A n c l _ HR.out Hn.out).mono ?_
      rw [Ho.out]
      rintro e w1 ⟨v1, rfl, ho1, hb1⟩
      go_wp2_with fail
      refine (rpack_any pw ph A n c l _ (HR.out.below hb1) Hn.out).mono ?_
      rw [Ho.out]
      rintro e w2 ⟨v2, rfl, ho2, hb2⟩
      obtain ⟨A1, c1, rfl, hr1, _⟩ := ho1.form encR_len
      obtain ⟨A2, c2, rfl, hr2, _⟩ := ho2.form encR_len
      obtain ⟨b, Hb⟩ : ∃ b, Hid (o.isSome = b) := ⟨_, rfl⟩
      rw [Hb.out]
      obtain ⟨m, Hm⟩ : ∃ m, Hid (o.getD [] = m) := ⟨_, rfl⟩
      rw [Hm.out] at hr1 hr2 hlen ⊢
      go_wp2_with fail
      refine (eqr_q A1 A2 _ _ c1 c2 m m true ((sameB_iff m m).2 rfl) rfl rfl _ (hr1.below hb2) hr2 (by omega) (by omega)).mono ?_
      rintro e w3 ⟨rfl, hb3⟩
      have hbb : (b == b) = true := by cases b <;> rfl
      go_wp2_with fail
      refine (ex_any _).mono ?_
      rintro e w4 ⟨rfl, hb4⟩
      go_wp2
      go_ret
      exact ⟨rfl, (by repeat (first | (with_reducible exact Below.refl _ _) | (with_reducible refine balloc ?_ _) | (with_reducible refine Below.drew ?_) | (with_reducible refine bdrewN ?_ _) | ((with_reducible refine bset ?_ ?_ _); rotate_left; focus (first | (with_reducible exact Nat.le_refl _) | (simp; done) | (simp; omega) | omega)) | (with_reducible refine bstep (by with_reducible assumption) ?_)))⟩
  | false =>
    go_enter Try.func9, Try.ntmps9
    go_wp2_with fail
    refine (pack_any pw ph A n c l _ HR.out Hn.out).mono ?_
    rw [Ho.out]
    rintro e w1 ⟨v1, rfl, ho1, hb1⟩
    go_wp2_with fail
    refine (rpack_any pw ph A n c l _ (HR.out.below hb1) Hn.out).mono ?_
    rw [Ho.out]
    rintro e w2 ⟨v2, rfl, ho2, hb2⟩
    obtain ⟨A1, c1, rfl, hr1, _⟩ := ho1.form encR_len
    obtain ⟨A2, c2, rfl, hr2, _⟩ := ho2.form encR_len
    obtain ⟨b, Hb⟩ : ∃ b, Hid (o.isSome = b) := ⟨_, rfl⟩
    rw [Hb.out]
    obtain ⟨m, Hm⟩ : ∃ m, Hid (o.getD [] = m) := ⟨_, rfl⟩
    rw [Hm.out] at hr1 hr2 hlen ⊢
    go_wp2_with fail
    refine (eqr_q A1 A2 _ _ c1 c2 m m true ((sameB_iff m m).2 rfl) rfl rfl _ (hr1.below hb2) hr2 (by omega) (by omega)).mono ?_
    rintro e w3 ⟨rfl, hb3⟩
    have hbb : (b == b) = true := by cases b <;> rfl
    go_wp2_with fail
    refine (ex_any _).mono ?_
    rintro e w4 ⟨rfl, hb4⟩
    go_wp2
    go_ret
    exact ⟨rfl, (by repeat (first | (with_reducible exact Below.refl _ _) | (with_reducible refine balloc ?_ _) | (with_reducible refine Below.drew ?_) | (with_reducible refine bdrewN ?_ _) | ((with_reducible refine bset ?_ ?_ _); rotate_left; focus (first | (with_reducible exact Nat.le_refl _) | (simp; done) | (simp; omega) | omega)) | (with_reducible refine bstep (by with_reducible assumption) ?_)))⟩

set_option maxRecDepth 100000 in
theorem lifted_RectPack (os : Os) (started : os.Started) (H : Type) (enc : TypeId × Value → H) :
    ReturnsInHanded {} Try.checked os 9 .any (Rows.rectPackSpec.pre6 enc Try.prog Try.f9 Rows.rectPackRow.domain false) (Rows.rectPackSpec.post enc Try.prog Try.f9 false true false false) := by
  refine returnsInHanded_of_change (C := Try.checked) Try.own started (by kernel_rfl) Try.func9
    (ChangeSpec.witness6 (enc := enc) (C := Try.checked) false ⟨#[], #[.int .i64 0, .int .i64 0, .slice none 0 0], []⟩ 8 (by kernel_rfl) (by kernel_rfl) (by kernel_rfl) (by kernel_rfl)) ?_
  intro W base args ds gs before hval0 hW hcnd _
  have hval : ∀ (j : Nat) t v, Try.f9.params[j]? = some t → args[j]? = some v → Value.okWide Try.prog W .any base t v := hval0
  have hW' := hW
  obtain ⟨p, q, hA0, hV, rfl, hfz, hnd⟩ := hW
  have hA : DataW.TrodAll enc Try.prog W 0 (fun _ => true) true Try.f9.params.toList args.toList ds p := hA0
  rw [Try.params9] at hA hval
  obtain ⟨v0, vs0, d0, ds0, p0, q0, hargs, rfl, rfl, h0, r0⟩ := trodAll_cons hA
  obtain ⟨v1, vs1, d1, ds1, p1, q1, rfl, rfl, rfl, h1, r1⟩ := trodAll_cons r0
  obtain ⟨v2, vs2, d2, ds2, p2, q2, rfl, rfl, rfl, h2, r2⟩ := trodAll_cons r1
  obtain ⟨rfl, rfl, rfl⟩ := trodAll_nil r2
  obtain rfl : args = #[v0, v1, v2] := by cases args; simp_all
  obtain ⟨x0, rfl, _, _, g0⟩ := open_int Try.underlying3 (hval 0 3 v0 rfl rfl) h0
  obtain ⟨x1, rfl, _, _, g1⟩ := open_int Try.underlying3 (hval 1 3 v1 rfl rfl) h1
  obtain ⟨A2, n2, c2, l2, rfl, hl2, hr2, hq2, hc2, hm2⟩ := open_rows (encA := encZ) (size := 2) Try.underlying44 (by kernel_rfl) (by decide) dec_pt (hval 2 44 v2 rfl rfl) h2
  refine (walk_RectPack x0 x1 A2 n2 c2 l2 W hr2 hl2 hq2 hc2 hm2).mono fun e W' ⟨he, hb⟩ => ?_
  subst he
  exact ⟨_, rfl, law_post (tb := 4) Try.laidOut (by kernel_rfl) hW' rfl rfl Try.underlying4 rfl rfl rfl hb⟩

theorem RectPack_holds : Rows.RectPackSaid :=
  OpenClaim.holds_of_wide 9 Try.f9 rfl rfl rfl rfl rfl rfl rfl ⟨rfl, rfl, rfl, rfl, rfl⟩ rfl rfl rfl rfl rfl (by kernel_rfl) Try.func9 (by kernel_rfl)
    (of_decide_eq_true (by kernel_rfl)) (by unfold Func.isWrapper; first | (rw [if_pos (by decide +kernel)]; kernel_rfl) | (rw [if_neg (by decide +kernel)]; exact ⟨rfl, rfl⟩))
    (fun os started H enc _ => lifted_RectPack os started H enc)
#print axioms RectPack_holds
end Go.Proofs.Ytiaeaegocfmjhaa
