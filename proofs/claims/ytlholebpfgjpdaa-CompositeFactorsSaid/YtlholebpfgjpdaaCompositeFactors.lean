/- CompositeFactors: for every number and all bytes the law grisaillelaw29.CompositeFactors returns true. No conditions. -/
import Derived.Test.YtlholebpfgjpdaaEx29
namespace Go.Proofs.Ytlholebpfgjpdaa
open Go.ChangeShapes Go.WideShapes Go.ChangeAt Go.RowKit
set_option linter.unusedSimpArgs false
set_option linter.unusedVariables false

set_option maxHeartbeats 1600000 in
theorem walk_CompositeFactors (op sa da : Int) (w : World) (h1 : 0 ≤ sa ∧ sa ≤ 255) (h2 : 0 ≤ da ∧ da ≤ 255) :
    Calls Try.prog 3 #[.int .i64 op, .agg #[.int .u8 sa, .int .u8 da]] w fun e w' => e = .returned (.bool true) ∧ Below w.heap.size w w' := by
  obtain ⟨m, n, Hf⟩ : ∃ m n, Hid (facP op sa da = (m, n)) := ⟨_, _, rfl⟩
  obtain ⟨v, Hv⟩ : ∃ v, Hid (validOpB op = v) := ⟨_, rfl⟩
  have hvv : (v == v) = true := by cases v <;> rfl
  go_enter Try.func3, Try.ntmps3
  go_wp2_with fail
  refine (factors_q op sa da m n Hf _ h1.1 h1.2 h2.1 h2.2).mono ?_
  rintro e w1 ⟨rfl, hb1⟩
  have kQ1 : Bk w1 (w.heap.size) 22 #[.int .u8 sa, .int .u8 da] := (by repeat (first | (with_reducible assumption) | ((with_reducible refine Bk.new _ _ _ ?_); first | (with_reducible rfl) | (simp; done)) | (with_reducible refine Bk.alloc ?_ _) | (with_reducible refine Bk.drew ?_) | (with_reducible refine Bk.drewN ?_ _) | ((with_reducible refine Bk.far ?_ ?_ _); rotate_left; focus (first | (simp; done) | (simp; omega))) | (with_reducible refine Bk.below ?_ (by with_reducible assumption)))); obtain ⟨kcQ1, kfQ1, kaQ1, kgQ1, klQ1⟩ := kQ1.rules
  go_wp2_with fail
  refine (rfactors_q op sa da m n Hf _ h1.1 h1.2 h2.1 h2.2).mono ?_
  rintro e w' ⟨rfl, rfl⟩
  go_wp2_with fail
  refine (validop_any _ _).mono ?_
  rw [Hv.out]
  rintro e w2 ⟨rfl, hb2⟩
  go_wp2_with fail
  refine (rvalidop_any _ _).mono ?_
  rw [Hv.out]
  rintro e w' ⟨rfl, rfl⟩
  go_wp2_with fail
  refine (ex_any _).mono ?_
  rintro e w3 ⟨rfl, hb3⟩
  go_wp2
  go_ret
  exact ⟨rfl, (by repeat (first | (with_reducible exact Below.refl _ _) | (with_reducible refine balloc ?_ _) | (with_reducible refine Below.drew ?_) | (with_reducible refine bdrewN ?_ _) | ((with_reducible refine bset ?_ ?_ _); rotate_left; focus (first | (with_reducible exact Nat.le_refl _) | (simp; done) | (simp; omega) | omega)) | (with_reducible refine bstep (by with_reducible assumption) ?_)))⟩

set_option maxRecDepth 100000 in
theorem lifted_CompositeFactors (os : Os) (started : os.Started) (H : Type) (enc : TypeId × Value → H) :
    ReturnsInHanded {} Try.checked os 3 .any (Rows.compositeFactorsSpec.pre6 enc Try.prog Try.f3 Rows.compositeFactorsRow.domain false) (Rows.compositeFactorsSpec.post enc Try.prog Try.f3 false true false false) := by
  refine returnsInHanded_of_change (C := Try.checked) Try.own started (by kernel_rfl) Try.func3
    (ChangeSpec.witness6 (enc := enc) (C := Try.checked) false ⟨#[], #[.int .i64 0, .agg #[.int .u8 0, .int .u8 0]], []⟩ 8 (by kernel_rfl) (by kernel_rfl) (by kernel_rfl) (by kernel_rfl)) ?_
  intro W base args ds gs before hval0 hW hcnd _
  have hval : ∀ (j : Nat) t v, Try.f3.params[j]? = some t → args[j]? = some v → Value.okWide Try.prog W .any base t v := hval0
  have hW' := hW
  obtain ⟨p, q, hA0, hV, rfl, hfz, hnd⟩ := hW
  have hA : DataW.TrodAll enc Try.prog W 0 (fun _ => true) true Try.f3.params.toList args.toList ds p := hA0
  rw [Try.params3] at hA hval
  obtain ⟨v0, vs0, d0, ds0, p0, q0, hargs, rfl, rfl, h0, r0⟩ := trodAll_cons hA
  obtain ⟨v1, vs1, d1, ds1, p1, q1, rfl, rfl, rfl, h1, r1⟩ := trodAll_cons r0
  obtain ⟨rfl, rfl, rfl⟩ := trodAll_nil r1
  obtain rfl : args = #[v0, v1] := by cases args; simp_all
  obtain ⟨x0, rfl, _, _, g0⟩ := open_int Try.underlying3 (hval 0 3 v0 rfl rfl) h0
  obtain ⟨l1, hl1, rfl, hw1⟩ := open_arr Try.underlying22 Try.underlying5 (by kernel_rfl) (by kernel_rfl) (hval 1 22 v1 rfl rfl) h1
  obtain ⟨x10, x11, rfl⟩ := len2 hl1
  refine (walk_CompositeFactors x0 x10 x11 W (bounds_u8 (hw1 x10 (by simp))) (bounds_u8 (hw1 x11 (by simp)))).mono fun e W' ⟨he, hb⟩ => ?_
  subst he
  exact ⟨_, rfl, law_post (tb := 4) Try.laidOut (by kernel_rfl) hW' rfl rfl Try.underlying4 rfl rfl rfl hb⟩

theorem CompositeFactors_holds : Rows.CompositeFactorsSaid :=
  OpenClaim.holds_of_wide 3 Try.f3 rfl rfl rfl rfl rfl rfl rfl ⟨rfl, rfl, rfl, rfl, rfl⟩ rfl rfl rfl rfl rfl (by kernel_rfl) Try.func3 (by kernel_rfl)
    (of_decide_eq_true (by kernel_rfl)) (by unfold Func.isWrapper; first | (rw [if_pos (by decide +kernel)]; kernel_rfl) | (rw [if_neg (by decide +kernel)]; exact ⟨rfl, rfl⟩))
    (fun os started H enc _ => lifted_CompositeFactors os started H enc)
#print axioms CompositeFactors_holds
end Go.Proofs.Ytlholebpfgjpdaa
