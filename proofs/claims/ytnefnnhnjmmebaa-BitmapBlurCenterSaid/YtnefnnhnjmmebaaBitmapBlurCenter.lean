/- BitmapBlurCenter: for all bytes the law grisaillelaw30.BitmapBlurCenter returns true. No conditions. -/
import Derived.Test.YtnefnnhnjmmebaaBc0
import Derived.Test.YtnefnnhnjmmebaaBc1
import Derived.Test.YtnefnnhnjmmebaaBc2
import Derived.Test.YtnefnnhnjmmebaaBc3
namespace Go.Proofs.Ytnefnnhnjmmebaa
open Go.ChangeShapes Go.WideShapes Go.ChangeAt Go.RowKit
set_option linter.unusedSimpArgs false
set_option linter.unusedVariables false
theorem walk_BitmapBlurCenter (n v : Int) (w : World) (hn : 0 ≤ n ∧ n ≤ 255) (hv : 0 ≤ v ∧ v ≤ 255) :
    Calls Try.prog 10 #[.int .u8 n, .int .u8 v] w fun e w' => e = .returned (.bool true) ∧ Below w.heap.size w w' := by
  have h4 : n % 4 = 0 ∨ n % 4 = 1 ∨ n % 4 = 2 ∨ n % 4 = 3 := by omega
  rcases h4 with h | h | h | h
  · exact bc_0 n v w h hn.1 hn.2 hv.1 hv.2
  · exact bc_1 n v w h hn.1 hn.2 hv.1 hv.2
  · exact bc_2 n v w h hn.1 hn.2 hv.1 hv.2
  · exact bc_3 n v w h hn.1 hn.2 hv.1 hv.2

set_option maxRecDepth 100000 in
theorem lifted_BitmapBlurCenter (os : Os) (started : os.Started) (H : Type) (enc : TypeId × Value → H) :
    ReturnsInHanded {} Try.checked os 10 .any (Rows.bitmapBlurCenterSpec.pre6 enc Try.prog Try.f10 Rows.bitmapBlurCenterRow.domain false) (Rows.bitmapBlurCenterSpec.post enc Try.prog Try.f10 false true false false) := by
  refine returnsInHanded_of_change (C := Try.checked) Try.own started (by kernel_rfl) Try.func10
    (ChangeSpec.witness6 (enc := enc) (C := Try.checked) false ⟨#[], #[.int .u8 0, .int .u8 0], []⟩ 8 (by kernel_rfl) (by kernel_rfl) (by kernel_rfl) (by kernel_rfl)) ?_
  intro W base args ds gs before hval0 hW hcnd _
  have hval : ∀ (j : Nat) t v, Try.f10.params[j]? = some t → args[j]? = some v → Value.okWide Try.prog W .any base t v := hval0
  have hW' := hW
  obtain ⟨p, q, hA0, hV, rfl, hfz, hnd⟩ := hW
  have hA : DataW.TrodAll enc Try.prog W 0 (fun _ => true) true Try.f10.params.toList args.toList ds p := hA0
  rw [Try.params10] at hA hval
  obtain ⟨v0, vs0, d0, ds0, p0, q0, hargs, rfl, rfl, h0, r0⟩ := trodAll_cons hA
  obtain ⟨v1, vs1, d1, ds1, p1, q1, rfl, rfl, rfl, h1, r1⟩ := trodAll_cons r0
  obtain ⟨rfl, rfl, rfl⟩ := trodAll_nil r1
  obtain rfl : args = #[v0, v1] := by cases args; simp_all
  obtain ⟨x0, rfl, _, _, g0⟩ := open_int Try.underlying5 (hval 0 5 v0 rfl rfl) h0
  obtain ⟨x1, rfl, _, _, g1⟩ := open_int Try.underlying5 (hval 1 5 v1 rfl rfl) h1
  refine (walk_BitmapBlurCenter x0 x1 W (bounds_u8 g0) (bounds_u8 g1)).mono fun e W' ⟨he, hb⟩ => ?_
  subst he
  exact ⟨_, rfl, law_post (tb := 4) Try.laidOut (by kernel_rfl) hW' rfl rfl Try.underlying4 rfl rfl rfl hb⟩

theorem BitmapBlurCenter_holds : Rows.BitmapBlurCenterSaid :=
  OpenClaim.holds_of_wide 10 Try.f10 rfl rfl rfl rfl rfl rfl rfl ⟨rfl, rfl, rfl, rfl, rfl⟩ rfl rfl rfl rfl rfl (by kernel_rfl) Try.func10 (by kernel_rfl)
    (of_decide_eq_true (by kernel_rfl)) (by unfold Func.isWrapper; first | (rw [if_pos (by decide +kernel)]; kernel_rfl) | (rw [if_neg (by decide +kernel)]; exact ⟨rfl, rfl⟩))
    (fun os started H enc _ => lifted_BitmapBlurCenter os started H enc)
#print axioms BitmapBlurCenter_holds
end Go.Proofs.Ytnefnnhnjmmebaa
