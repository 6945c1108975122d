/- RectDifference: for all rectangles a, b the law grisaillelaw09.RectDifference returns true (rect.Subtract returns the rectangles of the reference, in order). No conditions. -/
import Derived.Test.YtiaeaegocfmjhaaEx09
import Derived.Test.YtiaeaegocfmjhaaLift
namespace Go.Proofs.Ytiaeaegocfmjhaa
open Go.ChangeShapes Go.WideShapes Go.ChangeAt Go.RowKit
set_option linter.unusedSimpArgs false
set_option linter.unusedVariables false


theorem sub_len (a b : Rc) : (subL a b).length ≤ 4 := by
  unfold subL partsL
  refine Nat.le_trans (List.length_filter_le _ _) ?_
  split <;> simp

set_option maxHeartbeats 800000 in
theorem walk_RectDifference (a b c d a' b' c' d' : Int) (w : World) :
    Calls Try.prog 3 #[.agg #[.int .i64 a, .int .i64 b, .int .i64 c, .int .i64 d], .agg #[.int .i64 a', .int .i64 b', .int .i64 c', .int .i64 d']] w fun e w' => e = .returned (.bool true) ∧ Below w.heap.size w w' := by
  go_enter Try.func3, Try.ntmps3
  go_wp2_with fail
  refine wp_region_gob 11 [(0, true), (1, true), (3, true), (4, true), (2, false), (5, false), (6, false), (7, true), (8, false), (9, true), (10, true)] (by kernel_rfl) (by kernel_rfl) (fun c a d v w h => by cases d <;> exact h) ?_
  repeat (refine wpGo_pure (v := ?_) rfl rfl (fun w' hS => ?_) ?_; rotate_left; (· have kAp : Bk w' (w.heap.size) 23 #[.int .i64 a, .int .i64 b, .int .i64 c, .int .i64 d] := (by repeat (first | (with_reducible assumption) | ((with_reducible refine Bk.new _ _ _ ?_); first | (with_reducible rfl) | (simp; done)) | (with_reducible refine Bk.alloc ?_ _) | (with_reducible refine Bk.drew ?_) | (with_reducible refine Bk.drewN ?_ _) | ((with_reducible refine Bk.far ?_ ?_ _); rotate_left; focus (first | (simp; done) | (simp; omega))) | (with_reducible refine Bk.below ?_ (by with_reducible assumption)))); obtain ⟨kcAp, kfAp, kaAp, kgAp, klAp⟩ := kAp.rules; have kBp : Bk w' (w.heap.size + 1) 23 #[.int .i64 a', .int .i64 b', .int .i64 c', .int .i64 d'] := (by repeat (first | (with_reducible assumption) | ((with_reducible refine Bk.new _ _ _ ?_); first | (with_reducible rfl) | (simp; done)) | (with_reducible refine Bk.alloc ?_ _) | (with_reducible refine Bk.drew ?_) | (with_reducible refine Bk.drewN ?_ _) | ((with_reducible refine Bk.far ?_ ?_ _); rotate_left; focus (first | (simp; done) | (simp; omega))) | (with_reducible refine Bk.below ?_ (by with_reducible assumption)))); obtain ⟨kcBp, kfBp, kaBp, kgBp, klBp⟩ := kBp.rules; go_simp; exact rfl); (try simp only [Act.put, List.setIfInBounds_toArray, List.set_cons_zero, List.set_cons_succ]))
  refine wpGo_eff rfl (fun K hK => ?_)
  go_simp
  refine (sub_any _ _ _ _ _ _ _ _ _).mono ?_
  rintro e w1 ⟨v1, rfl, ho1, hb1⟩
  refine hK.out _ _ (by repeat (first | (with_reducible exact Below.refl _ _) | (with_reducible refine balloc ?_ _) | (with_reducible refine Below.drew ?_) | (with_reducible refine bdrewN ?_ _) | ((with_reducible refine bset ?_ ?_ _); rotate_left; focus (first | (with_reducible exact Nat.le_refl _) | (simp; done) | (simp; omega) | omega)) | (with_reducible refine bstep (by with_reducible assumption) ?_))) (fun hS1 => ?_)
  clear hK K
  refine wpGo_eff rfl (fun K hK => ?_)
  go_simp
  refine (rsub_any _ _ _ _ _ _ _ _ _).mono ?_
  rintro e w2 ⟨v2, rfl, ho2, hb2⟩
  refine hK.out _ _ (by repeat (first | (with_reducible exact Below.refl _ _) | (with_reducible refine balloc ?_ _) | (with_reducible refine Below.drew ?_) | (with_reducible refine bdrewN ?_ _) | ((with_reducible refine bset ?_ ?_ _); rotate_left; focus (first | (with_reducible exact Nat.le_refl _) | (simp; done) | (simp; omega) | omega)) | (with_reducible refine bstep (by with_reducible assumption) ?_))) (fun hS2 => ?_)
  clear hK K
  obtain ⟨l, Hl⟩ : ∃ l, Hid (subL ⟨a, b, c, d⟩ ⟨a', b', c', d'⟩ = l) := ⟨_, rfl⟩
  have hll := sub_len ⟨a, b, c, d⟩ ⟨a', b', c', d'⟩
  rw [Hl.out] at ho1 ho2 hll
  obtain ⟨A1, c1, hv1, hr1, hc1⟩ := ho1.form encR_len
  obtain ⟨A2, c2, hv2, hr2, hc2⟩ := ho2.form encR_len
  subst hv1 hv2
  refine wpGo_eff rfl (fun K hK => ?_)
  go_simp
  refine (same_q _ _ _ _ _ _ l l true ((sameB_iff l l).2 rfl) rfl rfl _ (hr1.below hb2) hr2 (by omega) (by omega)).mono ?_
  rintro e w3 ⟨rfl, hb3⟩
  refine hK.out _ _ (by repeat (first | (with_reducible exact Below.refl _ _) | (with_reducible refine balloc ?_ _) | (with_reducible refine Below.drew ?_) | (with_reducible refine bdrewN ?_ _) | ((with_reducible refine bset ?_ ?_ _); rotate_left; focus (first | (with_reducible exact Nat.le_refl _) | (simp; done) | (simp; omega) | omega)) | (with_reducible refine bstep (by with_reducible assumption) ?_))) (fun hS3 => ?_)
  clear hK K
  repeat (refine wpGo_pure (v := ?_) rfl rfl (fun w' hS => ?_) ?_; rotate_left; (· have kAp : Bk w' (w.heap.size) 23 #[.int .i64 a, .int .i64 b, .int .i64 c, .int .i64 d] := (by repeat (first | (with_reducible assumption) | ((with_reducible refine Bk.new _ _ _ ?_); first | (with_reducible rfl) | (simp; done)) | (with_reducible refine Bk.alloc ?_ _) | (with_reducible refine Bk.drew ?_) | (with_reducible refine Bk.drewN ?_ _) | ((with_reducible refine Bk.far ?_ ?_ _); rotate_left; focus (first | (simp; done) | (simp; omega))) | (with_reducible refine Bk.below ?_ (by with_reducible assumption)))); obtain ⟨kcAp, kfAp, kaAp, kgAp, klAp⟩ := kAp.rules; have kBp : Bk w' (w.heap.size + 1) 23 #[.int .i64 a', .int .i64 b', .int .i64 c', .int .i64 d'] := (by repeat (first | (with_reducible assumption) | ((with_reducible refine Bk.new _ _ _ ?_); first | (with_reducible rfl) | (simp; done)) | (with_reducible refine Bk.alloc ?_ _) | (with_reducible refine Bk.drew ?_) | (with_reducible refine Bk.drewN ?_ _) | ((with_reducible refine Bk.far ?_ ?_ _); rotate_left; focus (first | (simp; done) | (simp; omega))) | (with_reducible refine Bk.below ?_ (by with_reducible assumption)))); obtain ⟨kcBp, kfBp, kaBp, kgBp, klBp⟩ := kBp.rules; go_simp; exact rfl); (try simp only [Act.put, List.setIfInBounds_toArray, List.set_cons_zero, List.set_cons_succ]))
  refine wpGo_eff rfl (fun K hK => ?_)
  go_simp
  refine (ex_any _).mono ?_
  rintro e w4 ⟨rfl, hb4⟩
  refine hK.out _ _ (by repeat (first | (with_reducible exact Below.refl _ _) | (with_reducible refine balloc ?_ _) | (with_reducible refine Below.drew ?_) | (with_reducible refine bdrewN ?_ _) | ((with_reducible refine bset ?_ ?_ _); rotate_left; focus (first | (with_reducible exact Nat.le_refl _) | (simp; done) | (simp; omega) | omega)) | (with_reducible refine bstep (by with_reducible assumption) ?_))) (fun hS4 => ?_)
  clear hK K
  repeat (refine wpGo_pure (v := ?_) rfl rfl (fun w' hS => ?_) ?_; rotate_left; (· have kAp : Bk w' (w.heap.size) 23 #[.int .i64 a, .int .i64 b, .int .i64 c, .int .i64 d] := (by repeat (first | (with_reducible assumption) | ((with_reducible refine Bk.new _ _ _ ?_); first | (with_reducible rfl) | (simp; done)) | (with_reducible refine Bk.alloc ?_ _) | (with_reducible refine Bk.drew ?_) | (with_reducible refine Bk.drewN ?_ _) | ((with_reducible refine Bk.far ?_ ?_ _); rotate_left; focus (first | (simp; done) | (simp; omega))) | (with_reducible refine Bk.below ?_ (by with_reducible assumption)))); obtain ⟨kcAp, kfAp, kaAp, kgAp, klAp⟩ := kAp.rules; have kBp : Bk w' (w.heap.size + 1) 23 #[.int .i64 a', .int .i64 b', .int .i64 c', .int .i64 d'] := (by repeat (first | (with_reducible assumption) | ((with_reducible refine Bk.new _ _ _ ?_); first | (with_reducible rfl) | (simp; done)) | (with_reducible refine Bk.alloc ?_ _) | (with_reducible refine Bk.drew ?_) | (with_reducible refine Bk.drewN ?_ _) | ((with_reducible refine Bk.far ?_ ?_ _); rotate_left; focus (first | (simp; done) | (simp; omega))) | (with_reducible refine Bk.below ?_ (by with_reducible assumption)))); obtain ⟨kcBp, kfBp, kaBp, kgBp, klBp⟩ := kBp.rules; go_simp; exact rfl); (try simp only [Act.put, List.setIfInBounds_toArray, List.set_cons_zero, List.set_cons_succ]))
  refine wpGo_nil ?_
  simp only [List.drop_succ_cons, List.drop_zero]
  go_wp2
  go_ret
  exact ⟨rfl, (by repeat (first | (with_reducible exact Below.refl _ _) | (with_reducible refine balloc ?_ _) | (with_reducible refine Below.drew ?_) | (with_reducible refine bdrewN ?_ _) | ((with_reducible refine bset ?_ ?_ _); rotate_left; focus (first | (with_reducible exact Nat.le_refl _) | (simp; done) | (simp; omega) | omega)) | (with_reducible refine bstep (by with_reducible assumption) ?_)))⟩

set_option maxRecDepth 100000 in
theorem lifted_RectDifference (os : Os) (started : os.Started) (H : Type) (enc : TypeId × Value → H) :
    ReturnsInHanded {} Try.checked os 3 .any (Rows.rectDifferenceSpec.pre6 enc Try.prog Try.f3 Rows.rectDifferenceRow.domain false) (Rows.rectDifferenceSpec.post enc Try.prog Try.f3 false true false false) := by
  refine returnsInHanded_of_change (C := Try.checked) Try.own started (by kernel_rfl) Try.func3
    (ChangeSpec.witness6 (enc := enc) (C := Try.checked) false ⟨#[], #[.agg #[.int .i64 0, .int .i64 0, .int .i64 0, .int .i64 0], .agg #[.int .i64 0, .int .i64 0, .int .i64 0, .int .i64 0]], []⟩ 8 (by kernel_rfl) (by kernel_rfl) (by kernel_rfl) (by kernel_rfl)) ?_
  intro W base args ds gs before hval0 hW hcnd _
  have hval : ∀ (j : Nat) t v, Try.f3.params[j]? = some t → args[j]? = some v → Value.okWide Try.prog W .any base t v := hval0
  have hW' := hW
  obtain ⟨p, q, hA0, hV, rfl, hfz, hnd⟩ := hW
  have hA : DataW.TrodAll enc Try.prog W 0 (fun _ => true) true Try.f3.params.toList args.toList ds p := hA0
  rw [Try.params3] at hA hval
  obtain ⟨v0, vs0, d0, ds0, p0, q0, hargs, rfl, rfl, h0, r0⟩ := trodAll_cons hA
  obtain ⟨v1, vs1, d1, ds1, p1, q1, rfl, rfl, rfl, h1, r1⟩ := trodAll_cons r0
  obtain ⟨rfl, rfl, rfl⟩ := trodAll_nil r1
  obtain rfl : args = #[v0, v1] := by cases args; simp_all
  obtain ⟨c00, c01, c02, c03, y00, y01, y02, y03, n0, rfl, _, _, f00, f01, f02, f03⟩ := Joins.open_agg4 Try.underlying23 (by kernel_rfl) (by kernel_rfl) (hval 0 23 v0 rfl rfl) h0
  obtain ⟨x00, rfl, g00⟩ := fld_int Try.underlying3 f00
  obtain ⟨x01, rfl, g01⟩ := fld_int Try.underlying3 f01
  obtain ⟨x02, rfl, g02⟩ := fld_int Try.underlying3 f02
  obtain ⟨x03, rfl, g03⟩ := fld_int Try.underlying3 f03
  obtain ⟨c10, c11, c12, c13, y10, y11, y12, y13, n1, rfl, _, _, f10, f11, f12, f13⟩ := Joins.open_agg4 Try.underlying23 (by kernel_rfl) (by kernel_rfl) (hval 1 23 v1 rfl rfl) h1
  obtain ⟨x10, rfl, g10⟩ := fld_int Try.underlying3 f10
  obtain ⟨x11, rfl, g11⟩ := fld_int Try.underlying3 f11
  obtain ⟨x12, rfl, g12⟩ := fld_int Try.underlying3 f12
  obtain ⟨x13, rfl, g13⟩ := fld_int Try.underlying3 f13
  refine (walk_RectDifference x00 x01 x02 x03 x10 x11 x12 x13 W).mono fun e W' ⟨he, hb⟩ => ?_
  subst he
  exact ⟨_, rfl, law_post (tb := 4) Try.laidOut (by kernel_rfl) hW' rfl rfl Try.underlying4 rfl rfl rfl hb⟩

theorem RectDifference_holds : Rows.RectDifferenceSaid :=
  OpenClaim.holds_of_wide 3 Try.f3 rfl rfl rfl rfl rfl rfl rfl ⟨rfl, rfl, rfl, rfl, rfl⟩ rfl rfl rfl rfl rfl (by kernel_rfl) Try.func3 (by kernel_rfl)
    (of_decide_eq_true (by kernel_rfl)) (by unfold Func.isWrapper; first | (rw [if_pos (by decide +kernel)]; kernel_rfl) | (rw [if_neg (by decide +kernel)]; exact ⟨rfl, rfl⟩))
    (fun os started H enc _ => lifted_RectDifference os started H enc)
#print axioms RectDifference_holds

end Go.Proofs.Ytiaeaegocfmjhaa
