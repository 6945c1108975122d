/- RectPackSquares: for all numbers the law grisaillelaw09.RectPackSquares returns true. No conditions. -/
import Derived.Test.YtiaeaegocfmjhaaPackL
import Derived.Test.YtiaeaegocfmjhaaPackS
namespace Go.Proofs.Ytiaeaegocfmjhaa
open Go.ChangeShapes Go.WideShapes Go.ChangeAt Go.RowKit
set_option linter.unusedSimpArgs false
set_option linter.unusedVariables false

theorem Try.infoPt : (Try.prog.info? 51).map (fun i => (i.zero, i.size, i.bytes)) = some (some (.agg #[.int .i64 0, .int .i64 0]), 2, 16) := by kernel_rfl
theorem encZ_one (z : Int × Int) : ∀ u ∈ encZ z, u.oneCell' = true := by intro u hu; simp [encZ] at hu; rcases hu with rfl | rfl <;> rfl
set_option maxHeartbeats 1600000 in
theorem walk_RectPackSquares (a0 a1 sd n : Int) (w : World) (b0 : 0 ≤ a0 ∧ a0 ≤ 255) (b1 : 0 ≤ a1 ∧ a1 ≤ 255) (b2 : 0 ≤ sd ∧ sd ≤ 255) (b3 : 0 ≤ n ∧ n ≤ 255) :
    Calls Try.prog 11 #[.agg #[.int .u8 a0, .int .u8 a1], .int .u8 sd, .int .u8 n] w fun e w' => e = .returned (.bool true) ∧ Below w.heap.size w w' := by
  obtain ⟨m, rfl⟩ : ∃ m : Nat, n = (m : Int) := ⟨n.toNat, by omega⟩
  obtain ⟨pw, Hpw⟩ : ∃ q, Hid (1 + a0 % 64 = q) := ⟨_, rfl⟩
  obtain ⟨ph, Hph⟩ : ∃ q, Hid (1 + a1 % 64 = q) := ⟨_, rfl⟩
  obtain ⟨s, Hs⟩ : ∃ q, Hid (1 + sd % 64 = q) := ⟨_, rfl⟩
  have p1 : 1 ≤ pw ∧ pw ≤ 64 := by have := Hpw.out; omega
  have p2 : 1 ≤ ph ∧ ph ≤ 64 := by have := Hph.out; omega
  have p3 : 1 ≤ s ∧ s ≤ 64 := by have := Hs.out; omega
  have e0 : a0.tmod 64 = a0 % 64 := Int.tmod_eq_emod_of_nonneg b0.1
  have e1 : a1.tmod 64 = a1 % 64 := Int.tmod_eq_emod_of_nonneg b1.1
  have e2 : sd.tmod 64 = sd % 64 := Int.tmod_eq_emod_of_nonneg b2.1
  have g0 : IntKind.i64.wrap (a0 % 64) = a0 % 64 := IntWalk.i64_in _ (by omega)
  have g1 : IntKind.i64.wrap (a1 % 64) = a1 % 64 := IntWalk.i64_in _ (by omega)
  have g2 : IntKind.i64.wrap (sd % 64) = sd % 64 := IntWalk.i64_in _ (by omega)
  have f0 : IntKind.i64.wrap (1 + a0 % 64) = pw := by rw [← Hpw.out]; exact IntWalk.i64_in _ (by omega)
  have f1 : IntKind.i64.wrap (1 + a1 % 64) = ph := by rw [← Hph.out]; exact IntWalk.i64_in _ (by omega)
  have f2 : IntKind.i64.wrap (1 + sd % 64) = s := by rw [← Hs.out]; exact IntWalk.i64_in _ (by omega)
  go_enter Try.func11, Try.ntmps11
  go_wp2_with fail
  refine wp_region_gob 17 [(0, true), (1, true), (2, true), (3, true), (4, true), (5, true), (6, true), (7, true), (8, true), (9, true), (10, true), (11, true), (12, true), (13, true), (14, true), (15, true), (16, true)] (by kernel_rfl) (by kernel_rfl) (fun c a d v w h => by cases d <;> exact h) ?_
  repeat (refine wpGo_pure (v := ?_) rfl rfl (fun w' hS => ?_) ?_; rotate_left; (· have kQp : Bk w' (w.heap.size) 49 #[.int .u8 a0, .int .u8 a1] := (by repeat (first | (with_reducible assumption) | ((with_reducible refine Bk.new _ _ _ ?_); first | (with_reducible rfl) | (simp; done)) | (with_reducible refine Bk.alloc ?_ _) | (with_reducible refine Bk.drew ?_) | (with_reducible refine Bk.drewN ?_ _) | ((with_reducible refine Bk.far ?_ ?_ _); rotate_left; focus (first | (simp; done) | (simp; omega))) | (with_reducible refine Bk.below ?_ (by with_reducible assumption)))); obtain ⟨kcQp, kfQp, kaQp, kgQp, klQp⟩ := kQp.rules; go_simp; exact rfl); (try simp only [Act.put, List.setIfInBounds_toArray, List.set_cons_zero, List.set_cons_succ]))
  refine wpGo_nil ?_
  simp only [List.drop_succ_cons, List.drop_zero]
  clear e0 e1 e2 f0 f1 f2 g0 g1 g2 Hpw Hph Hs
  go_wp2_with fail
  go_loopw [10, 30] (fun v i wr => ∃ k : Nat, k ≤ m ∧ i = .int .i64 k ∧ OwnL encZ 51 2 wr (w.heap.size + 1) v (List.replicate k (s, s)) ∧ Below w.heap.size w wr ∧ Bk wr w.heap.size 49 #[.int .u8 a0, .int .u8 a1]) (fun _ i _ => m - (intOf i).toNat)
  case atStart => exact ⟨0, Nat.zero_le _, rfl, OwnL.lit (l := []) encZ_len (Bk.drew (Bk.new _ _ _ (by simp))) (Nat.le_refl _) (by simp) rfl, (by repeat (first | (with_reducible exact Below.refl _ _) | (with_reducible refine balloc ?_ _) | (with_reducible refine Below.drew ?_) | (with_reducible refine bdrewN ?_ _) | ((with_reducible refine bset ?_ ?_ _); rotate_left; focus (first | (with_reducible exact Nat.le_refl _) | (simp; done) | (simp; omega) | omega)) | (with_reducible refine bstep (by with_reducible assumption) ?_))), (by repeat (first | (with_reducible assumption) | ((with_reducible refine Bk.new _ _ _ ?_); first | (with_reducible rfl) | (simp; done)) | (with_reducible refine Bk.alloc ?_ _) | (with_reducible refine Bk.drew ?_) | (with_reducible refine Bk.drewN ?_ _) | ((with_reducible refine Bk.far ?_ ?_ _); rotate_left; focus (first | (simp; done) | (simp; omega))) | (with_reducible refine Bk.below ?_ (by with_reducible assumption))))⟩
  case round =>
    obtain ⟨k, hk, rfl, ho, hbw, hbq⟩ := hrel
    have hsz : w.heap.size + 1 ≤ wr.heap.size := hbq.lt
    by_cases hlt : k < m
    · have hfl : (List.replicate k (s, s)).length ≤ 4294967296 := by simp; omega
      have ho1 := ho.alloc (.cells #[.int .i64 s, .int .i64 s] 51)
      go_wp2_with (at_builtin; refine wpList_append_one encZ_len encZ_one 44 Try.infoPt rfl (by decide) (by decide) Try.underlying44 rfl _ _ rfl (w.heap.size + 1) _ _ rfl ho1 wr.heap.size (s, s) rfl (Bk.new _ _ _ rfl) rfl hfl (by simp; omega) ?_; intro v5 w5 ho5 hg5 hv5)
      have hb5 := below_grown ho1 hg5 (balloc hbw _) (by omega)
      have ho6 : OwnL encZ 51 2 w5 (w.heap.size + 1) v5 (List.replicate (k + 1) (s, s)) := by rw [List.replicate_succ']; exact ho5
      have hbq5 := (hbq.alloc (.cells #[.int .i64 s, .int .i64 s] 51)).grownRow ho1 hg5 (Nat.lt_succ_self _)
      clear hv5 hg5 ho5 ho1 hbq
      go_wp2
      go_roundw
      case rel => exact ⟨k + 1, by omega, by go_num, ho6, hb5, hbq5⟩
      case measure => simp [intOf]; omega
    · obtain rfl : k = m := by omega
      obtain ⟨A, c, rfl, hr, hc⟩ := ho.form encZ_len
      rw [List.length_replicate] at hc ⊢
      obtain ⟨b, Hb⟩ : ∃ b, Hid ((packR pw ph (List.replicate k (s, s))).isSome = b) := ⟨_, rfl⟩
      have Hb2 := Lib.hid ((pack_squares (n := k) p1.1 p1.2 p2.1 p2.2 p3.1 p3.2 (by omega)).symm.trans Hb.out)
      have hs0 : ¬ s = 0 := by omega
      obtain ⟨q1, Hq1⟩ : ∃ q, Hid (pw / s = q) := ⟨_, rfl⟩
      obtain ⟨q2, Hq2⟩ : ∃ q, Hid (ph / s = q) := ⟨_, rfl⟩
      have j1 : 0 ≤ q1 ∧ q1 ≤ 64 := by
        rw [← Hq1.out]
        have := Int.ediv_nonneg (show 0 ≤ pw by omega) (show 0 ≤ s by omega)
        have := Int.ediv_le_self s (show 0 ≤ pw by omega)
        omega
      have j2 : 0 ≤ q2 ∧ q2 ≤ 64 := by
        rw [← Hq2.out]
        have := Int.ediv_nonneg (show 0 ≤ ph by omega) (show 0 ≤ s by omega)
        have := Int.ediv_le_self s (show 0 ≤ ph by omega)
        omega
      obtain ⟨q3, Hq3⟩ : ∃ q, Hid (q1 * q2 = q) := ⟨_, rfl⟩
      have j3 : 0 ≤ q3 ∧ q3 ≤ 4096 := by
        rw [← Hq3.out]
        have h1 := Int.mul_nonneg j1.1 j2.1
        have h2 : q1 * q2 ≤ 64 * q2 := Int.mul_le_mul_of_nonneg_right j1.2 j2.1
        omega
      have hR := Lib.hid hr
      clear hr ho
      go_wp2_with fail
      refine (pack_any pw ph A k c _ _ hR.out (by simp)).mono ?_
      rintro e w1 ⟨v1, rfl, ho1, hb1⟩
      rw [Hb.out]
      have t1 : IntKind.i64.wrap (pw.tdiv s) = q1 := by rw [Int.tdiv_eq_ediv_of_nonneg (by omega), Hq1.out]; exact IntWalk.i64_in _ (by omega)
      have t2 : IntKind.i64.wrap (ph.tdiv s) = q2 := by rw [Int.tdiv_eq_ediv_of_nonneg (by omega), Hq2.out]; exact IntWalk.i64_in _ (by omega)
      have t3 : IntKind.i64.wrap (q1 * q2) = q3 := by rw [Hq3.out]; exact IntWalk.i64_in _ (by omega)
      have t4 : decide ((k : Int) ≤ q3) = b := by rw [← Hq3.out, ← Hq1.out, ← Hq2.out]; exact Hb2.out
      have t0 : IntKind.i64.wrap (k : Int) = (k : Int) := IntWalk.i64_in _ (by omega)
      have t5 : (b == b) = true := by cases b <;> rfl
      have hbw1 : Below w.heap.size w w1 := bstep hb1 hbw
      clear Hb Hb2 Hq1 Hq2 Hq3 ho1
      go_wp2_with fail
      refine wp_region_gob 16 [(0, true), (1, true), (2, true), (3, true), (4, true), (5, true), (6, true), (7, true), (8, true), (9, true), (10, true), (11, true), (12, true), (13, false), (14, true), (15, true)] (by kernel_rfl) (by kernel_rfl) (fun c a d v w h => by cases d <;> exact h) ?_
      repeat (refine wpGo_pure (v := ?_) rfl rfl (fun w' hS => ?_) ?_; rotate_left; (· skip; go_simp; exact rfl); (try simp only [Act.put, List.setIfInBounds_toArray, List.set_cons_zero, List.set_cons_succ]))
      refine wpGo_eff rfl (fun K hK => ?_)
      go_simp
      refine (ex_any _).mono ?_
      rintro e w2 ⟨rfl, hb2⟩
      refine hK.out _ _ (by repeat (first | (with_reducible exact Below.refl _ _) | (with_reducible refine balloc ?_ _) | (with_reducible refine Below.drew ?_) | (with_reducible refine bdrewN ?_ _) | ((with_reducible refine bset ?_ ?_ _); rotate_left; focus (first | (with_reducible exact Nat.le_refl _) | (simp; done) | (simp; omega) | omega)) | (with_reducible refine bstep (by with_reducible assumption) ?_))) (fun hS2 => ?_)
      clear hK K
      repeat (refine wpGo_pure (v := ?_) rfl rfl (fun w' hS => ?_) ?_; rotate_left; (· skip; go_simp; exact rfl); (try simp only [Act.put, List.setIfInBounds_toArray, List.set_cons_zero, List.set_cons_succ]))
      refine wpGo_nil ?_
      simp only [List.drop_succ_cons, List.drop_zero]
      go_wp2
      go_ret
      exact ⟨rfl, bstep hb2 (hbw1.drew)⟩

set_option maxRecDepth 100000 in
theorem lifted_RectPackSquares (os : Os) (started : os.Started) (H : Type) (enc : TypeId × Value → H) :
    ReturnsInHanded {} Try.checked os 11 .any (Rows.rectPackSquaresSpec.pre6 enc Try.prog Try.f11 Rows.rectPackSquaresRow.domain false) (Rows.rectPackSquaresSpec.post enc Try.prog Try.f11 false true false false) := by
  refine returnsInHanded_of_change (C := Try.checked) Try.own started (by kernel_rfl) Try.func11
    (ChangeSpec.witness6 (enc := enc) (C := Try.checked) false ⟨#[], #[.agg #[.int .u8 0, .int .u8 0], .int .u8 0, .int .u8 0], []⟩ 8 (by kernel_rfl) (by kernel_rfl) (by kernel_rfl) (by kernel_rfl)) ?_
  intro W base args ds gs before hval0 hW hcnd _
  have hval : ∀ (j : Nat) t v, Try.f11.params[j]? = some t → args[j]? = some v → Value.okWide Try.prog W .any base t v := hval0
  have hW' := hW
  obtain ⟨p, q, hA0, hV, rfl, hfz, hnd⟩ := hW
  have hA : DataW.TrodAll enc Try.prog W 0 (fun _ => true) true Try.f11.params.toList args.toList ds p := hA0
  rw [Try.params11] at hA hval
  obtain ⟨v0, vs0, d0, ds0, p0, q0, hargs, rfl, rfl, h0, r0⟩ := trodAll_cons hA
  obtain ⟨v1, vs1, d1, ds1, p1, q1, rfl, rfl, rfl, h1, r1⟩ := trodAll_cons r0
  obtain ⟨v2, vs2, d2, ds2, p2, q2, rfl, rfl, rfl, h2, r2⟩ := trodAll_cons r1
  obtain ⟨rfl, rfl, rfl⟩ := trodAll_nil r2
  obtain rfl : args = #[v0, v1, v2] := by cases args; simp_all
  obtain ⟨l0, hl0, rfl, hw0⟩ := open_arr Try.underlying49 Try.underlying5 (by kernel_rfl) (by kernel_rfl) (hval 0 49 v0 rfl rfl) h0
  obtain ⟨x00, x01, rfl⟩ := len2 hl0
  obtain ⟨x1, rfl, _, _, g1⟩ := open_int Try.underlying5 (hval 1 5 v1 rfl rfl) h1
  obtain ⟨x2, rfl, _, _, g2⟩ := open_int Try.underlying5 (hval 2 5 v2 rfl rfl) h2
  refine (walk_RectPackSquares x00 x01 x1 x2 W (bounds_u8 (hw0 x00 (by simp))) (bounds_u8 (hw0 x01 (by simp))) (bounds_u8 g1) (bounds_u8 g2)).mono fun e W' ⟨he, hb⟩ => ?_
  subst he
  exact ⟨_, rfl, law_post (tb := 4) Try.laidOut (by kernel_rfl) hW' rfl rfl Try.underlying4 rfl rfl rfl hb⟩

theorem RectPackSquares_holds : Rows.RectPackSquaresSaid :=
  OpenClaim.holds_of_wide 11 Try.f11 rfl rfl rfl rfl rfl rfl rfl ⟨rfl, rfl, rfl, rfl, rfl⟩ rfl rfl rfl rfl rfl (by kernel_rfl) Try.func11 (by kernel_rfl)
    (of_decide_eq_true (by kernel_rfl)) (by unfold Func.isWrapper; first | (rw [if_pos (by decide +kernel)]; kernel_rfl) | (rw [if_neg (by decide +kernel)]; exact ⟨rfl, rfl⟩))
    (fun os started H enc _ => lifted_RectPackSquares os started H enc)
#print axioms RectPackSquares_holds
end Go.Proofs.Ytiaeaegocfmjhaa
