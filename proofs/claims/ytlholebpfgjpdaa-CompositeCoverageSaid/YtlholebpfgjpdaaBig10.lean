/-
  The walks of grisailleref02.DivRound.
-/
import Derived.Test.YtlholebpfgjpdaaBig9
namespace Go.Proofs.Ytlholebpfgjpdaa
open Go.RowKit
set_option linter.unusedSimpArgs false
set_option linter.unusedVariables false

/-- A quotient is handed back, and no error. -/
def RetIE (n : Nat) (w : World) (e : Ending) (w' : World) : Prop := ∃ d : Dg, e = .returned (.tuple #[.agg #[.bool false, .slice d.A d.n d.c], .int .i64 0]) ∧ d.ok w' ∧ d.l = dig n ∧ Frs w.heap.size d ∧ Below w.heap.size w w'
set_option maxHeartbeats 3200000 in
theorem idivround_any (a b : Dg) (w : World) (ha : a.ok w) (hb : b.ok w) (hna : a.n ≤ 100) (hnb : b.n ≤ 100) (h0 : valD b.l ≠ 0) :
    Calls Try.prog 77 #[.agg #[.bool false, .slice a.A a.n a.c], .agg #[.bool false, .slice b.A b.n b.c]] w (RetIE ((valD a.l + valD a.l + valD b.l) / (valD b.l + valD b.l)) w) := by
  have HA := Lib.hid ha
  have HB := Lib.hid hb
  obtain ⟨X, HX⟩ : ∃ X, Hid (valD a.l = X) := ⟨_, rfl⟩
  obtain ⟨Z, HZ⟩ : ∃ X, Hid (valD b.l = X) := ⟨_, rfl⟩
  have hx : X < 4294967296 ^ 100 := by rw [← HX.out]; exact Nat.lt_of_lt_of_le (val_lt ha.dg) (Nat.pow_le_pow_right (by decide) (by rw [ha.ln]; exact hna))
  have hz : Z < 4294967296 ^ 100 := by rw [← HZ.out]; exact Nat.lt_of_lt_of_le (val_lt hb.dg) (Nat.pow_le_pow_right (by decide) (by rw [hb.ln]; exact hnb))
  have hp : 4294967296 ^ 100 * 4294967296 = 4294967296 ^ 101 := (Nat.pow_succ ..).symm
  have HB1 : Hid (X + X < 4294967296 ^ 101 ∧ X + X + Z < 4294967296 ^ 101 ∧ Z + Z < 4294967296 ^ 101) := by
    unfold Hid
    rw [← hp]
    generalize 4294967296 ^ 100 = p at hx hz
    omega
  have HZ0 : Hid (valD b.l ≠ 0) := h0
  have HZ1 : Hid (Z + Z ≠ 0) := by unfold Hid; rw [HZ.out] at h0; omega
  rw [HX.out, HZ.out]
  clear ha hb hx hz hp h0
  go_enter Try.func77, Try.ntmps77
  have k0 : Bk (((w.alloc (.cells #[.bool false, .slice a.A a.n a.c] 96)).alloc (.cells #[.bool false, .slice b.A b.n b.c] 96)).alloc (.cells #[.bool false, .slice none 0 0] 96)) (w.heap.size + 1) 96 #[.bool false, .slice b.A b.n b.c] := (by repeat (first | (with_reducible assumption) | ((with_reducible refine Bk.new _ _ _ ?_); first | (with_reducible rfl) | (simp; done)) | (with_reducible refine Bk.alloc ?_ _) | (with_reducible refine Bk.drew ?_) | (with_reducible refine Bk.drewN ?_ _) | ((with_reducible refine Bk.far ?_ ?_ _); rotate_left; focus (first | (simp; done) | (simp; omega))) | (with_reducible refine Bk.below ?_ (by with_reducible assumption))))
  obtain ⟨kc0, kf0, ka0, kg0, kl0⟩ := k0.rules
  go_wp2_with fail
  refine (sign_any b _ (HB.out.below (by repeat (first | (with_reducible exact Below.refl _ _) | (with_reducible refine balloc ?_ _) | (with_reducible refine Below.drew ?_) | (with_reducible refine bdrewN ?_ _) | ((with_reducible refine bset ?_ ?_ _); rotate_left; focus (first | (with_reducible exact Nat.le_refl _) | (simp; done) | (simp; omega) | omega)) | (with_reducible refine bstep (by with_reducible assumption) ?_)))) (by omega) HZ0.out).mono ?_
  rintro e w1 ⟨rfl, hb1⟩
  clear kc0 kf0 ka0 kg0
  go_wp2_with fail
  refine wp_region_gob 21 [(0, true), (1, true), (2, true), (3, true), (5, true), (6, true), (8, true), (9, true), (10, true), (11, true), (4, false), (7, false), (12, false), (13, false), (14, true), (15, true), (16, true), (17, true), (18, true), (19, true), (20, true)] (by kernel_rfl) (by kernel_rfl) (fun c a d v w h => by cases d <;> exact h) ?_
  repeat (first | (refine wpGo_pure (v := ?_) rfl rfl (fun w' hS => ?_) ?_; rotate_left; (· have kAp : Bk w' (w.heap.size) 96 #[.bool false, .slice a.A a.n a.c] := (by repeat (first | (with_reducible assumption) | ((with_reducible refine Bk.new _ _ _ ?_); first | (with_reducible rfl) | (simp; done)) | (with_reducible refine Bk.alloc ?_ _) | (with_reducible refine Bk.drew ?_) | (with_reducible refine Bk.drewN ?_ _) | ((with_reducible refine Bk.far ?_ ?_ _); rotate_left; focus (first | (simp; done) | (simp; omega))) | (with_reducible refine Bk.below ?_ (by with_reducible assumption)))); obtain ⟨kcAp, kfAp, kaAp, kgAp, klAp⟩ := kAp.rules; have kBp : Bk w' (w.heap.size + 1) 96 #[.bool false, .slice b.A b.n b.c] := (by repeat (first | (with_reducible assumption) | ((with_reducible refine Bk.new _ _ _ ?_); first | (with_reducible rfl) | (simp; done)) | (with_reducible refine Bk.alloc ?_ _) | (with_reducible refine Bk.drew ?_) | (with_reducible refine Bk.drewN ?_ _) | ((with_reducible refine Bk.far ?_ ?_ _); rotate_left; focus (first | (simp; done) | (simp; omega))) | (with_reducible refine Bk.below ?_ (by with_reducible assumption)))); obtain ⟨kcBp, kfBp, kaBp, kgBp, klBp⟩ := kBp.rules; go_simp; exact rfl); (try simp only [Act.put, List.setIfInBounds_toArray, List.set_cons_zero, List.set_cons_succ])) | ((refine wpGo_skip rfl rfl ?_); (try simp only [Act.put, List.setIfInBounds_toArray, List.set_cons_zero, List.set_cons_succ])))
  refine wpGo_eff rfl (fun K hK => ?_)
  go_simp
  refine (add_any a a _ (HA.out.below (by repeat (first | (with_reducible exact Below.refl _ _) | (with_reducible refine balloc ?_ _) | (with_reducible refine Below.drew ?_) | (with_reducible refine bdrewN ?_ _) | ((with_reducible refine bset ?_ ?_ _); rotate_left; focus (first | (with_reducible exact Nat.le_refl _) | (simp; done) | (simp; omega) | omega)) | (with_reducible refine bstep (by with_reducible assumption) ?_)))) (HA.out.below (by repeat (first | (with_reducible exact Below.refl _ _) | (with_reducible refine balloc ?_ _) | (with_reducible refine Below.drew ?_) | (with_reducible refine bdrewN ?_ _) | ((with_reducible refine bset ?_ ?_ _); rotate_left; focus (first | (with_reducible exact Nat.le_refl _) | (simp; done) | (simp; omega) | omega)) | (with_reducible refine bstep (by with_reducible assumption) ?_)))) (by omega) (by omega)).mono ?_
  rintro e w2 ⟨d2, rfl, do2, dl2, hb2⟩
  have HD2 := Lib.hid do2
  have HL2 : Hid (d2.l = dig (X + X)) := by unfold Hid; rw [dl2, HX.out]
  have hd2 : d2.n ≤ 101 := do2.le HL2.out HB1.out.1
  have HV2 : Hid (valD d2.l = X + X) := by unfold Hid; rw [HL2.out, val_dig]
  clear do2 dl2
  refine hK.out _ _ (by repeat (first | (with_reducible exact Below.refl _ _) | (with_reducible refine balloc ?_ _) | (with_reducible refine Below.drew ?_) | (with_reducible refine bdrewN ?_ _) | ((with_reducible refine bset ?_ ?_ _); rotate_left; focus (first | (with_reducible exact Nat.le_refl _) | (simp; done) | (simp; omega) | omega)) | (with_reducible refine bstep (by with_reducible assumption) ?_))) (fun hS2 => ?_)
  clear hK K
  refine wpGo_eff rfl (fun K hK => ?_)
  go_simp
  refine (add_any d2 b _ HD2.out (HB.out.below (by repeat (first | (with_reducible exact Below.refl _ _) | (with_reducible refine balloc ?_ _) | (with_reducible refine Below.drew ?_) | (with_reducible refine bdrewN ?_ _) | ((with_reducible refine bset ?_ ?_ _); rotate_left; focus (first | (with_reducible exact Nat.le_refl _) | (simp; done) | (simp; omega) | omega)) | (with_reducible refine bstep (by with_reducible assumption) ?_)))) (by omega) (by omega)).mono ?_
  rintro e w3 ⟨d3, rfl, do3, dl3, hb3⟩
  have HD3 := Lib.hid do3
  have HL3 : Hid (d3.l = dig (X + X + Z)) := by unfold Hid; rw [dl3, HV2.out, HZ.out]
  have hd3 : d3.n ≤ 101 := do3.le HL3.out HB1.out.2.1
  have HV3 : Hid (valD d3.l = X + X + Z) := by unfold Hid; rw [HL3.out, val_dig]
  clear do3 dl3
  refine hK.out _ _ (by repeat (first | (with_reducible exact Below.refl _ _) | (with_reducible refine balloc ?_ _) | (with_reducible refine Below.drew ?_) | (with_reducible refine bdrewN ?_ _) | ((with_reducible refine bset ?_ ?_ _); rotate_left; focus (first | (with_reducible exact Nat.le_refl _) | (simp; done) | (simp; omega) | omega)) | (with_reducible refine bstep (by with_reducible assumption) ?_))) (fun hS3 => ?_)
  clear hK K
  refine wpGo_eff rfl (fun K hK => ?_)
  go_simp
  refine (add_any b b _ (HB.out.below (by repeat (first | (with_reducible exact Below.refl _ _) | (with_reducible refine balloc ?_ _) | (with_reducible refine Below.drew ?_) | (with_reducible refine bdrewN ?_ _) | ((with_reducible refine bset ?_ ?_ _); rotate_left; focus (first | (with_reducible exact Nat.le_refl _) | (simp; done) | (simp; omega) | omega)) | (with_reducible refine bstep (by with_reducible assumption) ?_)))) (HB.out.below (by repeat (first | (with_reducible exact Below.refl _ _) | (with_reducible refine balloc ?_ _) | (with_reducible refine Below.drew ?_) | (with_reducible refine bdrewN ?_ _) | ((with_reducible refine bset ?_ ?_ _); rotate_left; focus (first | (with_reducible exact Nat.le_refl _) | (simp; done) | (simp; omega) | omega)) | (with_reducible refine bstep (by with_reducible assumption) ?_)))) (by omega) (by omega)).mono ?_
  rintro e w4 ⟨d4, rfl, do4, dl4, hb4⟩
  have HD4 := Lib.hid do4
  have HL4 : Hid (d4.l = dig (Z + Z)) := by unfold Hid; rw [dl4, HZ.out]
  have hd4 : d4.n ≤ 101 := do4.le HL4.out HB1.out.2.2
  have HV4 : Hid (valD d4.l = Z + Z) := by unfold Hid; rw [HL4.out, val_dig]
  clear do4 dl4
  refine hK.out _ _ (by repeat (first | (with_reducible exact Below.refl _ _) | (with_reducible refine balloc ?_ _) | (with_reducible refine Below.drew ?_) | (with_reducible refine bdrewN ?_ _) | ((with_reducible refine bset ?_ ?_ _); rotate_left; focus (first | (with_reducible exact Nat.le_refl _) | (simp; done) | (simp; omega) | omega)) | (with_reducible refine bstep (by with_reducible assumption) ?_))) (fun hS4 => ?_)
  clear hK K
  refine wpGo_eff rfl (fun K hK => ?_)
  go_simp
  refine (divmod_any d3 d4 _ (HD3.out.below hb4) HD4.out (by omega) (by omega) (by rw [HV4.out]; exact HZ1.out)).mono ?_
  rintro e w5 ⟨d5, r5, rfl, do5, dl5, hb5⟩
  have HD5 := Lib.hid do5
  have HL5 : Hid (d5.l = dig ((X + X + Z) / (Z + Z))) := by unfold Hid; rw [dl5, HV3.out, HV4.out]
  have hd5 : d5.n ≤ 101 := do5.le HL5.out (Nat.lt_of_le_of_lt (Nat.div_le_self _ _) HB1.out.2.1)
  clear do5 dl5
  refine hK.out _ _ (by repeat (first | (with_reducible exact Below.refl _ _) | (with_reducible refine balloc ?_ _) | (with_reducible refine Below.drew ?_) | (with_reducible refine bdrewN ?_ _) | ((with_reducible refine bset ?_ ?_ _); rotate_left; focus (first | (with_reducible exact Nat.le_refl _) | (simp; done) | (simp; omega) | omega)) | (with_reducible refine bstep (by with_reducible assumption) ?_))) (fun hS5 => ?_)
  clear hK K
  repeat (first | (refine wpGo_pure (v := ?_) rfl rfl (fun w' hS => ?_) ?_; rotate_left; (· skip; go_simp; exact rfl); (try simp only [Act.put, List.setIfInBounds_toArray, List.set_cons_zero, List.set_cons_succ])) | ((refine wpGo_skip rfl rfl ?_); (try simp only [Act.put, List.setIfInBounds_toArray, List.set_cons_zero, List.set_cons_succ])))
  refine wpGo_nil ?_
  simp only [List.drop_succ_cons, List.drop_zero]
  have kA5 : Bk w5 (w.heap.size) 96 #[.bool false, .slice a.A a.n a.c] := (by repeat (first | (with_reducible assumption) | ((with_reducible refine Bk.new _ _ _ ?_); first | (with_reducible rfl) | (simp; done)) | (with_reducible refine Bk.alloc ?_ _) | (with_reducible refine Bk.drew ?_) | (with_reducible refine Bk.drewN ?_ _) | ((with_reducible refine Bk.far ?_ ?_ _); rotate_left; focus (first | (simp; done) | (simp; omega))) | (with_reducible refine Bk.below ?_ (by with_reducible assumption)))); obtain ⟨kcA5, kfA5, kaA5, kgA5, klA5⟩ := kA5.rules; have kB5 : Bk w5 (w.heap.size + 1) 96 #[.bool false, .slice b.A b.n b.c] := (by repeat (first | (with_reducible assumption) | ((with_reducible refine Bk.new _ _ _ ?_); first | (with_reducible rfl) | (simp; done)) | (with_reducible refine Bk.alloc ?_ _) | (with_reducible refine Bk.drew ?_) | (with_reducible refine Bk.drewN ?_ _) | ((with_reducible refine Bk.far ?_ ?_ _); rotate_left; focus (first | (simp; done) | (simp; omega))) | (with_reducible refine Bk.below ?_ (by with_reducible assumption)))); obtain ⟨kcB5, kfB5, kaB5, kgB5, klB5⟩ := kB5.rules; have kO5 : Bk w5 (w.heap.size + 1 + 1) 96 #[.bool false, .slice none 0 0] := (by repeat (first | (with_reducible assumption) | ((with_reducible refine Bk.new _ _ _ ?_); first | (with_reducible rfl) | (simp; done)) | (with_reducible refine Bk.alloc ?_ _) | (with_reducible refine Bk.drew ?_) | (with_reducible refine Bk.drewN ?_ _) | ((with_reducible refine Bk.far ?_ ?_ _); rotate_left; focus (first | (simp; done) | (simp; omega))) | (with_reducible refine Bk.below ?_ (by with_reducible assumption)))); obtain ⟨kcO5, kfO5, kaO5, kgO5, klO5⟩ := kO5.rules
  have hB5 : Below w.heap.size w w5 := (by repeat (first | (with_reducible exact Below.refl _ _) | (with_reducible refine balloc ?_ _) | (with_reducible refine Below.drew ?_) | (with_reducible refine bdrewN ?_ _) | ((with_reducible refine bset ?_ ?_ _); rotate_left; focus (first | (with_reducible exact Nat.le_refl _) | (simp; done) | (simp; omega) | omega)) | (with_reducible refine bstep (by with_reducible assumption) ?_)))
  go_wp2_with fail
  refine (new_any d5 _ HD5.out (by omega)).mono ?_
  rintro e w6 ⟨d6, rfl, do6, dl6, df6, hb6⟩
  have HD6 := Lib.hid do6
  have HL6 : Hid (d6.l = dig ((X + X + Z) / (Z + Z))) := by unfold Hid; rw [dl6, HL5.out, val_dig]
  have HF6 := Lib.hid df6
  clear do6 dl6 df6 kcA5 kfA5 kaA5 kgA5 kcB5 kfB5 kaB5 kgB5 kcO5 kfO5 kaO5 kgO5
  have kO6 : Bk w6 (w.heap.size + 1 + 1) 96 #[.bool false, .slice none 0 0] := (by repeat (first | (with_reducible assumption) | ((with_reducible refine Bk.new _ _ _ ?_); first | (with_reducible rfl) | (simp; done)) | (with_reducible refine Bk.alloc ?_ _) | (with_reducible refine Bk.drew ?_) | (with_reducible refine Bk.drewN ?_ _) | ((with_reducible refine Bk.far ?_ ?_ _); rotate_left; focus (first | (simp; done) | (simp; omega))) | (with_reducible refine Bk.below ?_ (by with_reducible assumption)))); obtain ⟨kcO6, kfO6, kaO6, kgO6, klO6⟩ := kO6.rules
  have hB6 : Below w.heap.size w w6 := bstep hb6 hB5
  have hs1 := (HD6.out.far HF6.out (p := ⟨w.heap.size + 1 + 1, 0, none⟩) klO5 (.bool false)).far HF6.out (p := ⟨w.heap.size + 1 + 1, 1, none⟩) klO5 (.slice d6.A d6.n d6.c)
  have HS1 := Lib.hid hs1
  clear hs1
  go_wp2
  refine bodyPost_ret (v := .tuple #[.agg #[.bool false, .slice d6.A d6.n d6.c], .int .i64 0]) ?_ rfl ⟨d6, rfl, HS1.out, HL6.out, HF6.out.mono (by omega), (by repeat (first | (with_reducible exact Below.refl _ _) | (with_reducible refine balloc ?_ _) | (with_reducible refine Below.drew ?_) | (with_reducible refine bdrewN ?_ _) | ((with_reducible refine bset ?_ ?_ _); rotate_left; focus (first | (with_reducible exact Nat.le_refl _) | (simp; done) | (simp; omega) | omega)) | (with_reducible refine bstep (by with_reducible assumption) ?_)))⟩
  simp [results, Try.results77, go_sem, kcO6]
end Go.Proofs.Ytlholebpfgjpdaa
