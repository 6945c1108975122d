/- BlendAlpha: for every mode and all pixels the law grisaillelaw28.BlendAlpha returns true. No conditions. -/
import Derived.Test.YtemkekighlahdaaLaw28
namespace Go.Proofs.Ytemkekighlahdaa
open Go.ChangeShapes Go.WideShapes Go.ChangeAt Go.RowKit
set_option linter.unusedSimpArgs false
set_option linter.unusedVariables false


theorem fld_a (p : Px) (w : World) : (Instr.field 29 (.agg #[.int .u8 p.r, .int .u8 p.g, .int .u8 p.b, .int .u8 p.a]) 3).run Try.prog w = .ok (.int .u8 p.a) w := by kernel_rfl
set_option maxHeartbeats 3200000 in
theorem walk_BlendAlpha (mode : Int) (s d : Px) (w : World) (hs : s.byte) (hd : d.byte) :
    Calls Try.prog 13 #[.int .i64 mode, .agg #[.int .u8 s.r, .int .u8 s.g, .int .u8 s.b, .int .u8 s.a], .agg #[.int .u8 d.r, .int .u8 d.g, .int .u8 d.b, .int .u8 d.a]] w fun e w' => e = .returned (.bool true) ∧ Below w.heap.size w w' := by
  have HS := Lib.hid hs
  have HD := Lib.hid hd
  have hxo := clamp_ok hs
  have hyo := clamp_ok hd
  obtain ⟨x, Hx⟩ : ∃ c, Hid (clampP s = c) := ⟨_, rfl⟩
  obtain ⟨y, Hy⟩ : ∃ c, Hid (clampP d = c) := ⟨_, rfl⟩
  rw [Hx.out] at hxo
  rw [Hy.out] at hyo
  obtain ⟨t, Ht⟩ : ∃ t, Hid (TermP mode x.g x.a y.g y.a = t) := ⟨_, rfl⟩
  obtain ⟨v, Hv⟩ : ∃ v, Hid (validModeB mode = v) := ⟨_, rfl⟩
  obtain ⟨p, Hp⟩ : ∃ p, Hid (blendP mode s d = p) := ⟨_, rfl⟩
  obtain ⟨q, Hq⟩ : ∃ p, Hid (blendP 1 s d = p) := ⟨_, rfl⟩
  have HA : Hid (v = true → p.a = q.a) := fun h => by
    rw [← Hp.out, ← Hq.out, (blend_ok (Hv.out.trans h) hs hd).2.1, (blend_ok (by decide) hs hd).2.1]
  have HT : Hid (9 < mode → t = 0) := fun h => by
    rw [← Ht.out]
    apply term_invalid
    simp only [sepB, Bool.and_eq_false_iff, decide_eq_false_iff_not]
    omega
  obtain ⟨r0, r1, g0, g1, b0, b1, a0, a1⟩ := hxo
  obtain ⟨r0', r1', g0', g1', b0', b1', a0', a1'⟩ := hyo
  clear hs hd
  cases v with
  | false =>
    go_enter Try.func13, Try.ntmps13
    go_wp2_with fail
    refine (vmode_any _ _).mono ?_
    rw [Hv.out]
    rintro e w' ⟨rfl, rfl⟩
    go_wp2_with fail
    refine (ex_any _).mono ?_
    rintro e w11 ⟨rfl, hb11⟩
    go_wp2
    go_ret
    exact ⟨rfl, (by repeat (first | (with_reducible exact Below.refl _ _) | (with_reducible refine balloc ?_ _) | (with_reducible refine Below.drew ?_) | (with_reducible refine bdrewN ?_ _) | ((with_reducible refine bset ?_ ?_ _); rotate_left; focus (first | (with_reducible exact Nat.le_refl _) | (simp; done) | (simp; omega) | omega)) | (with_reducible refine bstep (by with_reducible assumption) ?_)))⟩
  | true =>
    have hA := HA.out rfl
    have HPQ : Hid ((p.a == q.a) = true) := by unfold Hid; rw [hA]; simp
    clear hA HA
    go_enter Try.func13, Try.ntmps13
    go_wp2_with fail
    refine (vmode_any _ _).mono ?_
    rw [Hv.out]
    rintro e w' ⟨rfl, rfl⟩
    go_wp2_with fail
    refine wp_region_mixs 8 [0, 2] [1, 3] [4, 5] [6, 7] (fun _ => 29) (fun _ => #[.int .u8 0, .int .u8 0, .int .u8 0, .int .u8 0]) (by kernel_rfl) (by kernel_rfl) (fun c a d v w h => by cases d <;> exact h) (fun c a d v w h => by cases d <;> exact h) (fun j hj => by simp only [List.mem_cons, List.not_mem_nil, or_false] at hj; rcases hj with rfl | rfl <;> exact ⟨_, rfl, rfl, fun a w => by go_simp; rfl⟩) ?_
    simp only [List.map_cons, List.map_nil]
    repeat (refine wpGo_pure (v := ?_) rfl rfl (fun w' hS => ?_) ?_; rotate_left; (· have kSp : Bk w' (w.heap.size) 29 #[.int .u8 s.r, .int .u8 s.g, .int .u8 s.b, .int .u8 s.a] := (by repeat (first | (with_reducible assumption) | ((with_reducible refine Bk.new _ _ _ ?_); first | (with_reducible rfl) | (simp; done)) | (with_reducible refine Bk.alloc ?_ _) | (with_reducible refine Bk.drew ?_) | (with_reducible refine Bk.drewN ?_ _) | ((with_reducible refine Bk.far ?_ ?_ _); rotate_left; focus (first | (simp; done) | (simp; omega))) | (with_reducible refine Bk.below ?_ (by with_reducible assumption)))); obtain ⟨kcSp, kfSp, kaSp, kgSp, klSp⟩ := kSp.rules; have kDp : Bk w' (w.heap.size + 1) 29 #[.int .u8 d.r, .int .u8 d.g, .int .u8 d.b, .int .u8 d.a] := (by repeat (first | (with_reducible assumption) | ((with_reducible refine Bk.new _ _ _ ?_); first | (with_reducible rfl) | (simp; done)) | (with_reducible refine Bk.alloc ?_ _) | (with_reducible refine Bk.drew ?_) | (with_reducible refine Bk.drewN ?_ _) | ((with_reducible refine Bk.far ?_ ?_ _); rotate_left; focus (first | (simp; done) | (simp; omega))) | (with_reducible refine Bk.below ?_ (by with_reducible assumption)))); obtain ⟨kcDp, kfDp, kaDp, kgDp, klDp⟩ := kDp.rules; go_simp; exact rfl); (try simp only [Act.put, List.setIfInBounds_toArray, List.set_cons_zero, List.set_cons_succ]))
    refine wpGo_nil ?_
    refine wpMix_call rfl (fun w1a hb1a K hK => ?_)
    go_simp
    refine (rclamp_q s.r s.g s.b s.a x Hx _).mono ?_
    rintro e w1 ⟨rfl, hb1⟩
    refine hK.out _ _ hb1 (fun _ => ?_)
    clear hK K
    refine wpMix_call rfl (fun w2a hb2a K hK => ?_)
    go_simp
    refine (rclamp_q d.r d.g d.b d.a y Hy _).mono ?_
    rintro e w2 ⟨rfl, hb2⟩
    refine hK.out _ _ hb2 (fun _ => ?_)
    clear hK K
    refine wpMix_end (fun β w3 hb3 hbk hne => ?_)
    obtain ⟨k4, l4⟩ := hbk 4 (by simp)
    obtain ⟨k5, l5⟩ := hbk 5 (by simp)
    have ne45 := hne 4 (by simp) 5 (by simp) (by decide)
    clear hbk hne
    simp only [putAll, dstOf, ptrTo, List.foldl_cons, List.foldl_nil, List.getElem?_toArray, List.getElem?_cons_succ, List.getElem?_cons_zero, Option.bind_some, Act.put, List.setIfInBounds_toArray, List.set_cons_zero, List.set_cons_succ, List.drop_succ_cons, List.drop_zero]
    generalize β 4 = b4 at *
    generalize β 5 = b5 at *
    clear β
    have l4' : w.heap.size + 1 + 1 ≤ b4 := by simpa using l4
    have l5' : w.heap.size + 1 + 1 ≤ b5 := by simpa using l5
    clear l4 l5
    have kS3 : Bk w3 (w.heap.size) 29 #[.int .u8 s.r, .int .u8 s.g, .int .u8 s.b, .int .u8 s.a] := (by repeat (first | (with_reducible assumption) | ((with_reducible refine Bk.new _ _ _ ?_); first | (with_reducible rfl) | (simp; done)) | (with_reducible refine Bk.alloc ?_ _) | (with_reducible refine Bk.drew ?_) | (with_reducible refine Bk.drewN ?_ _) | ((with_reducible refine Bk.far ?_ ?_ _); rotate_left; focus (first | (simp; done) | (simp; omega))) | (with_reducible refine Bk.below ?_ (by with_reducible assumption)))); obtain ⟨kcS3, kfS3, kaS3, kgS3, klS3⟩ := kS3.rules; have kD3 : Bk w3 (w.heap.size + 1) 29 #[.int .u8 d.r, .int .u8 d.g, .int .u8 d.b, .int .u8 d.a] := (by repeat (first | (with_reducible assumption) | ((with_reducible refine Bk.new _ _ _ ?_); first | (with_reducible rfl) | (simp; done)) | (with_reducible refine Bk.alloc ?_ _) | (with_reducible refine Bk.drew ?_) | (with_reducible refine Bk.drewN ?_ _) | ((with_reducible refine Bk.far ?_ ?_ _); rotate_left; focus (first | (simp; done) | (simp; omega))) | (with_reducible refine Bk.below ?_ (by with_reducible assumption)))); obtain ⟨kcD3, kfD3, kaD3, kgD3, klD3⟩ := kD3.rules
    clear kcS3 kfS3 kaS3 kgS3 kcD3 kfD3 kaD3 kgD3
    obtain ⟨kc4, kf4, ka4, kg4, kl4⟩ := k4.rules
    obtain ⟨kc5, kf5, ka5, kg5, kl5⟩ := k5.rules
    refine wpGo_eff rfl (fun K hK => ?_)
    go_simp
    refine hK.out _ _ (by repeat (first | (with_reducible exact Below.refl _ _) | (with_reducible refine balloc ?_ _) | (with_reducible refine Below.drew ?_) | (with_reducible refine bdrewN ?_ _) | ((with_reducible refine bset ?_ ?_ _); rotate_left; focus (first | (with_reducible exact Nat.le_refl _) | (simp; done) | (simp; omega) | omega)) | (with_reducible refine bstep (by with_reducible assumption) ?_))) (fun hS4 => ?_)
    clear hK K
    refine wpGo_eff rfl (fun K hK => ?_)
    go_simp
    refine hK.out _ _ (by repeat (first | (with_reducible exact Below.refl _ _) | (with_reducible refine balloc ?_ _) | (with_reducible refine Below.drew ?_) | (with_reducible refine bdrewN ?_ _) | ((with_reducible refine bset ?_ ?_ _); rotate_left; focus (first | (with_reducible exact Nat.le_refl _) | (simp; done) | (simp; omega) | omega)) | (with_reducible refine bstep (by with_reducible assumption) ?_))) (fun hS5 => ?_)
    clear hK K
    refine wpGo_nil ?_
    have jS : Bk _ (w.heap.size) 29 #[.int .u8 s.r, .int .u8 s.g, .int .u8 s.b, .int .u8 s.a] := ((((((((kS3.far (p := ⟨b4, 0, none⟩) (by simp <;> omega) (.int .u8 x.r)).far (p := ⟨b4, 1, none⟩) (by simp <;> omega) (.int .u8 x.g)).far (p := ⟨b4, 2, none⟩) (by simp <;> omega) (.int .u8 x.b)).far (p := ⟨b4, 3, none⟩) (by simp <;> omega) (.int .u8 x.a)).far (p := ⟨b5, 0, none⟩) (by simp <;> omega) (.int .u8 y.r)).far (p := ⟨b5, 1, none⟩) (by simp <;> omega) (.int .u8 y.g)).far (p := ⟨b5, 2, none⟩) (by simp <;> omega) (.int .u8 y.b)).far (p := ⟨b5, 3, none⟩) (by simp <;> omega) (.int .u8 y.a))
    have jD : Bk _ (w.heap.size + 1) 29 #[.int .u8 d.r, .int .u8 d.g, .int .u8 d.b, .int .u8 d.a] := ((((((((kD3.far (p := ⟨b4, 0, none⟩) (by simp <;> omega) (.int .u8 x.r)).far (p := ⟨b4, 1, none⟩) (by simp <;> omega) (.int .u8 x.g)).far (p := ⟨b4, 2, none⟩) (by simp <;> omega) (.int .u8 x.b)).far (p := ⟨b4, 3, none⟩) (by simp <;> omega) (.int .u8 x.a)).far (p := ⟨b5, 0, none⟩) (by simp <;> omega) (.int .u8 y.r)).far (p := ⟨b5, 1, none⟩) (by simp <;> omega) (.int .u8 y.g)).far (p := ⟨b5, 2, none⟩) (by simp <;> omega) (.int .u8 y.b)).far (p := ⟨b5, 3, none⟩) (by simp <;> omega) (.int .u8 y.a))
    have jX : Bk _ b4 29 #[.int .u8 x.r, .int .u8 x.g, .int .u8 x.b, .int .u8 x.a] := ((((((((k4.set 0 (.int .u8 x.r)).set 1 (.int .u8 x.g)).set 2 (.int .u8 x.b)).set 3 (.int .u8 x.a)).far (p := ⟨b5, 0, none⟩) ne45 (.int .u8 y.r)).far (p := ⟨b5, 1, none⟩) ne45 (.int .u8 y.g)).far (p := ⟨b5, 2, none⟩) ne45 (.int .u8 y.b)).far (p := ⟨b5, 3, none⟩) ne45 (.int .u8 y.a))
    have jY : Bk _ b5 29 #[.int .u8 y.r, .int .u8 y.g, .int .u8 y.b, .int .u8 y.a] := ((((((((k5.far (p := ⟨b4, 0, none⟩) ne45.symm (.int .u8 x.r)).far (p := ⟨b4, 1, none⟩) ne45.symm (.int .u8 x.g)).far (p := ⟨b4, 2, none⟩) ne45.symm (.int .u8 x.b)).far (p := ⟨b4, 3, none⟩) ne45.symm (.int .u8 x.a)).set 0 (.int .u8 y.r)).set 1 (.int .u8 y.g)).set 2 (.int .u8 y.b)).set 3 (.int .u8 y.a))
    have hW0 : Below w.heap.size w w3 := (by repeat (first | (with_reducible exact Below.refl _ _) | (with_reducible refine balloc ?_ _) | (with_reducible refine Below.drew ?_) | (with_reducible refine bdrewN ?_ _) | ((with_reducible refine bset ?_ ?_ _); rotate_left; focus (first | (with_reducible exact Nat.le_refl _) | (simp; done) | (simp; omega) | omega)) | (with_reducible refine bstep (by with_reducible assumption) ?_)))
    have hV := (bset (bset (bset (bset (bset (bset (bset (bset hW0 (p := ⟨b4, 0, none⟩) (by show _ ≤ b4; omega) (.int .u8 x.r)) (p := ⟨b4, 1, none⟩) (by show _ ≤ b4; omega) (.int .u8 x.g)) (p := ⟨b4, 2, none⟩) (by show _ ≤ b4; omega) (.int .u8 x.b)) (p := ⟨b4, 3, none⟩) (by show _ ≤ b4; omega) (.int .u8 x.a)) (p := ⟨b5, 0, none⟩) (by show _ ≤ b5; omega) (.int .u8 y.r)) (p := ⟨b5, 1, none⟩) (by show _ ≤ b5; omega) (.int .u8 y.g)) (p := ⟨b5, 2, none⟩) (by show _ ≤ b5; omega) (.int .u8 y.b)) (p := ⟨b5, 3, none⟩) (by show _ ≤ b5; omega) (.int .u8 y.a))
    go_wp2_with fail
    generalize ((((((((w3.setCell ⟨b4, 0, none⟩ (.int .u8 x.r)).setCell ⟨b4, 1, none⟩ (.int .u8 x.g)).setCell ⟨b4, 2, none⟩ (.int .u8 x.b)).setCell ⟨b4, 3, none⟩ (.int .u8 x.a)).setCell ⟨b5, 0, none⟩ (.int .u8 y.r)).setCell ⟨b5, 1, none⟩ (.int .u8 y.g)).setCell ⟨b5, 2, none⟩ (.int .u8 y.b)).setCell ⟨b5, 3, none⟩ (.int .u8 y.a)) = w9 at hV jS jD jX jY ⊢
    clear k4 k5 kS3 kD3 kc4 kf4 ka4 kg4 kl4 kc5 kf5 ka5 kg5 kl5 hS4 hS5 hW0 hb1a hb1 hb2a hb2 hb3 klS3 klD3

    have kX9 : Bk w9 (b4) 29 #[.int .u8 x.r, .int .u8 x.g, .int .u8 x.b, .int .u8 x.a] := (by repeat (first | (with_reducible assumption) | ((with_reducible refine Bk.new _ _ _ ?_); first | (with_reducible rfl) | (simp; done)) | (with_reducible refine Bk.alloc ?_ _) | (with_reducible refine Bk.drew ?_) | (with_reducible refine Bk.drewN ?_ _) | ((with_reducible refine Bk.far ?_ ?_ _); rotate_left; focus (first | (simp; done) | (simp; omega))) | (with_reducible refine Bk.below ?_ (by with_reducible assumption)))); obtain ⟨kcX9, kfX9, kaX9, kgX9, klX9⟩ := kX9.rules; have kY9 : Bk w9 (b5) 29 #[.int .u8 y.r, .int .u8 y.g, .int .u8 y.b, .int .u8 y.a] := (by repeat (first | (with_reducible assumption) | ((with_reducible refine Bk.new _ _ _ ?_); first | (with_reducible rfl) | (simp; done)) | (with_reducible refine Bk.alloc ?_ _) | (with_reducible refine Bk.drew ?_) | (with_reducible refine Bk.drewN ?_ _) | ((with_reducible refine Bk.far ?_ ?_ _); rotate_left; focus (first | (simp; done) | (simp; omega))) | (with_reducible refine Bk.below ?_ (by with_reducible assumption)))); obtain ⟨kcY9, kfY9, kaY9, kgY9, klY9⟩ := kY9.rules
    go_wp2_with fail
    refine (Term_any _ _ _ _ _ _).mono ?_
    rw [Ht.out]
    rintro e w' ⟨rfl, rfl⟩
    clear kcX9 kfX9 kaX9 kgX9 kcY9 kfY9 kaY9 kgY9
    have hpq := HPQ.out
    have hf1 := fld_a p
    have hf2 := fld_a q
    cases hm : decide (mode ≤ 9) with
    | true =>
      go_wp2_with fail
      refine wp_region_gob 22 [(0, true), (1, true), (2, true), (5, true), (6, true), (3, false), (4, true), (7, false), (8, true), (9, true), (10, true), (11, true), (12, true), (13, true), (14, true), (15, true), (16, true), (17, true), (18, true), (19, false), (20, true), (21, true)] (by kernel_rfl) (by kernel_rfl) (fun c a d v w h => by cases d <;> exact h) ?_
      repeat (refine wpGo_pure (v := ?_) rfl rfl (fun w' hS => ?_) ?_; rotate_left; (· have kSp : Bk w' (w.heap.size) 29 #[.int .u8 s.r, .int .u8 s.g, .int .u8 s.b, .int .u8 s.a] := (by repeat (first | (with_reducible assumption) | ((with_reducible refine Bk.new _ _ _ ?_); first | (with_reducible rfl) | (simp; done)) | (with_reducible refine Bk.alloc ?_ _) | (with_reducible refine Bk.drew ?_) | (with_reducible refine Bk.drewN ?_ _) | ((with_reducible refine Bk.far ?_ ?_ _); rotate_left; focus (first | (simp; done) | (simp; omega))) | (with_reducible refine Bk.below ?_ (by with_reducible assumption)))); obtain ⟨kcSp, kfSp, kaSp, kgSp, klSp⟩ := kSp.rules; have kDp : Bk w' (w.heap.size + 1) 29 #[.int .u8 d.r, .int .u8 d.g, .int .u8 d.b, .int .u8 d.a] := (by repeat (first | (with_reducible assumption) | ((with_reducible refine Bk.new _ _ _ ?_); first | (with_reducible rfl) | (simp; done)) | (with_reducible refine Bk.alloc ?_ _) | (with_reducible refine Bk.drew ?_) | (with_reducible refine Bk.drewN ?_ _) | ((with_reducible refine Bk.far ?_ ?_ _); rotate_left; focus (first | (simp; done) | (simp; omega))) | (with_reducible refine Bk.below ?_ (by with_reducible assumption)))); obtain ⟨kcDp, kfDp, kaDp, kgDp, klDp⟩ := kDp.rules; go_simp; exact rfl); (try simp only [Act.put, List.setIfInBounds_toArray, List.set_cons_zero, List.set_cons_succ]))
      refine wpGo_eff rfl (fun K hK => ?_)
      go_simp
      refine (blend_q mode s d _ HS.out HD.out p Hp).mono ?_
      rintro e w10 ⟨rfl, hb10⟩
      refine hK.out _ _ (by repeat (first | (with_reducible exact Below.refl _ _) | (with_reducible refine balloc ?_ _) | (with_reducible refine Below.drew ?_) | (with_reducible refine bdrewN ?_ _) | ((with_reducible refine bset ?_ ?_ _); rotate_left; focus (first | (with_reducible exact Nat.le_refl _) | (simp; done) | (simp; omega) | omega)) | (with_reducible refine bstep (by with_reducible assumption) ?_))) (fun hS10 => ?_)
      clear hK K
      repeat (refine wpGo_pure (v := ?_) rfl rfl (fun w' hS => ?_) ?_; rotate_left; (· skip; go_simp; exact rfl); (try simp only [Act.put, List.setIfInBounds_toArray, List.set_cons_zero, List.set_cons_succ]))
      refine wpGo_eff rfl (fun K hK => ?_)
      go_simp
      refine (blend_q 1 s d _ HS.out HD.out q Hq).mono ?_
      rintro e w11 ⟨rfl, hb11⟩
      refine hK.out _ _ (by repeat (first | (with_reducible exact Below.refl _ _) | (with_reducible refine balloc ?_ _) | (with_reducible refine Below.drew ?_) | (with_reducible refine bdrewN ?_ _) | ((with_reducible refine bset ?_ ?_ _); rotate_left; focus (first | (with_reducible exact Nat.le_refl _) | (simp; done) | (simp; omega) | omega)) | (with_reducible refine bstep (by with_reducible assumption) ?_))) (fun hS11 => ?_)
      clear hK K
      repeat (first | (refine wpGo_pure (v := ?_) rfl rfl (fun w' hS => ?_) ?_; rotate_left; (· have kSp : Bk w' (w.heap.size) 29 #[.int .u8 s.r, .int .u8 s.g, .int .u8 s.b, .int .u8 s.a] := (by repeat (first | (with_reducible assumption) | ((with_reducible refine Bk.new _ _ _ ?_); first | (with_reducible rfl) | (simp; done)) | (with_reducible refine Bk.alloc ?_ _) | (with_reducible refine Bk.drew ?_) | (with_reducible refine Bk.drewN ?_ _) | ((with_reducible refine Bk.far ?_ ?_ _); rotate_left; focus (first | (simp; done) | (simp; omega))) | (with_reducible refine Bk.below ?_ (by with_reducible assumption)))); obtain ⟨kcSp, kfSp, kaSp, kgSp, klSp⟩ := kSp.rules; have kDp : Bk w' (w.heap.size + 1) 29 #[.int .u8 d.r, .int .u8 d.g, .int .u8 d.b, .int .u8 d.a] := (by repeat (first | (with_reducible assumption) | ((with_reducible refine Bk.new _ _ _ ?_); first | (with_reducible rfl) | (simp; done)) | (with_reducible refine Bk.alloc ?_ _) | (with_reducible refine Bk.drew ?_) | (with_reducible refine Bk.drewN ?_ _) | ((with_reducible refine Bk.far ?_ ?_ _); rotate_left; focus (first | (simp; done) | (simp; omega))) | (with_reducible refine Bk.below ?_ (by with_reducible assumption)))); obtain ⟨kcDp, kfDp, kaDp, kgDp, klDp⟩ := kDp.rules; go_simp; exact rfl); (try simp only [Act.put, List.setIfInBounds_toArray, List.set_cons_zero, List.set_cons_succ])) | ((refine wpGo_skip rfl rfl ?_); (try simp only [Act.put, List.setIfInBounds_toArray, List.set_cons_zero, List.set_cons_succ])))
      refine wpGo_eff rfl (fun K hK => ?_)
      go_simp
      refine (ex_any _).mono ?_
      rintro e w12 ⟨rfl, hb12⟩
      refine hK.out _ _ (by repeat (first | (with_reducible exact Below.refl _ _) | (with_reducible refine balloc ?_ _) | (with_reducible refine Below.drew ?_) | (with_reducible refine bdrewN ?_ _) | ((with_reducible refine bset ?_ ?_ _); rotate_left; focus (first | (with_reducible exact Nat.le_refl _) | (simp; done) | (simp; omega) | omega)) | (with_reducible refine bstep (by with_reducible assumption) ?_))) (fun hS12 => ?_)
      clear hK K
      repeat (refine wpGo_pure (v := ?_) rfl rfl (fun w' hS => ?_) ?_; rotate_left; (· skip; go_simp; exact rfl); (try simp only [Act.put, List.setIfInBounds_toArray, List.set_cons_zero, List.set_cons_succ]))
      refine wpGo_nil ?_
      simp only [List.drop_succ_cons, List.drop_zero]
      go_wp2
      go_ret
      exact ⟨rfl, (by repeat (first | (with_reducible exact Below.refl _ _) | (with_reducible refine balloc ?_ _) | (with_reducible refine Below.drew ?_) | (with_reducible refine bdrewN ?_ _) | ((with_reducible refine bset ?_ ?_ _); rotate_left; focus (first | (with_reducible exact Nat.le_refl _) | (simp; done) | (simp; omega) | omega)) | (with_reducible refine bstep (by with_reducible assumption) ?_)))⟩
    | false =>
      have h0 := HT.out (by have := of_decide_eq_false hm; omega)
      subst h0
      go_wp2_with fail
      refine wp_region_gob 22 [(0, true), (1, true), (2, true), (5, true), (6, true), (3, false), (4, true), (7, false), (8, true), (9, true), (10, true), (11, true), (12, true), (13, true), (14, true), (15, true), (16, true), (17, true), (18, true), (19, false), (20, true), (21, true)] (by kernel_rfl) (by kernel_rfl) (fun c a d v w h => by cases d <;> exact h) ?_
      repeat (refine wpGo_pure (v := ?_) rfl rfl (fun w' hS => ?_) ?_; rotate_left; (· have kSp : Bk w' (w.heap.size) 29 #[.int .u8 s.r, .int .u8 s.g, .int .u8 s.b, .int .u8 s.a] := (by repeat (first | (with_reducible assumption) | ((with_reducible refine Bk.new _ _ _ ?_); first | (with_reducible rfl) | (simp; done)) | (with_reducible refine Bk.alloc ?_ _) | (with_reducible refine Bk.drew ?_) | (with_reducible refine Bk.drewN ?_ _) | ((with_reducible refine Bk.far ?_ ?_ _); rotate_left; focus (first | (simp; done) | (simp; omega))) | (with_reducible refine Bk.below ?_ (by with_reducible assumption)))); obtain ⟨kcSp, kfSp, kaSp, kgSp, klSp⟩ := kSp.rules; have kDp : Bk w' (w.heap.size + 1) 29 #[.int .u8 d.r, .int .u8 d.g, .int .u8 d.b, .int .u8 d.a] := (by repeat (first | (with_reducible assumption) | ((with_reducible refine Bk.new _ _ _ ?_); first | (with_reducible rfl) | (simp; done)) | (with_reducible refine Bk.alloc ?_ _) | (with_reducible refine Bk.drew ?_) | (with_reducible refine Bk.drewN ?_ _) | ((with_reducible refine Bk.far ?_ ?_ _); rotate_left; focus (first | (simp; done) | (simp; omega))) | (with_reducible refine Bk.below ?_ (by with_reducible assumption)))); obtain ⟨kcDp, kfDp, kaDp, kgDp, klDp⟩ := kDp.rules; go_simp; exact rfl); (try simp only [Act.put, List.setIfInBounds_toArray, List.set_cons_zero, List.set_cons_succ]))
      refine wpGo_eff rfl (fun K hK => ?_)
      go_simp
      refine (blend_q mode s d _ HS.out HD.out p Hp).mono ?_
      rintro e w10 ⟨rfl, hb10⟩
      refine hK.out _ _ (by repeat (first | (with_reducible exact Below.refl _ _) | (with_reducible refine balloc ?_ _) | (with_reducible refine Below.drew ?_) | (with_reducible refine bdrewN ?_ _) | ((with_reducible refine bset ?_ ?_ _); rotate_left; focus (first | (with_reducible exact Nat.le_refl _) | (simp; done) | (simp; omega) | omega)) | (with_reducible refine bstep (by with_reducible assumption) ?_))) (fun hS10 => ?_)
      clear hK K
      repeat (refine wpGo_pure (v := ?_) rfl rfl (fun w' hS => ?_) ?_; rotate_left; (· skip; go_simp; exact rfl); (try simp only [Act.put, List.setIfInBounds_toArray, List.set_cons_zero, List.set_cons_succ]))
      refine wpGo_eff rfl (fun K hK => ?_)
      go_simp
      refine (blend_q 1 s d _ HS.out HD.out q Hq).mono ?_
      rintro e w11 ⟨rfl, hb11⟩
      refine hK.out _ _ (by repeat (first | (with_reducible exact Below.refl _ _) | (with_reducible refine balloc ?_ _) | (with_reducible refine Below.drew ?_) | (with_reducible refine bdrewN ?_ _) | ((with_reducible refine bset ?_ ?_ _); rotate_left; focus (first | (with_reducible exact Nat.le_refl _) | (simp; done) | (simp; omega) | omega)) | (with_reducible refine bstep (by with_reducible assumption) ?_))) (fun hS11 => ?_)
      clear hK K
      repeat (first | (refine wpGo_pure (v := ?_) rfl rfl (fun w' hS => ?_) ?_; rotate_left; (· have kSp : Bk w' (w.heap.size) 29 #[.int .u8 s.r, .int .u8 s.g, .int .u8 s.b, .int .u8 s.a] := (by repeat (first | (with_reducible assumption) | ((with_reducible refine Bk.new _ _ _ ?_); first | (with_reducible rfl) | (simp; done)) | (with_reducible refine Bk.alloc ?_ _) | (with_reducible refine Bk.drew ?_) | (with_reducible refine Bk.drewN ?_ _) | ((with_reducible refine Bk.far ?_ ?_ _); rotate_left; focus (first | (simp; done) | (simp; omega))) | (with_reducible refine Bk.below ?_ (by with_reducible assumption)))); obtain ⟨kcSp, kfSp, kaSp, kgSp, klSp⟩ := kSp.rules; have kDp : Bk w' (w.heap.size + 1) 29 #[.int .u8 d.r, .int .u8 d.g, .int .u8 d.b, .int .u8 d.a] := (by repeat (first | (with_reducible assumption) | ((with_reducible refine Bk.new _ _ _ ?_); first | (with_reducible rfl) | (simp; done)) | (with_reducible refine Bk.alloc ?_ _) | (with_reducible refine Bk.drew ?_) | (with_reducible refine Bk.drewN ?_ _) | ((with_reducible refine Bk.far ?_ ?_ _); rotate_left; focus (first | (simp; done) | (simp; omega))) | (with_reducible refine Bk.below ?_ (by with_reducible assumption)))); obtain ⟨kcDp, kfDp, kaDp, kgDp, klDp⟩ := kDp.rules; go_simp; exact rfl); (try simp only [Act.put, List.setIfInBounds_toArray, List.set_cons_zero, List.set_cons_succ])) | ((refine wpGo_skip rfl rfl ?_); (try simp only [Act.put, List.setIfInBounds_toArray, List.set_cons_zero, List.set_cons_succ])))
      refine wpGo_eff rfl (fun K hK => ?_)
      go_simp
      refine (ex_any _).mono ?_
      rintro e w12 ⟨rfl, hb12⟩
      refine hK.out _ _ (by repeat (first | (with_reducible exact Below.refl _ _) | (with_reducible refine balloc ?_ _) | (with_reducible refine Below.drew ?_) | (with_reducible refine bdrewN ?_ _) | ((with_reducible refine bset ?_ ?_ _); rotate_left; focus (first | (with_reducible exact Nat.le_refl _) | (simp; done) | (simp; omega) | omega)) | (with_reducible refine bstep (by with_reducible assumption) ?_))) (fun hS12 => ?_)
      clear hK K
      repeat (refine wpGo_pure (v := ?_) rfl rfl (fun w' hS => ?_) ?_; rotate_left; (· skip; go_simp; exact rfl); (try simp only [Act.put, List.setIfInBounds_toArray, List.set_cons_zero, List.set_cons_succ]))
      refine wpGo_nil ?_
      simp only [List.drop_succ_cons, List.drop_zero]
      go_wp2
      go_ret
      exact ⟨rfl, (by repeat (first | (with_reducible exact Below.refl _ _) | (with_reducible refine balloc ?_ _) | (with_reducible refine Below.drew ?_) | (with_reducible refine bdrewN ?_ _) | ((with_reducible refine bset ?_ ?_ _); rotate_left; focus (first | (with_reducible exact Nat.le_refl _) | (simp; done) | (simp; omega) | omega)) | (with_reducible refine bstep (by with_reducible assumption) ?_)))⟩

set_option maxRecDepth 100000 in
theorem lifted_BlendAlpha (os : Os) (started : os.Started) (H : Type) (enc : TypeId × Value → H) :
    ReturnsInHanded {} Try.checked os 13 .any (Rows.blendAlphaSpec.pre6 enc Try.prog Try.f13 Rows.blendAlphaRow.domain false) (Rows.blendAlphaSpec.post enc Try.prog Try.f13 false true false false) := by
  refine returnsInHanded_of_change (C := Try.checked) Try.own started (by kernel_rfl) Try.func13
    (ChangeSpec.witness6 (enc := enc) (C := Try.checked) false ⟨#[], #[.int .i64 0, .agg #[.int .u8 0, .int .u8 0, .int .u8 0, .int .u8 0], .agg #[.int .u8 0, .int .u8 0, .int .u8 0, .int .u8 0]], []⟩ 8 (by kernel_rfl) (by kernel_rfl) (by kernel_rfl) (by kernel_rfl)) ?_
  intro W base args ds gs before hval0 hW hcnd _
  have hval : ∀ (j : Nat) t v, Try.f13.params[j]? = some t → args[j]? = some v → Value.okWide Try.prog W .any base t v := hval0
  have hW' := hW
  obtain ⟨p, q, hA0, hV, rfl, hfz, hnd⟩ := hW
  have hA : DataW.TrodAll enc Try.prog W 0 (fun _ => true) true Try.f13.params.toList args.toList ds p := hA0
  rw [Try.params13] at hA hval
  obtain ⟨v0, vs0, d0, ds0, p0, q0, hargs, rfl, rfl, h0, r0⟩ := trodAll_cons hA
  obtain ⟨v1, vs1, d1, ds1, p1, q1, rfl, rfl, rfl, h1, r1⟩ := trodAll_cons r0
  obtain ⟨v2, vs2, d2, ds2, p2, q2, rfl, rfl, rfl, h2, r2⟩ := trodAll_cons r1
  obtain ⟨rfl, rfl, rfl⟩ := trodAll_nil r2
  obtain rfl : args = #[v0, v1, v2] := by cases args; simp_all
  obtain ⟨x0, rfl, _, _, g0⟩ := open_int Try.underlying3 (hval 0 3 v0 rfl rfl) h0
  obtain ⟨c10, c11, c12, c13, y10, y11, y12, y13, n1, rfl, _, _, f10, f11, f12, f13⟩ := Joins.open_agg4 Try.underlying29 (by kernel_rfl) (by kernel_rfl) (hval 1 29 v1 rfl rfl) h1
  obtain ⟨x10, rfl, g10⟩ := fld_int Try.underlying5 f10
  obtain ⟨x11, rfl, g11⟩ := fld_int Try.underlying5 f11
  obtain ⟨x12, rfl, g12⟩ := fld_int Try.underlying5 f12
  obtain ⟨x13, rfl, g13⟩ := fld_int Try.underlying5 f13
  obtain ⟨c20, c21, c22, c23, y20, y21, y22, y23, n2, rfl, _, _, f20, f21, f22, f23⟩ := Joins.open_agg4 Try.underlying29 (by kernel_rfl) (by kernel_rfl) (hval 2 29 v2 rfl rfl) h2
  obtain ⟨x20, rfl, g20⟩ := fld_int Try.underlying5 f20
  obtain ⟨x21, rfl, g21⟩ := fld_int Try.underlying5 f21
  obtain ⟨x22, rfl, g22⟩ := fld_int Try.underlying5 f22
  obtain ⟨x23, rfl, g23⟩ := fld_int Try.underlying5 f23
  refine (walk_BlendAlpha x0 ⟨x10, x11, x12, x13⟩ ⟨x20, x21, x22, x23⟩ W (px_byte g10 g11 g12 g13) (px_byte g20 g21 g22 g23)).mono fun e W' ⟨he, hb⟩ => ?_
  subst he
  exact ⟨_, rfl, law_post (tb := 4) Try.laidOut (by kernel_rfl) hW' rfl rfl Try.underlying4 rfl rfl rfl hb⟩

theorem BlendAlpha_holds : Rows.BlendAlphaSaid :=
  OpenClaim.holds_of_wide 13 Try.f13 rfl rfl rfl rfl rfl rfl rfl ⟨rfl, rfl, rfl, rfl, rfl⟩ rfl rfl rfl rfl rfl (by kernel_rfl) Try.func13 (by kernel_rfl)
    (of_decide_eq_true (by kernel_rfl)) (by unfold Func.isWrapper; first | (rw [if_pos (by decide +kernel)]; kernel_rfl) | (rw [if_neg (by decide +kernel)]; exact ⟨rfl, rfl⟩))
    (fun os started H enc _ => lifted_BlendAlpha os started H enc)
#print axioms BlendAlpha_holds
end Go.Proofs.Ytemkekighlahdaa
