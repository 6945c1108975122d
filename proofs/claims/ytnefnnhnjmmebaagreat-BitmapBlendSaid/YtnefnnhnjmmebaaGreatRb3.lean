/-
  The walks of grisailleref28.one and grisailleref28.Blend.
-/
import Derived.Test.YtnefnnhnjmmebaaGreatRb2
import Derived.Test.YtnefnnhnjmmebaaGreatBlA
namespace Go.Proofs.YtnefnnhnjmmebaaGreat
open Go.RowKit
set_option linter.unusedSimpArgs false
set_option linter.unusedVariables false

set_option maxHeartbeats 1600000 in
theorem rone_any (mode s sa d da : Int) (w : World) (hs : sepB mode = true) (h0 : 0 ≤ s) (h1 : s ≤ sa) (h2 : sa ≤ 255) (h3 : 0 ≤ d) (h4 : d ≤ da) (h5 : da ≤ 255) :
    Calls Tryz.prog 72 #[.int .i64 mode, .int .u8 s, .int .u8 sa, .int .u8 d, .int .u8 da] w fun e w' => e = .returned (.int .u8 (chanP mode s sa d da)) ∧ Below w.heap.size w w' := by
  obtain ⟨p1, p2, p3⟩ := chan_parts h0 h1 h2 h3 h4 h5
  have ht := trm_bd (mode := mode) h0 h1 h3 h4
  have HT : Hid (TermP mode s sa d da = trm mode s sa d da) := by
    have hi : inB s sa d da = true := by unfold inB; simp; omega
    unfold Hid TermP; rw [hs, hi]; rfl
  unfold chanP
  clear hs
  go_enter Tryz.func72, Tryz.ntmps72
  go_wp2_with fail
  refine (rTerm_any _ _ _ _ _ _).mono ?_
  rw [HT.out]
  rintro e w' ⟨rfl, rfl⟩
  go_wp2_with fail
  refine (rdivn8_q _ _ (by omega) (by omega)).mono ?_
  rintro e w1 ⟨rfl, hb1⟩
  go_wp2_with fail
  go_ret
  exact ⟨rfl, (by repeat (first | (with_reducible exact Below.refl _ _) | (with_reducible refine balloc ?_ _) | (with_reducible refine Below.drew ?_) | (with_reducible refine bdrewN ?_ _) | ((with_reducible refine bset ?_ ?_ _); rotate_left; focus (first | (with_reducible exact Nat.le_refl _) | (simp; done) | (simp; omega) | omega)) | (with_reducible refine bstep (by with_reducible assumption) ?_)))⟩
set_option maxRecDepth 100000 in
set_option maxHeartbeats 6400000 in
theorem rblend_q (mode : Int) (s d : Px) (w : World) (hs : s.byte) (hd : d.byte) (P : Px) (HP : Hid (blendP mode s d = P)) :
    Calls Tryz.prog 47 #[.int .i64 mode, .agg #[.int .u8 s.r, .int .u8 s.g, .int .u8 s.b, .int .u8 s.a], .agg #[.int .u8 d.r, .int .u8 d.g, .int .u8 d.b, .int .u8 d.a]] w fun e w' =>
      e = .returned (.agg #[.int .u8 P.r, .int .u8 P.g, .int .u8 P.b, .int .u8 P.a]) ∧ Below w.heap.size w w' := by
  obtain ⟨v, Hv⟩ : ∃ v, Hid (validModeB mode = v) := ⟨_, rfl⟩
  have HV : Hid (∀ w, Calls Tryz.prog 26 #[.int .i64 mode] w fun e w' => e = .returned (.bool v) ∧ w = w') := fun w => by rw [← Hv.out]; exact rvmode_any mode w
  obtain ⟨v', Hv'⟩ : ∃ v, Hid (sepB mode = v) := ⟨_, rfl⟩
  have hE := HP.out
  unfold blendP at hE
  rw [Hv.out, Hv'.out] at hE
  cases v with
  | false =>
    rw [if_neg (by simp)] at hE
    subst hE
    clear HP
    go_enter Tryz.func47, Tryz.ntmps47
    go_wp2_with fail
    refine (HV.out _).mono ?_
    rintro e w' ⟨rfl, rfl⟩
    go_wp2_with fail
    refine bodyPost_ret (v := _) ?_ rfl ⟨rfl, (by repeat (first | (with_reducible exact Below.refl _ _) | (with_reducible refine balloc ?_ _) | (with_reducible refine Below.drew ?_) | (with_reducible refine bdrewN ?_ _) | ((with_reducible refine bset ?_ ?_ _); rotate_left; focus (first | (with_reducible exact Nat.le_refl _) | (simp; done) | (simp; omega) | omega)) | (with_reducible refine bstep (by with_reducible assumption) ?_)))⟩
    simp [results, Tryz.results47, go_sem, List.getElem?_cons_zero]
  | true =>
    rw [if_pos rfl] at hE
    obtain ⟨x, Hx⟩ : ∃ x, Hid (clampP s = x) := ⟨_, rfl⟩
    obtain ⟨y, Hy⟩ : ∃ y, Hid (clampP d = y) := ⟨_, rfl⟩
    have hx := clamp_ok hs
    have hy := clamp_ok hd
    rw [Hx.out] at hx
    rw [Hy.out] at hy
    rw [Hx.out, Hy.out] at hE
    cases v' with
    | false =>
      rw [if_neg (by simp)] at hE
      have HW := Lib.hid hE
      have HX := Lib.hid hx
      have HY := Lib.hid hy
      have hm : mode = 10 ∨ mode = 11 ∨ mode = 12 ∨ mode = 13 := by
        have h1 := Hv.out; have h2 := Hv'.out
        simp [validModeB] at h1; simp [sepB] at h2; omega
      have HM := Lib.hid hm
      have hm9 : 9 < mode := by omega
      clear hE HP hx hy hm
      go_enter Tryz.func47, Tryz.ntmps47
      go_wp2_with fail
      refine (HV.out _).mono ?_
      rintro e w' ⟨rfl, rfl⟩
      go_wp2_with fail
      refine wp_region_mixs 8 [0, 2] [1, 3] [4, 5] [6, 7] (fun _ => 45) (fun _ => #[.int .u8 0, .int .u8 0, .int .u8 0, .int .u8 0]) (by kernel_rfl) (by kernel_rfl) (fun c a d v w h => by cases d <;> exact h) (fun c a d v w h => by cases d <;> exact h) (fun j hj => by simp only [List.mem_cons, List.not_mem_nil, or_false] at hj; rcases hj with rfl | rfl <;> exact ⟨_, rfl, rfl, fun a w => by go_simp; rfl⟩) ?_
      simp only [List.map_cons, List.map_nil]
      repeat (refine wpGo_pure (v := ?_) rfl rfl (fun w' hS => ?_) ?_; rotate_left; (· have kSp : Bk w' (w.heap.size) 45 #[.int .u8 s.r, .int .u8 s.g, .int .u8 s.b, .int .u8 s.a] := (by repeat (first | (with_reducible assumption) | ((with_reducible refine Bk.new _ _ _ ?_); first | (with_reducible rfl) | (simp; done)) | (with_reducible refine Bk.alloc ?_ _) | (with_reducible refine Bk.drew ?_) | (with_reducible refine Bk.drewN ?_ _) | ((with_reducible refine Bk.far ?_ ?_ _); rotate_left; focus (first | (simp; done) | (simp; omega))) | (with_reducible refine Bk.below ?_ (by with_reducible assumption)))); obtain ⟨kcSp, kfSp, kaSp, kgSp, klSp⟩ := kSp.rules; have kDp : Bk w' (w.heap.size + 1) 45 #[.int .u8 d.r, .int .u8 d.g, .int .u8 d.b, .int .u8 d.a] := (by repeat (first | (with_reducible assumption) | ((with_reducible refine Bk.new _ _ _ ?_); first | (with_reducible rfl) | (simp; done)) | (with_reducible refine Bk.alloc ?_ _) | (with_reducible refine Bk.drew ?_) | (with_reducible refine Bk.drewN ?_ _) | ((with_reducible refine Bk.far ?_ ?_ _); rotate_left; focus (first | (simp; done) | (simp; omega))) | (with_reducible refine Bk.below ?_ (by with_reducible assumption)))); obtain ⟨kcDp, kfDp, kaDp, kgDp, klDp⟩ := kDp.rules; go_simp; exact rfl); (try simp only [Act.put, List.setIfInBounds_toArray, List.set_cons_zero, List.set_cons_succ]))
      refine wpGo_nil ?_
      refine wpMix_call rfl (fun w1a hb1a K hK => ?_)
      go_simp
      refine (rclampc_q s.r s.g s.b s.a x Hx _).mono ?_
      rintro e w1 ⟨rfl, hb1⟩
      refine hK.out _ _ hb1 (fun _ => ?_)
      clear hK K
      refine wpMix_call rfl (fun w2a hb2a K hK => ?_)
      go_simp
      refine (rclampc_q d.r d.g d.b d.a y Hy _).mono ?_
      rintro e w2 ⟨rfl, hb2⟩
      refine hK.out _ _ hb2 (fun _ => ?_)
      clear hK K
      refine wpMix_end (fun β w3 hb3 hbk hne => ?_)
      obtain ⟨k4, l4⟩ := hbk 4 (by simp)
      obtain ⟨k5, l5⟩ := hbk 5 (by simp)
      have ne45 := hne 4 (by simp) 5 (by simp) (by decide)
      clear hbk hne
      simp only [putAll, dstOf, ptrTo, List.foldl_cons, List.foldl_nil, List.getElem?_toArray, List.getElem?_cons_succ, List.getElem?_cons_zero, Option.bind_some, Act.put, List.setIfInBounds_toArray, List.set_cons_zero, List.set_cons_succ, List.drop_succ_cons, List.drop_zero]
      generalize β 4 = b4 at *
      generalize β 5 = b5 at *
      clear β
      have l4' : w.heap.size + 1 + 1 + 1 ≤ b4 := by simpa using l4
      have l5' : w.heap.size + 1 + 1 + 1 ≤ b5 := by simpa using l5
      clear l4 l5
      have kS3 : Bk w3 (w.heap.size) 45 #[.int .u8 s.r, .int .u8 s.g, .int .u8 s.b, .int .u8 s.a] := (by repeat (first | (with_reducible assumption) | ((with_reducible refine Bk.new _ _ _ ?_); first | (with_reducible rfl) | (simp; done)) | (with_reducible refine Bk.alloc ?_ _) | (with_reducible refine Bk.drew ?_) | (with_reducible refine Bk.drewN ?_ _) | ((with_reducible refine Bk.far ?_ ?_ _); rotate_left; focus (first | (simp; done) | (simp; omega))) | (with_reducible refine Bk.below ?_ (by with_reducible assumption)))); obtain ⟨kcS3, kfS3, kaS3, kgS3, klS3⟩ := kS3.rules; have kD3 : Bk w3 (w.heap.size + 1) 45 #[.int .u8 d.r, .int .u8 d.g, .int .u8 d.b, .int .u8 d.a] := (by repeat (first | (with_reducible assumption) | ((with_reducible refine Bk.new _ _ _ ?_); first | (with_reducible rfl) | (simp; done)) | (with_reducible refine Bk.alloc ?_ _) | (with_reducible refine Bk.drew ?_) | (with_reducible refine Bk.drewN ?_ _) | ((with_reducible refine Bk.far ?_ ?_ _); rotate_left; focus (first | (simp; done) | (simp; omega))) | (with_reducible refine Bk.below ?_ (by with_reducible assumption)))); obtain ⟨kcD3, kfD3, kaD3, kgD3, klD3⟩ := kD3.rules; have kO3 : Bk w3 (w.heap.size + 1 + 1) 45 #[.int .u8 0, .int .u8 0, .int .u8 0, .int .u8 0] := (by repeat (first | (with_reducible assumption) | ((with_reducible refine Bk.new _ _ _ ?_); first | (with_reducible rfl) | (simp; done)) | (with_reducible refine Bk.alloc ?_ _) | (with_reducible refine Bk.drew ?_) | (with_reducible refine Bk.drewN ?_ _) | ((with_reducible refine Bk.far ?_ ?_ _); rotate_left; focus (first | (simp; done) | (simp; omega))) | (with_reducible refine Bk.below ?_ (by with_reducible assumption)))); obtain ⟨kcO3, kfO3, kaO3, kgO3, klO3⟩ := kO3.rules
      clear kcS3 kfS3 kaS3 kgS3 kcD3 kfD3 kaD3 kgD3 kcO3 kfO3 kaO3 kgO3
      obtain ⟨kc4, kf4, ka4, kg4, kl4⟩ := k4.rules
      obtain ⟨kc5, kf5, ka5, kg5, kl5⟩ := k5.rules
      refine wpGo_eff rfl (fun K hK => ?_)
      go_simp
      refine hK.out _ _ (by repeat (first | (with_reducible exact Below.refl _ _) | (with_reducible refine balloc ?_ _) | (with_reducible refine Below.drew ?_) | (with_reducible refine bdrewN ?_ _) | ((with_reducible refine bset ?_ ?_ _); rotate_left; focus (first | (with_reducible exact Nat.le_refl _) | (simp; done) | (simp; omega) | omega)) | (with_reducible refine bstep (by with_reducible assumption) ?_))) (fun hS4 => ?_)
      clear hK K
      refine wpGo_eff rfl (fun K hK => ?_)
      go_simp
      refine hK.out _ _ (by repeat (first | (with_reducible exact Below.refl _ _) | (with_reducible refine balloc ?_ _) | (with_reducible refine Below.drew ?_) | (with_reducible refine bdrewN ?_ _) | ((with_reducible refine bset ?_ ?_ _); rotate_left; focus (first | (with_reducible exact Nat.le_refl _) | (simp; done) | (simp; omega) | omega)) | (with_reducible refine bstep (by with_reducible assumption) ?_))) (fun hS5 => ?_)
      clear hK K
      refine wpGo_nil ?_
      have jO : Bk _ (w.heap.size + 1 + 1) 45 #[.int .u8 0, .int .u8 0, .int .u8 0, .int .u8 0] := ((((((((kO3.far (p := ⟨b4, 0, none⟩) (by simp; omega) (.int .u8 x.r)).far (p := ⟨b4, 1, none⟩) (by simp; omega) (.int .u8 x.g)).far (p := ⟨b4, 2, none⟩) (by simp; omega) (.int .u8 x.b)).far (p := ⟨b4, 3, none⟩) (by simp; omega) (.int .u8 x.a)).far (p := ⟨b5, 0, none⟩) (by simp; omega) (.int .u8 y.r)).far (p := ⟨b5, 1, none⟩) (by simp; omega) (.int .u8 y.g)).far (p := ⟨b5, 2, none⟩) (by simp; omega) (.int .u8 y.b)).far (p := ⟨b5, 3, none⟩) (by simp; omega) (.int .u8 y.a))
      have j4 : Bk _ b4 45 #[.int .u8 x.r, .int .u8 x.g, .int .u8 x.b, .int .u8 x.a] := ((((((((k4.set 0 (.int .u8 x.r)).set 1 (.int .u8 x.g)).set 2 (.int .u8 x.b)).set 3 (.int .u8 x.a)).far (p := ⟨b5, 0, none⟩) ne45 (.int .u8 y.r)).far (p := ⟨b5, 1, none⟩) ne45 (.int .u8 y.g)).far (p := ⟨b5, 2, none⟩) ne45 (.int .u8 y.b)).far (p := ⟨b5, 3, none⟩) ne45 (.int .u8 y.a))
      have j5 : Bk _ b5 45 #[.int .u8 y.r, .int .u8 y.g, .int .u8 y.b, .int .u8 y.a] := ((((((((k5.far (p := ⟨b4, 0, none⟩) ne45.symm (.int .u8 x.r)).far (p := ⟨b4, 1, none⟩) ne45.symm (.int .u8 x.g)).far (p := ⟨b4, 2, none⟩) ne45.symm (.int .u8 x.b)).far (p := ⟨b4, 3, none⟩) ne45.symm (.int .u8 x.a)).set 0 (.int .u8 y.r)).set 1 (.int .u8 y.g)).set 2 (.int .u8 y.b)).set 3 (.int .u8 y.a))
      have hW0 : Below w.heap.size w w3 := (by repeat (first | (with_reducible exact Below.refl _ _) | (with_reducible refine balloc ?_ _) | (with_reducible refine Below.drew ?_) | (with_reducible refine bdrewN ?_ _) | ((with_reducible refine bset ?_ ?_ _); rotate_left; focus (first | (with_reducible exact Nat.le_refl _) | (simp; done) | (simp; omega) | omega)) | (with_reducible refine bstep (by with_reducible assumption) ?_)))
      have hV := (bset (bset (bset (bset (bset (bset (bset (bset hW0 (p := ⟨b4, 0, none⟩) (by show _ ≤ b4; omega) (.int .u8 x.r)) (p := ⟨b4, 1, none⟩) (by show _ ≤ b4; omega) (.int .u8 x.g)) (p := ⟨b4, 2, none⟩) (by show _ ≤ b4; omega) (.int .u8 x.b)) (p := ⟨b4, 3, none⟩) (by show _ ≤ b4; omega) (.int .u8 x.a)) (p := ⟨b5, 0, none⟩) (by show _ ≤ b5; omega) (.int .u8 y.r)) (p := ⟨b5, 1, none⟩) (by show _ ≤ b5; omega) (.int .u8 y.g)) (p := ⟨b5, 2, none⟩) (by show _ ≤ b5; omega) (.int .u8 y.b)) (p := ⟨b5, 3, none⟩) (by show _ ≤ b5; omega) (.int .u8 y.a))
      obtain ⟨kx, kxf, kxa, kxg, kxl⟩ := j4.rules
      obtain ⟨ky, kyf, kya, kyg, kyl⟩ := j5.rules
      go_wp2_with fail
      generalize ((((((((w3.setCell ⟨b4, 0, none⟩ (.int .u8 x.r)).setCell ⟨b4, 1, none⟩ (.int .u8 x.g)).setCell ⟨b4, 2, none⟩ (.int .u8 x.b)).setCell ⟨b4, 3, none⟩ (.int .u8 x.a)).setCell ⟨b5, 0, none⟩ (.int .u8 y.r)).setCell ⟨b5, 1, none⟩ (.int .u8 y.g)).setCell ⟨b5, 2, none⟩ (.int .u8 y.b)).setCell ⟨b5, 3, none⟩ (.int .u8 y.a)) = w9 at hV jO j4 j5 ⊢
      clear k4 k5 kS3 kD3 kO3 kc4 kf4 ka4 kg4 kl4 kc5 kf5 ka5 kg5 kl5 hS4 hS5 hW0 hb1a hb1 hb2a hb2 hb3 klS3 klD3 klO3 kx kxf kxa kxg kxl ky kyf kya kyg kyl
      have f1 : IntKind.i64.wrap x.a = x.a := IntWalk.i64_in _ (by have := HX.out.a0; have := HX.out.a1; have := HY.out.a0; have := HY.out.a1; omega)
      have f2 : IntKind.i64.wrap y.a = y.a := IntWalk.i64_in _ (by have := HX.out.a0; have := HX.out.a1; have := HY.out.a0; have := HY.out.a1; omega)
      refine wp_region_gob 8 [(0, true), (1, true), (2, true), (3, true), (4, true), (5, true), (6, true), (7, true)] (by kernel_rfl) (by kernel_rfl) (fun c a d v w h => by cases d <;> exact h) ?_
      repeat (refine wpGo_pure (v := ?_) rfl rfl (fun w' hS => ?_) ?_; rotate_left; (· have kXp : Bk w' (b4) 45 #[.int .u8 x.r, .int .u8 x.g, .int .u8 x.b, .int .u8 x.a] := (by repeat (first | (with_reducible assumption) | ((with_reducible refine Bk.new _ _ _ ?_); first | (with_reducible rfl) | (simp; done)) | (with_reducible refine Bk.alloc ?_ _) | (with_reducible refine Bk.drew ?_) | (with_reducible refine Bk.drewN ?_ _) | ((with_reducible refine Bk.far ?_ ?_ _); rotate_left; focus (first | (simp; done) | (simp; omega))) | (with_reducible refine Bk.below ?_ (by with_reducible assumption)))); obtain ⟨kcXp, kfXp, kaXp, kgXp, klXp⟩ := kXp.rules; have kYp : Bk w' (b5) 45 #[.int .u8 y.r, .int .u8 y.g, .int .u8 y.b, .int .u8 y.a] := (by repeat (first | (with_reducible assumption) | ((with_reducible refine Bk.new _ _ _ ?_); first | (with_reducible rfl) | (simp; done)) | (with_reducible refine Bk.alloc ?_ _) | (with_reducible refine Bk.drew ?_) | (with_reducible refine Bk.drewN ?_ _) | ((with_reducible refine Bk.far ?_ ?_ _); rotate_left; focus (first | (simp; done) | (simp; omega))) | (with_reducible refine Bk.below ?_ (by with_reducible assumption)))); obtain ⟨kcYp, kfYp, kaYp, kgYp, klYp⟩ := kYp.rules; go_simp; exact rfl); (try simp only [Act.put, List.setIfInBounds_toArray, List.set_cons_zero, List.set_cons_succ]))
      refine wpGo_nil ?_
      simp only [List.drop_succ_cons, List.drop_zero]
      clear f1 f2
      have kX9 : Bk w9 (b4) 45 #[.int .u8 x.r, .int .u8 x.g, .int .u8 x.b, .int .u8 x.a] := (by repeat (first | (with_reducible assumption) | ((with_reducible refine Bk.new _ _ _ ?_); first | (with_reducible rfl) | (simp; done)) | (with_reducible refine Bk.alloc ?_ _) | (with_reducible refine Bk.drew ?_) | (with_reducible refine Bk.drewN ?_ _) | ((with_reducible refine Bk.far ?_ ?_ _); rotate_left; focus (first | (simp; done) | (simp; omega))) | (with_reducible refine Bk.below ?_ (by with_reducible assumption)))); obtain ⟨kcX9, kfX9, kaX9, kgX9, klX9⟩ := kX9.rules; have kY9 : Bk w9 (b5) 45 #[.int .u8 y.r, .int .u8 y.g, .int .u8 y.b, .int .u8 y.a] := (by repeat (first | (with_reducible assumption) | ((with_reducible refine Bk.new _ _ _ ?_); first | (with_reducible rfl) | (simp; done)) | (with_reducible refine Bk.alloc ?_ _) | (with_reducible refine Bk.drew ?_) | (with_reducible refine Bk.drewN ?_ _) | ((with_reducible refine Bk.far ?_ ?_ _); rotate_left; focus (first | (simp; done) | (simp; omega))) | (with_reducible refine Bk.below ?_ (by with_reducible assumption)))); obtain ⟨kcY9, kfY9, kaY9, kgY9, klY9⟩ := kY9.rules
      go_wp2_with fail
      refine (rwhole_any mode x y _ HX.out HY.out HM.out P HW).mono ?_
      rintro e w4 ⟨rfl, hb4⟩
      have kO4 : Bk w4 (w.heap.size + 1 + 1) 45 #[.int .u8 0, .int .u8 0, .int .u8 0, .int .u8 0] := (by repeat (first | (with_reducible assumption) | ((with_reducible refine Bk.new _ _ _ ?_); first | (with_reducible rfl) | (simp; done)) | (with_reducible refine Bk.alloc ?_ _) | (with_reducible refine Bk.drew ?_) | (with_reducible refine Bk.drewN ?_ _) | ((with_reducible refine Bk.far ?_ ?_ _); rotate_left; focus (first | (simp; done) | (simp; omega))) | (with_reducible refine Bk.below ?_ (by with_reducible assumption)))); obtain ⟨kcO4, kfO4, kaO4, kgO4, klO4⟩ := kO4.rules
      go_wp2
      refine bodyPost_ret (v := _) ?_ rfl ⟨rfl, (by repeat (first | (with_reducible exact Below.refl _ _) | (with_reducible refine balloc ?_ _) | (with_reducible refine Below.drew ?_) | (with_reducible refine bdrewN ?_ _) | ((with_reducible refine bset ?_ ?_ _); rotate_left; focus (first | (with_reducible exact Nat.le_refl _) | (simp; done) | (simp; omega) | omega)) | (with_reducible refine bstep (by with_reducible assumption) ?_)))⟩
      simp [results, Tryz.results47, go_sem, kcO4]
    | true =>
      rw [if_pos rfl] at hE
      unfold sepBlend at hE
      subst hE
      clear HP
      have HSP := Hv'
      have hm9 : ¬ 9 < mode := by have h := Hv'.out; simp [sepB] at h; omega
      obtain ⟨r0, r1, g0, g1, b0, b1, a0, a1⟩ := hx
      obtain ⟨r0', r1', g0', g1', b0', b1', a0', a1'⟩ := hy
      have m1 := mul_byte (x := x.a) (y := 255 - y.a) a0 a1 (by omega) (by omega)
      have m2 := mul_byte (x := y.a) (y := 255 - x.a) a0' a1' (by omega) (by omega)
      have m3 := mul_byte a0 a1 a0' a1'
      obtain ⟨n4, Hn4⟩ : ∃ n, Hid (x.a * (255 - y.a) + y.a * (255 - x.a) + x.a * y.a = n) := ⟨_, rfl⟩
      have hn4 : 0 ≤ n4 ∧ n4 ≤ 200000 := by have h1 := Hn4.out; omega
      have hal : alphaP x.a y.a = dn8 n4 := by unfold alphaP; rw [Hn4.out]
      rw [hal]
      clear hal
      go_enter Tryz.func47, Tryz.ntmps47
      go_wp2_with fail
      refine (HV.out _).mono ?_
      rintro e w' ⟨rfl, rfl⟩
      go_wp2_with fail
      refine wp_region_mixs 8 [0, 2] [1, 3] [4, 5] [6, 7] (fun _ => 45) (fun _ => #[.int .u8 0, .int .u8 0, .int .u8 0, .int .u8 0]) (by kernel_rfl) (by kernel_rfl) (fun c a d v w h => by cases d <;> exact h) (fun c a d v w h => by cases d <;> exact h) (fun j hj => by simp only [List.mem_cons, List.not_mem_nil, or_false] at hj; rcases hj with rfl | rfl <;> exact ⟨_, rfl, rfl, fun a w => by go_simp; rfl⟩) ?_
      simp only [List.map_cons, List.map_nil]
      repeat (refine wpGo_pure (v := ?_) rfl rfl (fun w' hS => ?_) ?_; rotate_left; (· have kSp : Bk w' (w.heap.size) 45 #[.int .u8 s.r, .int .u8 s.g, .int .u8 s.b, .int .u8 s.a] := (by repeat (first | (with_reducible assumption) | ((with_reducible refine Bk.new _ _ _ ?_); first | (with_reducible rfl) | (simp; done)) | (with_reducible refine Bk.alloc ?_ _) | (with_reducible refine Bk.drew ?_) | (with_reducible refine Bk.drewN ?_ _) | ((with_reducible refine Bk.far ?_ ?_ _); rotate_left; focus (first | (simp; done) | (simp; omega))) | (with_reducible refine Bk.below ?_ (by with_reducible assumption)))); obtain ⟨kcSp, kfSp, kaSp, kgSp, klSp⟩ := kSp.rules; have kDp : Bk w' (w.heap.size + 1) 45 #[.int .u8 d.r, .int .u8 d.g, .int .u8 d.b, .int .u8 d.a] := (by repeat (first | (with_reducible assumption) | ((with_reducible refine Bk.new _ _ _ ?_); first | (with_reducible rfl) | (simp; done)) | (with_reducible refine Bk.alloc ?_ _) | (with_reducible refine Bk.drew ?_) | (with_reducible refine Bk.drewN ?_ _) | ((with_reducible refine Bk.far ?_ ?_ _); rotate_left; focus (first | (simp; done) | (simp; omega))) | (with_reducible refine Bk.below ?_ (by with_reducible assumption)))); obtain ⟨kcDp, kfDp, kaDp, kgDp, klDp⟩ := kDp.rules; go_simp; exact rfl); (try simp only [Act.put, List.setIfInBounds_toArray, List.set_cons_zero, List.set_cons_succ]))
      refine wpGo_nil ?_
      refine wpMix_call rfl (fun w1a hb1a K hK => ?_)
      go_simp
      refine (rclampc_q s.r s.g s.b s.a x Hx _).mono ?_
      rintro e w1 ⟨rfl, hb1⟩
      refine hK.out _ _ hb1 (fun _ => ?_)
      clear hK K
      refine wpMix_call rfl (fun w2a hb2a K hK => ?_)
      go_simp
      refine (rclampc_q d.r d.g d.b d.a y Hy _).mono ?_
      rintro e w2 ⟨rfl, hb2⟩
      refine hK.out _ _ hb2 (fun _ => ?_)
      clear hK K
      refine wpMix_end (fun β w3 hb3 hbk hne => ?_)
      obtain ⟨k4, l4⟩ := hbk 4 (by simp)
      obtain ⟨k5, l5⟩ := hbk 5 (by simp)
      have ne45 := hne 4 (by simp) 5 (by simp) (by decide)
      clear hbk hne
      simp only [putAll, dstOf, ptrTo, List.foldl_cons, List.foldl_nil, List.getElem?_toArray, List.getElem?_cons_succ, List.getElem?_cons_zero, Option.bind_some, Act.put, List.setIfInBounds_toArray, List.set_cons_zero, List.set_cons_succ, List.drop_succ_cons, List.drop_zero]
      generalize β 4 = b4 at *
      generalize β 5 = b5 at *
      clear β
      have l4' : w.heap.size + 1 + 1 + 1 ≤ b4 := by simpa using l4
      have l5' : w.heap.size + 1 + 1 + 1 ≤ b5 := by simpa using l5
      clear l4 l5
      have kS3 : Bk w3 (w.heap.size) 45 #[.int .u8 s.r, .int .u8 s.g, .int .u8 s.b, .int .u8 s.a] := (by repeat (first | (with_reducible assumption) | ((with_reducible refine Bk.new _ _ _ ?_); first | (with_reducible rfl) | (simp; done)) | (with_reducible refine Bk.alloc ?_ _) | (with_reducible refine Bk.drew ?_) | (with_reducible refine Bk.drewN ?_ _) | ((with_reducible refine Bk.far ?_ ?_ _); rotate_left; focus (first | (simp; done) | (simp; omega))) | (with_reducible refine Bk.below ?_ (by with_reducible assumption)))); obtain ⟨kcS3, kfS3, kaS3, kgS3, klS3⟩ := kS3.rules; have kD3 : Bk w3 (w.heap.size + 1) 45 #[.int .u8 d.r, .int .u8 d.g, .int .u8 d.b, .int .u8 d.a] := (by repeat (first | (with_reducible assumption) | ((with_reducible refine Bk.new _ _ _ ?_); first | (with_reducible rfl) | (simp; done)) | (with_reducible refine Bk.alloc ?_ _) | (with_reducible refine Bk.drew ?_) | (with_reducible refine Bk.drewN ?_ _) | ((with_reducible refine Bk.far ?_ ?_ _); rotate_left; focus (first | (simp; done) | (simp; omega))) | (with_reducible refine Bk.below ?_ (by with_reducible assumption)))); obtain ⟨kcD3, kfD3, kaD3, kgD3, klD3⟩ := kD3.rules; have kO3 : Bk w3 (w.heap.size + 1 + 1) 45 #[.int .u8 0, .int .u8 0, .int .u8 0, .int .u8 0] := (by repeat (first | (with_reducible assumption) | ((with_reducible refine Bk.new _ _ _ ?_); first | (with_reducible rfl) | (simp; done)) | (with_reducible refine Bk.alloc ?_ _) | (with_reducible refine Bk.drew ?_) | (with_reducible refine Bk.drewN ?_ _) | ((with_reducible refine Bk.far ?_ ?_ _); rotate_left; focus (first | (simp; done) | (simp; omega))) | (with_reducible refine Bk.below ?_ (by with_reducible assumption)))); obtain ⟨kcO3, kfO3, kaO3, kgO3, klO3⟩ := kO3.rules
      clear kcS3 kfS3 kaS3 kgS3 kcD3 kfD3 kaD3 kgD3 kcO3 kfO3 kaO3 kgO3
      obtain ⟨kc4, kf4, ka4, kg4, kl4⟩ := k4.rules
      obtain ⟨kc5, kf5, ka5, kg5, kl5⟩ := k5.rules
      refine wpGo_eff rfl (fun K hK => ?_)
      go_simp
      refine hK.out _ _ (by repeat (first | (with_reducible exact Below.refl _ _) | (with_reducible refine balloc ?_ _) | (with_reducible refine Below.drew ?_) | (with_reducible refine bdrewN ?_ _) | ((with_reducible refine bset ?_ ?_ _); rotate_left; focus (first | (with_reducible exact Nat.le_refl _) | (simp; done) | (simp; omega) | omega)) | (with_reducible refine bstep (by with_reducible assumption) ?_))) (fun hS4 => ?_)
      clear hK K
      refine wpGo_eff rfl (fun K hK => ?_)
      go_simp
      refine hK.out _ _ (by repeat (first | (with_reducible exact Below.refl _ _) | (with_reducible refine balloc ?_ _) | (with_reducible refine Below.drew ?_) | (with_reducible refine bdrewN ?_ _) | ((with_reducible refine bset ?_ ?_ _); rotate_left; focus (first | (with_reducible exact Nat.le_refl _) | (simp; done) | (simp; omega) | omega)) | (with_reducible refine bstep (by with_reducible assumption) ?_))) (fun hS5 => ?_)
      clear hK K
      refine wpGo_nil ?_
      have jO : Bk _ (w.heap.size + 1 + 1) 45 #[.int .u8 0, .int .u8 0, .int .u8 0, .int .u8 0] := ((((((((kO3.far (p := ⟨b4, 0, none⟩) (by simp; omega) (.int .u8 x.r)).far (p := ⟨b4, 1, none⟩) (by simp; omega) (.int .u8 x.g)).far (p := ⟨b4, 2, none⟩) (by simp; omega) (.int .u8 x.b)).far (p := ⟨b4, 3, none⟩) (by simp; omega) (.int .u8 x.a)).far (p := ⟨b5, 0, none⟩) (by simp; omega) (.int .u8 y.r)).far (p := ⟨b5, 1, none⟩) (by simp; omega) (.int .u8 y.g)).far (p := ⟨b5, 2, none⟩) (by simp; omega) (.int .u8 y.b)).far (p := ⟨b5, 3, none⟩) (by simp; omega) (.int .u8 y.a))
      have j4 : Bk _ b4 45 #[.int .u8 x.r, .int .u8 x.g, .int .u8 x.b, .int .u8 x.a] := ((((((((k4.set 0 (.int .u8 x.r)).set 1 (.int .u8 x.g)).set 2 (.int .u8 x.b)).set 3 (.int .u8 x.a)).far (p := ⟨b5, 0, none⟩) ne45 (.int .u8 y.r)).far (p := ⟨b5, 1, none⟩) ne45 (.int .u8 y.g)).far (p := ⟨b5, 2, none⟩) ne45 (.int .u8 y.b)).far (p := ⟨b5, 3, none⟩) ne45 (.int .u8 y.a))
      have j5 : Bk _ b5 45 #[.int .u8 y.r, .int .u8 y.g, .int .u8 y.b, .int .u8 y.a] := ((((((((k5.far (p := ⟨b4, 0, none⟩) ne45.symm (.int .u8 x.r)).far (p := ⟨b4, 1, none⟩) ne45.symm (.int .u8 x.g)).far (p := ⟨b4, 2, none⟩) ne45.symm (.int .u8 x.b)).far (p := ⟨b4, 3, none⟩) ne45.symm (.int .u8 x.a)).set 0 (.int .u8 y.r)).set 1 (.int .u8 y.g)).set 2 (.int .u8 y.b)).set 3 (.int .u8 y.a))
      have hW0 : Below w.heap.size w w3 := (by repeat (first | (with_reducible exact Below.refl _ _) | (with_reducible refine balloc ?_ _) | (with_reducible refine Below.drew ?_) | (with_reducible refine bdrewN ?_ _) | ((with_reducible refine bset ?_ ?_ _); rotate_left; focus (first | (with_reducible exact Nat.le_refl _) | (simp; done) | (simp; omega) | omega)) | (with_reducible refine bstep (by with_reducible assumption) ?_)))
      have hV := (bset (bset (bset (bset (bset (bset (bset (bset hW0 (p := ⟨b4, 0, none⟩) (by show _ ≤ b4; omega) (.int .u8 x.r)) (p := ⟨b4, 1, none⟩) (by show _ ≤ b4; omega) (.int .u8 x.g)) (p := ⟨b4, 2, none⟩) (by show _ ≤ b4; omega) (.int .u8 x.b)) (p := ⟨b4, 3, none⟩) (by show _ ≤ b4; omega) (.int .u8 x.a)) (p := ⟨b5, 0, none⟩) (by show _ ≤ b5; omega) (.int .u8 y.r)) (p := ⟨b5, 1, none⟩) (by show _ ≤ b5; omega) (.int .u8 y.g)) (p := ⟨b5, 2, none⟩) (by show _ ≤ b5; omega) (.int .u8 y.b)) (p := ⟨b5, 3, none⟩) (by show _ ≤ b5; omega) (.int .u8 y.a))
      obtain ⟨kx, kxf, kxa, kxg, kxl⟩ := j4.rules
      obtain ⟨ky, kyf, kya, kyg, kyl⟩ := j5.rules
      go_wp2_with fail
      generalize ((((((((w3.setCell ⟨b4, 0, none⟩ (.int .u8 x.r)).setCell ⟨b4, 1, none⟩ (.int .u8 x.g)).setCell ⟨b4, 2, none⟩ (.int .u8 x.b)).setCell ⟨b4, 3, none⟩ (.int .u8 x.a)).setCell ⟨b5, 0, none⟩ (.int .u8 y.r)).setCell ⟨b5, 1, none⟩ (.int .u8 y.g)).setCell ⟨b5, 2, none⟩ (.int .u8 y.b)).setCell ⟨b5, 3, none⟩ (.int .u8 y.a)) = w9 at hV jO j4 j5 ⊢
      clear k4 k5 kS3 kD3 kO3 kc4 kf4 ka4 kg4 kl4 kc5 kf5 ka5 kg5 kl5 hS4 hS5 hW0 hb1a hb1 hb2a hb2 hb3 klS3 klD3 klO3 kx kxf kxa kxg kxl ky kyf kya kyg kyl
      have f1 : IntKind.i64.wrap x.a = x.a := IntWalk.i64_in _ (by omega)
      have f2 : IntKind.i64.wrap y.a = y.a := IntWalk.i64_in _ (by omega)
      refine wp_region_gob 8 [(0, true), (1, true), (2, true), (3, true), (4, true), (5, true), (6, true), (7, true)] (by kernel_rfl) (by kernel_rfl) (fun c a d v w h => by cases d <;> exact h) ?_
      repeat (refine wpGo_pure (v := ?_) rfl rfl (fun w' hS => ?_) ?_; rotate_left; (· have kXp : Bk w' (b4) 45 #[.int .u8 x.r, .int .u8 x.g, .int .u8 x.b, .int .u8 x.a] := (by repeat (first | (with_reducible assumption) | ((with_reducible refine Bk.new _ _ _ ?_); first | (with_reducible rfl) | (simp; done)) | (with_reducible refine Bk.alloc ?_ _) | (with_reducible refine Bk.drew ?_) | (with_reducible refine Bk.drewN ?_ _) | ((with_reducible refine Bk.far ?_ ?_ _); rotate_left; focus (first | (simp; done) | (simp; omega))) | (with_reducible refine Bk.below ?_ (by with_reducible assumption)))); obtain ⟨kcXp, kfXp, kaXp, kgXp, klXp⟩ := kXp.rules; have kYp : Bk w' (b5) 45 #[.int .u8 y.r, .int .u8 y.g, .int .u8 y.b, .int .u8 y.a] := (by repeat (first | (with_reducible assumption) | ((with_reducible refine Bk.new _ _ _ ?_); first | (with_reducible rfl) | (simp; done)) | (with_reducible refine Bk.alloc ?_ _) | (with_reducible refine Bk.drew ?_) | (with_reducible refine Bk.drewN ?_ _) | ((with_reducible refine Bk.far ?_ ?_ _); rotate_left; focus (first | (simp; done) | (simp; omega))) | (with_reducible refine Bk.below ?_ (by with_reducible assumption)))); obtain ⟨kcYp, kfYp, kaYp, kgYp, klYp⟩ := kYp.rules; go_simp; exact rfl); (try simp only [Act.put, List.setIfInBounds_toArray, List.set_cons_zero, List.set_cons_succ]))
      refine wpGo_nil ?_
      simp only [List.drop_succ_cons, List.drop_zero]
      clear f1 f2
      have kX9 : Bk w9 (b4) 45 #[.int .u8 x.r, .int .u8 x.g, .int .u8 x.b, .int .u8 x.a] := (by repeat (first | (with_reducible assumption) | ((with_reducible refine Bk.new _ _ _ ?_); first | (with_reducible rfl) | (simp; done)) | (with_reducible refine Bk.alloc ?_ _) | (with_reducible refine Bk.drew ?_) | (with_reducible refine Bk.drewN ?_ _) | ((with_reducible refine Bk.far ?_ ?_ _); rotate_left; focus (first | (simp; done) | (simp; omega))) | (with_reducible refine Bk.below ?_ (by with_reducible assumption)))); obtain ⟨kcX9, kfX9, kaX9, kgX9, klX9⟩ := kX9.rules; have kY9 : Bk w9 (b5) 45 #[.int .u8 y.r, .int .u8 y.g, .int .u8 y.b, .int .u8 y.a] := (by repeat (first | (with_reducible assumption) | ((with_reducible refine Bk.new _ _ _ ?_); first | (with_reducible rfl) | (simp; done)) | (with_reducible refine Bk.alloc ?_ _) | (with_reducible refine Bk.drew ?_) | (with_reducible refine Bk.drewN ?_ _) | ((with_reducible refine Bk.far ?_ ?_ _); rotate_left; focus (first | (simp; done) | (simp; omega))) | (with_reducible refine Bk.below ?_ (by with_reducible assumption)))); obtain ⟨kcY9, kfY9, kaY9, kgY9, klY9⟩ := kY9.rules
      go_wp2_with fail
      have x1 : IntKind.i64.wrap (255 - y.a) = 255 - y.a := IntWalk.i64_in _ (by omega)
      have x2 : IntKind.i64.wrap (x.a * (255 - y.a)) = x.a * (255 - y.a) := IntWalk.i64_in _ (by omega)
      have x3 : IntKind.i64.wrap (255 - x.a) = 255 - x.a := IntWalk.i64_in _ (by omega)
      have x4 : IntKind.i64.wrap (y.a * (255 - x.a)) = y.a * (255 - x.a) := IntWalk.i64_in _ (by omega)
      have x5 : IntKind.i64.wrap (x.a * (255 - y.a) + y.a * (255 - x.a)) = x.a * (255 - y.a) + y.a * (255 - x.a) := IntWalk.i64_in _ (by omega)
      have x7 : IntKind.i64.wrap (x.a * y.a) = x.a * y.a := IntWalk.i64_in _ (by omega)
      have x6 : IntKind.i64.wrap (x.a * (255 - y.a) + y.a * (255 - x.a) + x.a * y.a) = n4 := by rw [Hn4.out]; exact IntWalk.i64_in _ (by omega)
      refine wp_region_gob 45 [(0, true), (1, true), (2, true), (3, true), (4, true), (5, true), (6, true), (7, true), (8, true), (10, true), (11, true), (12, true), (13, true), (14, true), (15, true), (16, true), (17, true), (18, true), (20, true), (21, true), (22, true), (23, true), (24, true), (25, true), (26, true), (27, true), (28, true), (30, true), (31, true), (32, true), (33, true), (34, true), (35, true), (36, true), (37, true), (38, true), (39, true), (40, true), (41, true), (42, true), (9, false), (19, false), (29, false), (43, false), (44, true)] (by kernel_rfl) (by kernel_rfl) (fun c a d v w h => by cases d <;> exact h) ?_
      repeat (refine wpGo_pure (v := ?_) rfl rfl (fun w' hS => ?_) ?_; rotate_left; (· have kXp : Bk w' (b4) 45 #[.int .u8 x.r, .int .u8 x.g, .int .u8 x.b, .int .u8 x.a] := (by repeat (first | (with_reducible assumption) | ((with_reducible refine Bk.new _ _ _ ?_); first | (with_reducible rfl) | (simp; done)) | (with_reducible refine Bk.alloc ?_ _) | (with_reducible refine Bk.drew ?_) | (with_reducible refine Bk.drewN ?_ _) | ((with_reducible refine Bk.far ?_ ?_ _); rotate_left; focus (first | (simp; done) | (simp; omega))) | (with_reducible refine Bk.below ?_ (by with_reducible assumption)))); obtain ⟨kcXp, kfXp, kaXp, kgXp, klXp⟩ := kXp.rules; have kYp : Bk w' (b5) 45 #[.int .u8 y.r, .int .u8 y.g, .int .u8 y.b, .int .u8 y.a] := (by repeat (first | (with_reducible assumption) | ((with_reducible refine Bk.new _ _ _ ?_); first | (with_reducible rfl) | (simp; done)) | (with_reducible refine Bk.alloc ?_ _) | (with_reducible refine Bk.drew ?_) | (with_reducible refine Bk.drewN ?_ _) | ((with_reducible refine Bk.far ?_ ?_ _); rotate_left; focus (first | (simp; done) | (simp; omega))) | (with_reducible refine Bk.below ?_ (by with_reducible assumption)))); obtain ⟨kcYp, kfYp, kaYp, kgYp, klYp⟩ := kYp.rules; go_simp; exact rfl); (try simp only [Act.put, List.setIfInBounds_toArray, List.set_cons_zero, List.set_cons_succ]))
      clear x1 x2 x3 x4 x5 x6 x7
      refine wpGo_eff rfl (fun K hK => ?_)
      go_simp
      refine (rone_any mode _ _ _ _ _ HSP.out r0 r1 a1 r0' r1' a1').mono ?_
      rintro e w4 ⟨rfl, hb4⟩
      refine hK.out _ _ (by repeat (first | (with_reducible exact Below.refl _ _) | (with_reducible refine balloc ?_ _) | (with_reducible refine Below.drew ?_) | (with_reducible refine bdrewN ?_ _) | ((with_reducible refine bset ?_ ?_ _); rotate_left; focus (first | (with_reducible exact Nat.le_refl _) | (simp; done) | (simp; omega) | omega)) | (with_reducible refine bstep (by with_reducible assumption) ?_))) (fun hS4 => ?_)
      clear hK K
      refine wpGo_eff rfl (fun K hK => ?_)
      go_simp
      refine (rone_any mode _ _ _ _ _ HSP.out g0 g1 a1 g0' g1' a1').mono ?_
      rintro e w5 ⟨rfl, hb5⟩
      refine hK.out _ _ (by repeat (first | (with_reducible exact Below.refl _ _) | (with_reducible refine balloc ?_ _) | (with_reducible refine Below.drew ?_) | (with_reducible refine bdrewN ?_ _) | ((with_reducible refine bset ?_ ?_ _); rotate_left; focus (first | (with_reducible exact Nat.le_refl _) | (simp; done) | (simp; omega) | omega)) | (with_reducible refine bstep (by with_reducible assumption) ?_))) (fun hS5 => ?_)
      clear hK K
      refine wpGo_eff rfl (fun K hK => ?_)
      go_simp
      refine (rone_any mode _ _ _ _ _ HSP.out b0 b1 a1 b0' b1' a1').mono ?_
      rintro e w6 ⟨rfl, hb6⟩
      refine hK.out _ _ (by repeat (first | (with_reducible exact Below.refl _ _) | (with_reducible refine balloc ?_ _) | (with_reducible refine Below.drew ?_) | (with_reducible refine bdrewN ?_ _) | ((with_reducible refine bset ?_ ?_ _); rotate_left; focus (first | (with_reducible exact Nat.le_refl _) | (simp; done) | (simp; omega) | omega)) | (with_reducible refine bstep (by with_reducible assumption) ?_))) (fun hS6 => ?_)
      clear hK K
      refine wpGo_eff rfl (fun K hK => ?_)
      go_simp
      refine (rdivn8_q n4 _ (by omega) (by omega)).mono ?_
      rintro e w7 ⟨rfl, hb7⟩
      refine hK.out _ _ (by repeat (first | (with_reducible exact Below.refl _ _) | (with_reducible refine balloc ?_ _) | (with_reducible refine Below.drew ?_) | (with_reducible refine bdrewN ?_ _) | ((with_reducible refine bset ?_ ?_ _); rotate_left; focus (first | (with_reducible exact Nat.le_refl _) | (simp; done) | (simp; omega) | omega)) | (with_reducible refine bstep (by with_reducible assumption) ?_))) (fun hS7 => ?_)
      clear hK K
      repeat (refine wpGo_pure (v := ?_) rfl rfl (fun w' hS => ?_) ?_; rotate_left; (· skip; go_simp; exact rfl); (try simp only [Act.put, List.setIfInBounds_toArray, List.set_cons_zero, List.set_cons_succ]))
      refine wpGo_nil ?_
      simp only [List.drop_succ_cons, List.drop_zero]
      have kO7 : Bk w7 (w.heap.size + 1 + 1) 45 #[.int .u8 0, .int .u8 0, .int .u8 0, .int .u8 0] := (by repeat (first | (with_reducible assumption) | ((with_reducible refine Bk.new _ _ _ ?_); first | (with_reducible rfl) | (simp; done)) | (with_reducible refine Bk.alloc ?_ _) | (with_reducible refine Bk.drew ?_) | (with_reducible refine Bk.drewN ?_ _) | ((with_reducible refine Bk.far ?_ ?_ _); rotate_left; focus (first | (simp; done) | (simp; omega))) | (with_reducible refine Bk.below ?_ (by with_reducible assumption)))); obtain ⟨kcO7, kfO7, kaO7, kgO7, klO7⟩ := kO7.rules
      have hZ : Below w.heap.size w w7 := bstep hS7 hV.drew
      go_wp2
      refine bodyPost_ret (v := _) ?_ rfl ⟨rfl, (by repeat (first | (with_reducible exact Below.refl _ _) | (with_reducible refine balloc ?_ _) | (with_reducible refine Below.drew ?_) | (with_reducible refine bdrewN ?_ _) | ((with_reducible refine bset ?_ ?_ _); rotate_left; focus (first | (with_reducible exact Nat.le_refl _) | (simp; done) | (simp; omega) | omega)) | (with_reducible refine bstep (by with_reducible assumption) ?_)))⟩
      simp [results, Tryz.results47, go_sem, kcO7]
end Go.Proofs.YtnefnnhnjmmebaaGreat
