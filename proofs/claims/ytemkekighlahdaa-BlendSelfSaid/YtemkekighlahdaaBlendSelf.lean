/- BlendSelf: for all pixels the law grisaillelaw28.BlendSelf returns true. No conditions. -/
import Derived.Test.YtemkekighlahdaaLaw28
namespace Go.Proofs.Ytemkekighlahdaa
open Go.ChangeShapes Go.WideShapes Go.ChangeAt Go.RowKit
set_option linter.unusedSimpArgs false
set_option linter.unusedVariables false


set_option maxHeartbeats 3200000 in
theorem walk_BlendSelf (s d : Px) (w : World) (hs : s.byte) (hd : d.byte) :
    Calls Try.prog 9 #[.agg #[.int .u8 s.r, .int .u8 s.g, .int .u8 s.b, .int .u8 s.a], .agg #[.int .u8 d.r, .int .u8 d.g, .int .u8 d.b, .int .u8 d.a]] w fun e w' => e = .returned (.bool true) ∧ Below w.heap.size w w' := by
  have H1 : Hid (∀ m : Int, 10 ≤ m → m ≤ 13 → blendP m (opq s) (opq s) = ⟨s.r, s.g, s.b, 255⟩) := fun m h0 h1 => blend_self (by omega) hs
  obtain ⟨p, Hp⟩ : ∃ p, Hid (blendP 12 (opq s) (opq d) = p) := ⟨_, rfl⟩
  have Hq : Hid (blendP 13 (opq d) (opq s) = p) := (blend_reverse hs hd).symm.trans Hp.out
  have HX := Lib.hid (opq_ok hs).byte
  have HY := Lib.hid (opq_ok hd).byte
  have heq1 := fun w => (neq_px (opq s) (opq s) w).trans (by rw [eqP_refl])
  have heq2 := fun w => (eql_px p p w).trans (by rw [eqP_refl])
  simp only [opq] at heq1
  clear hs hd
  go_enter Try.func9, Try.ntmps9
  go_wp2_with fail
  refine wp_region_mixs 6 [0, 1] [] [2, 3] [4, 5] (fun _ => 29) (fun _ => #[.int .u8 0, .int .u8 0, .int .u8 0, .int .u8 0]) (by kernel_rfl) (by kernel_rfl) (fun c a d v w h => by cases d <;> exact h) (fun c a d v w h => by cases d <;> exact h) (fun j hj => by simp only [List.mem_cons, List.not_mem_nil, or_false] at hj; rcases hj with rfl | rfl <;> exact ⟨_, rfl, rfl, fun a w => by go_simp; rfl⟩) ?_
  simp only [List.map_cons, List.map_nil]
  repeat (refine wpGo_pure (v := ?_) rfl rfl (fun w' hS => ?_) ?_; rotate_left; (· have kSp : Bk w' (w.heap.size) 29 #[.int .u8 s.r, .int .u8 s.g, .int .u8 s.b, .int .u8 s.a] := (by repeat (first | (with_reducible assumption) | ((with_reducible refine Bk.new _ _ _ ?_); first | (with_reducible rfl) | (simp; done)) | (with_reducible refine Bk.alloc ?_ _) | (with_reducible refine Bk.drew ?_) | (with_reducible refine Bk.drewN ?_ _) | ((with_reducible refine Bk.far ?_ ?_ _); rotate_left; focus (first | (simp; done) | (simp; omega))) | (with_reducible refine Bk.below ?_ (by with_reducible assumption)))); obtain ⟨kcSp, kfSp, kaSp, kgSp, klSp⟩ := kSp.rules; have kDp : Bk w' (w.heap.size + 1) 29 #[.int .u8 d.r, .int .u8 d.g, .int .u8 d.b, .int .u8 d.a] := (by repeat (first | (with_reducible assumption) | ((with_reducible refine Bk.new _ _ _ ?_); first | (with_reducible rfl) | (simp; done)) | (with_reducible refine Bk.alloc ?_ _) | (with_reducible refine Bk.drew ?_) | (with_reducible refine Bk.drewN ?_ _) | ((with_reducible refine Bk.far ?_ ?_ _); rotate_left; focus (first | (simp; done) | (simp; omega))) | (with_reducible refine Bk.below ?_ (by with_reducible assumption)))); obtain ⟨kcDp, kfDp, kaDp, kgDp, klDp⟩ := kDp.rules; go_simp; exact rfl); (try simp only [Act.put, List.setIfInBounds_toArray, List.set_cons_zero, List.set_cons_succ]))
  refine wpGo_nil ?_
  refine wpMix_end (fun β w1 hb1 hbk hne => ?_)
  obtain ⟨k2, l2⟩ := hbk 2 (by simp)
  obtain ⟨k3, l3⟩ := hbk 3 (by simp)
  have ne23 := hne 2 (by simp) 3 (by simp) (by decide)
  clear hbk hne
  simp only [putAll, dstOf, ptrTo, List.foldl_cons, List.foldl_nil, List.getElem?_toArray, List.getElem?_cons_succ, List.getElem?_cons_zero, Option.bind_some, Act.put, List.setIfInBounds_toArray, List.set_cons_zero, List.set_cons_succ, List.drop_succ_cons, List.drop_zero]
  generalize β 2 = b2 at *
  generalize β 3 = b3 at *
  clear β
  have l2' : w.heap.size + 1 + 1 ≤ b2 := by simpa using l2
  have l3' : w.heap.size + 1 + 1 ≤ b3 := by simpa using l3
  clear l2 l3
  obtain ⟨kc2, kf2, ka2, kg2, kl2⟩ := k2.rules
  obtain ⟨kc3, kf3, ka3, kg3, kl3⟩ := k3.rules
  refine wpGo_eff rfl (fun K hK => ?_)
  go_simp
  refine hK.out _ _ (by repeat (first | (with_reducible exact Below.refl _ _) | (with_reducible refine balloc ?_ _) | (with_reducible refine Below.drew ?_) | (with_reducible refine bdrewN ?_ _) | ((with_reducible refine bset ?_ ?_ _); rotate_left; focus (first | (with_reducible exact Nat.le_refl _) | (simp; done) | (simp; omega) | omega)) | (with_reducible refine bstep (by with_reducible assumption) ?_))) (fun hS2 => ?_)
  clear hK K
  refine wpGo_eff rfl (fun K hK => ?_)
  go_simp
  refine hK.out _ _ (by repeat (first | (with_reducible exact Below.refl _ _) | (with_reducible refine balloc ?_ _) | (with_reducible refine Below.drew ?_) | (with_reducible refine bdrewN ?_ _) | ((with_reducible refine bset ?_ ?_ _); rotate_left; focus (first | (with_reducible exact Nat.le_refl _) | (simp; done) | (simp; omega) | omega)) | (with_reducible refine bstep (by with_reducible assumption) ?_))) (fun hS3 => ?_)
  clear hK K
  refine wpGo_nil ?_
  have jX : Bk _ b2 29 #[.int .u8 s.r, .int .u8 s.g, .int .u8 s.b, .int .u8 255] := ((((((((((k2.set 0 (.int .u8 s.r)).set 1 (.int .u8 s.g)).set 2 (.int .u8 s.b)).set 3 (.int .u8 s.a)).far (p := ⟨b3, 0, none⟩) ne23 (.int .u8 d.r)).far (p := ⟨b3, 1, none⟩) ne23 (.int .u8 d.g)).far (p := ⟨b3, 2, none⟩) ne23 (.int .u8 d.b)).far (p := ⟨b3, 3, none⟩) ne23 (.int .u8 d.a)).set 3 (.int .u8 255)).far (p := ⟨b3, 3, none⟩) ne23 (.int .u8 255))
  have jY : Bk _ b3 29 #[.int .u8 d.r, .int .u8 d.g, .int .u8 d.b, .int .u8 255] := ((((((((((k3.far (p := ⟨b2, 0, none⟩) ne23.symm (.int .u8 s.r)).far (p := ⟨b2, 1, none⟩) ne23.symm (.int .u8 s.g)).far (p := ⟨b2, 2, none⟩) ne23.symm (.int .u8 s.b)).far (p := ⟨b2, 3, none⟩) ne23.symm (.int .u8 s.a)).set 0 (.int .u8 d.r)).set 1 (.int .u8 d.g)).set 2 (.int .u8 d.b)).set 3 (.int .u8 d.a)).far (p := ⟨b2, 3, none⟩) ne23.symm (.int .u8 255)).set 3 (.int .u8 255))
  have hW0 : Below w.heap.size w w1 := (by repeat (first | (with_reducible exact Below.refl _ _) | (with_reducible refine balloc ?_ _) | (with_reducible refine Below.drew ?_) | (with_reducible refine bdrewN ?_ _) | ((with_reducible refine bset ?_ ?_ _); rotate_left; focus (first | (with_reducible exact Nat.le_refl _) | (simp; done) | (simp; omega) | omega)) | (with_reducible refine bstep (by with_reducible assumption) ?_)))
  have hV : Below w.heap.size w ((((((((((w1.setCell ⟨b2, 0, none⟩ (.int .u8 s.r)).setCell ⟨b2, 1, none⟩ (.int .u8 s.g)).setCell ⟨b2, 2, none⟩ (.int .u8 s.b)).setCell ⟨b2, 3, none⟩ (.int .u8 s.a)).setCell ⟨b3, 0, none⟩ (.int .u8 d.r)).setCell ⟨b3, 1, none⟩ (.int .u8 d.g)).setCell ⟨b3, 2, none⟩ (.int .u8 d.b)).setCell ⟨b3, 3, none⟩ (.int .u8 d.a)).setCell ⟨b2, 3, none⟩ (.int .u8 255)).setCell ⟨b3, 3, none⟩ (.int .u8 255)) := (by repeat (first | (with_reducible exact Below.refl _ _) | (with_reducible refine balloc ?_ _) | (with_reducible refine Below.drew ?_) | (with_reducible refine bdrewN ?_ _) | ((with_reducible refine bset ?_ ?_ _); rotate_left; focus (first | (with_reducible exact Nat.le_refl _) | (simp; done) | (simp; omega) | omega)) | (with_reducible refine bstep (by with_reducible assumption) ?_)))
  have hz : ((((((((((w1.setCell ⟨b2, 0, none⟩ (.int .u8 s.r)).setCell ⟨b2, 1, none⟩ (.int .u8 s.g)).setCell ⟨b2, 2, none⟩ (.int .u8 s.b)).setCell ⟨b2, 3, none⟩ (.int .u8 s.a)).setCell ⟨b3, 0, none⟩ (.int .u8 d.r)).setCell ⟨b3, 1, none⟩ (.int .u8 d.g)).setCell ⟨b3, 2, none⟩ (.int .u8 d.b)).setCell ⟨b3, 3, none⟩ (.int .u8 d.a)).setCell ⟨b2, 3, none⟩ (.int .u8 255)).setCell ⟨b3, 3, none⟩ (.int .u8 255)).heap.size = w1.heap.size := by simp
  go_wp2_with fail
  generalize ((((((((((w1.setCell ⟨b2, 0, none⟩ (.int .u8 s.r)).setCell ⟨b2, 1, none⟩ (.int .u8 s.g)).setCell ⟨b2, 2, none⟩ (.int .u8 s.b)).setCell ⟨b2, 3, none⟩ (.int .u8 s.a)).setCell ⟨b3, 0, none⟩ (.int .u8 d.r)).setCell ⟨b3, 1, none⟩ (.int .u8 d.g)).setCell ⟨b3, 2, none⟩ (.int .u8 d.b)).setCell ⟨b3, 3, none⟩ (.int .u8 d.a)).setCell ⟨b2, 3, none⟩ (.int .u8 255)).setCell ⟨b3, 3, none⟩ (.int .u8 255)) = w9 at hV jX jY hz ⊢
  clear k2 k3 kc2 kf2 ka2 kg2 kl2 kc3 kf3 ka3 kg3 kl3 hS2 hS3 hW0 hb1

  clear hz
  go_loopw [7] (fun i wr => ∃ m : Int, 10 ≤ m ∧ m ≤ 14 ∧ i = .int .i64 m ∧ Below w9.heap.size w9 wr) (fun i _ => (14 - intOf i).toNat)
  case atStart => exact ⟨10, by omega, by omega, rfl, Below.refl _ _⟩
  case round =>
    obtain ⟨m, m0, m1, rfl, hbw⟩ := hrel
    have jX' := jX.below hbw
    have jY' := jY.below hbw
    by_cases hlt : m ≤ 13
    · have Hm := Lib.hid (H1.out m m0 hlt)
      go_wp2_with fail
      refine wp_region_gob 6 [(0, true), (1, true), (2, true), (4, true), (3, false), (5, true)] (by kernel_rfl) (by kernel_rfl) (fun c a d v w h => by cases d <;> exact h) ?_
      repeat (refine wpGo_pure (v := ?_) rfl rfl (fun w' hS => ?_) ?_; rotate_left; (· have kXp : Bk w' (b2) 29 #[.int .u8 s.r, .int .u8 s.g, .int .u8 s.b, .int .u8 255] := (by repeat (first | (with_reducible assumption) | ((with_reducible refine Bk.new _ _ _ ?_); first | (with_reducible rfl) | (simp; done)) | (with_reducible refine Bk.alloc ?_ _) | (with_reducible refine Bk.drew ?_) | (with_reducible refine Bk.drewN ?_ _) | ((with_reducible refine Bk.far ?_ ?_ _); rotate_left; focus (first | (simp; done) | (simp; omega))) | (with_reducible refine Bk.below ?_ (by with_reducible assumption)))); obtain ⟨kcXp, kfXp, kaXp, kgXp, klXp⟩ := kXp.rules; go_simp; exact rfl); (try simp only [Act.put, List.setIfInBounds_toArray, List.set_cons_zero, List.set_cons_succ]))
      refine wpGo_eff rfl (fun K hK => ?_)
      go_simp
      refine (blend_q m (opq s) (opq s) _ HX.out HX.out ⟨s.r, s.g, s.b, 255⟩ Hm).mono ?_
      rintro e w10 ⟨rfl, hb10⟩
      refine hK.out _ _ (by repeat (first | (with_reducible exact Below.refl _ _) | (with_reducible refine balloc ?_ _) | (with_reducible refine Below.drew ?_) | (with_reducible refine bdrewN ?_ _) | ((with_reducible refine bset ?_ ?_ _); rotate_left; focus (first | (with_reducible exact Nat.le_refl _) | (simp; done) | (simp; omega) | omega)) | (with_reducible refine bstep (by with_reducible assumption) ?_))) (fun hS10 => ?_)
      clear hK K
      repeat (refine wpGo_pure (v := ?_) rfl rfl (fun w' hS => ?_) ?_; rotate_left; (· have kXp : Bk w' (b2) 29 #[.int .u8 s.r, .int .u8 s.g, .int .u8 s.b, .int .u8 255] := (by repeat (first | (with_reducible assumption) | ((with_reducible refine Bk.new _ _ _ ?_); first | (with_reducible rfl) | (simp; done)) | (with_reducible refine Bk.alloc ?_ _) | (with_reducible refine Bk.drew ?_) | (with_reducible refine Bk.drewN ?_ _) | ((with_reducible refine Bk.far ?_ ?_ _); rotate_left; focus (first | (simp; done) | (simp; omega))) | (with_reducible refine Bk.below ?_ (by with_reducible assumption)))); obtain ⟨kcXp, kfXp, kaXp, kgXp, klXp⟩ := kXp.rules; go_simp; exact rfl); (try simp only [Act.put, List.setIfInBounds_toArray, List.set_cons_zero, List.set_cons_succ]))
      refine wpGo_nil ?_
      simp only [List.drop_succ_cons, List.drop_zero]
      have hb' : Below w9.heap.size w9 w10 := bstep hS10 hbw
      clear hb10 hS10
      go_wp2
      go_roundw
      case rel => exact ⟨m + 1, by omega, by omega, rfl, hb'⟩
      case measure => simp [intOf]; omega
    · go_wp2_with fail
      refine wp_region_gob 11 [(0, true), (1, true), (3, true), (4, true), (2, false), (5, false), (6, true), (7, true), (8, false), (9, true), (10, true)] (by kernel_rfl) (by kernel_rfl) (fun c a d v w h => by cases d <;> exact h) ?_
      repeat (refine wpGo_pure (v := ?_) rfl rfl (fun w' hS => ?_) ?_; rotate_left; (· have kXp : Bk w' (b2) 29 #[.int .u8 s.r, .int .u8 s.g, .int .u8 s.b, .int .u8 255] := (by repeat (first | (with_reducible assumption) | ((with_reducible refine Bk.new _ _ _ ?_); first | (with_reducible rfl) | (simp; done)) | (with_reducible refine Bk.alloc ?_ _) | (with_reducible refine Bk.drew ?_) | (with_reducible refine Bk.drewN ?_ _) | ((with_reducible refine Bk.far ?_ ?_ _); rotate_left; focus (first | (simp; done) | (simp; omega))) | (with_reducible refine Bk.below ?_ (by with_reducible assumption)))); obtain ⟨kcXp, kfXp, kaXp, kgXp, klXp⟩ := kXp.rules; have kYp : Bk w' (b3) 29 #[.int .u8 d.r, .int .u8 d.g, .int .u8 d.b, .int .u8 255] := (by repeat (first | (with_reducible assumption) | ((with_reducible refine Bk.new _ _ _ ?_); first | (with_reducible rfl) | (simp; done)) | (with_reducible refine Bk.alloc ?_ _) | (with_reducible refine Bk.drew ?_) | (with_reducible refine Bk.drewN ?_ _) | ((with_reducible refine Bk.far ?_ ?_ _); rotate_left; focus (first | (simp; done) | (simp; omega))) | (with_reducible refine Bk.below ?_ (by with_reducible assumption)))); obtain ⟨kcYp, kfYp, kaYp, kgYp, klYp⟩ := kYp.rules; go_simp; exact rfl); (try simp only [Act.put, List.setIfInBounds_toArray, List.set_cons_zero, List.set_cons_succ]))
      refine wpGo_eff rfl (fun K hK => ?_)
      go_simp
      refine (blend_q 12 (opq s) (opq d) _ HX.out HY.out p Hp).mono ?_
      rintro e w10 ⟨rfl, hb10⟩
      refine hK.out _ _ (by repeat (first | (with_reducible exact Below.refl _ _) | (with_reducible refine balloc ?_ _) | (with_reducible refine Below.drew ?_) | (with_reducible refine bdrewN ?_ _) | ((with_reducible refine bset ?_ ?_ _); rotate_left; focus (first | (with_reducible exact Nat.le_refl _) | (simp; done) | (simp; omega) | omega)) | (with_reducible refine bstep (by with_reducible assumption) ?_))) (fun hS10 => ?_)
      clear hK K
      refine wpGo_eff rfl (fun K hK => ?_)
      go_simp
      refine (blend_q 13 (opq d) (opq s) _ HY.out HX.out p Hq).mono ?_
      rintro e w11 ⟨rfl, hb11⟩
      refine hK.out _ _ (by repeat (first | (with_reducible exact Below.refl _ _) | (with_reducible refine balloc ?_ _) | (with_reducible refine Below.drew ?_) | (with_reducible refine bdrewN ?_ _) | ((with_reducible refine bset ?_ ?_ _); rotate_left; focus (first | (with_reducible exact Nat.le_refl _) | (simp; done) | (simp; omega) | omega)) | (with_reducible refine bstep (by with_reducible assumption) ?_))) (fun hS11 => ?_)
      clear hK K
      repeat (refine wpGo_pure (v := ?_) rfl rfl (fun w' hS => ?_) ?_; rotate_left; (· have kXp : Bk w' (b2) 29 #[.int .u8 s.r, .int .u8 s.g, .int .u8 s.b, .int .u8 255] := (by repeat (first | (with_reducible assumption) | ((with_reducible refine Bk.new _ _ _ ?_); first | (with_reducible rfl) | (simp; done)) | (with_reducible refine Bk.alloc ?_ _) | (with_reducible refine Bk.drew ?_) | (with_reducible refine Bk.drewN ?_ _) | ((with_reducible refine Bk.far ?_ ?_ _); rotate_left; focus (first | (simp; done) | (simp; omega))) | (with_reducible refine Bk.below ?_ (by with_reducible assumption)))); obtain ⟨kcXp, kfXp, kaXp, kgXp, klXp⟩ := kXp.rules; have kYp : Bk w' (b3) 29 #[.int .u8 d.r, .int .u8 d.g, .int .u8 d.b, .int .u8 255] := (by repeat (first | (with_reducible assumption) | ((with_reducible refine Bk.new _ _ _ ?_); first | (with_reducible rfl) | (simp; done)) | (with_reducible refine Bk.alloc ?_ _) | (with_reducible refine Bk.drew ?_) | (with_reducible refine Bk.drewN ?_ _) | ((with_reducible refine Bk.far ?_ ?_ _); rotate_left; focus (first | (simp; done) | (simp; omega))) | (with_reducible refine Bk.below ?_ (by with_reducible assumption)))); obtain ⟨kcYp, kfYp, kaYp, kgYp, klYp⟩ := kYp.rules; go_simp; exact rfl); (try simp only [Act.put, List.setIfInBounds_toArray, List.set_cons_zero, List.set_cons_succ]))
      refine wpGo_eff rfl (fun K hK => ?_)
      go_simp
      refine (ex_any _).mono ?_
      rintro e w12 ⟨rfl, hb12⟩
      refine hK.out _ _ (by repeat (first | (with_reducible exact Below.refl _ _) | (with_reducible refine balloc ?_ _) | (with_reducible refine Below.drew ?_) | (with_reducible refine bdrewN ?_ _) | ((with_reducible refine bset ?_ ?_ _); rotate_left; focus (first | (with_reducible exact Nat.le_refl _) | (simp; done) | (simp; omega) | omega)) | (with_reducible refine bstep (by with_reducible assumption) ?_))) (fun hS12 => ?_)
      clear hK K
      repeat (refine wpGo_pure (v := ?_) rfl rfl (fun w' hS => ?_) ?_; rotate_left; (· skip; go_simp; exact rfl); (try simp only [Act.put, List.setIfInBounds_toArray, List.set_cons_zero, List.set_cons_succ]))
      refine wpGo_nil ?_
      simp only [List.drop_succ_cons, List.drop_zero]
      have hb' : Below w9.heap.size w9 w12 := bstep hS12 hbw
      go_wp2
      go_ret
      exact ⟨rfl, bstep hb' hV⟩

set_option maxRecDepth 100000 in
theorem lifted_BlendSelf (os : Os) (started : os.Started) (H : Type) (enc : TypeId × Value → H) :
    ReturnsInHanded {} Try.checked os 9 .any (Rows.blendSelfSpec.pre6 enc Try.prog Try.f9 Rows.blendSelfRow.domain false) (Rows.blendSelfSpec.post enc Try.prog Try.f9 false true false false) := by
  refine returnsInHanded_of_change (C := Try.checked) Try.own started (by kernel_rfl) Try.func9
    (ChangeSpec.witness6 (enc := enc) (C := Try.checked) false ⟨#[], #[.agg #[.int .u8 0, .int .u8 0, .int .u8 0, .int .u8 0], .agg #[.int .u8 0, .int .u8 0, .int .u8 0, .int .u8 0]], []⟩ 8 (by kernel_rfl) (by kernel_rfl) (by kernel_rfl) (by kernel_rfl)) ?_
  intro W base args ds gs before hval0 hW hcnd _
  have hval : ∀ (j : Nat) t v, Try.f9.params[j]? = some t → args[j]? = some v → Value.okWide Try.prog W .any base t v := hval0
  have hW' := hW
  obtain ⟨p, q, hA0, hV, rfl, hfz, hnd⟩ := hW
  have hA : DataW.TrodAll enc Try.prog W 0 (fun _ => true) true Try.f9.params.toList args.toList ds p := hA0
  rw [Try.params9] at hA hval
  obtain ⟨v0, vs0, d0, ds0, p0, q0, hargs, rfl, rfl, h0, r0⟩ := trodAll_cons hA
  obtain ⟨v1, vs1, d1, ds1, p1, q1, rfl, rfl, rfl, h1, r1⟩ := trodAll_cons r0
  obtain ⟨rfl, rfl, rfl⟩ := trodAll_nil r1
  obtain rfl : args = #[v0, v1] := by cases args; simp_all
  obtain ⟨c00, c01, c02, c03, y00, y01, y02, y03, n0, rfl, _, _, f00, f01, f02, f03⟩ := Joins.open_agg4 Try.underlying29 (by kernel_rfl) (by kernel_rfl) (hval 0 29 v0 rfl rfl) h0
  obtain ⟨x00, rfl, g00⟩ := fld_int Try.underlying5 f00
  obtain ⟨x01, rfl, g01⟩ := fld_int Try.underlying5 f01
  obtain ⟨x02, rfl, g02⟩ := fld_int Try.underlying5 f02
  obtain ⟨x03, rfl, g03⟩ := fld_int Try.underlying5 f03
  obtain ⟨c10, c11, c12, c13, y10, y11, y12, y13, n1, rfl, _, _, f10, f11, f12, f13⟩ := Joins.open_agg4 Try.underlying29 (by kernel_rfl) (by kernel_rfl) (hval 1 29 v1 rfl rfl) h1
  obtain ⟨x10, rfl, g10⟩ := fld_int Try.underlying5 f10
  obtain ⟨x11, rfl, g11⟩ := fld_int Try.underlying5 f11
  obtain ⟨x12, rfl, g12⟩ := fld_int Try.underlying5 f12
  obtain ⟨x13, rfl, g13⟩ := fld_int Try.underlying5 f13
  refine (walk_BlendSelf ⟨x00, x01, x02, x03⟩ ⟨x10, x11, x12, x13⟩ W (px_byte g00 g01 g02 g03) (px_byte g10 g11 g12 g13)).mono fun e W' ⟨he, hb⟩ => ?_
  subst he
  exact ⟨_, rfl, law_post (tb := 4) Try.laidOut (by kernel_rfl) hW' rfl rfl Try.underlying4 rfl rfl rfl hb⟩

theorem BlendSelf_holds : Rows.BlendSelfSaid :=
  OpenClaim.holds_of_wide 9 Try.f9 rfl rfl rfl rfl rfl rfl rfl ⟨rfl, rfl, rfl, rfl, rfl⟩ rfl rfl rfl rfl rfl (by kernel_rfl) Try.func9 (by kernel_rfl)
    (of_decide_eq_true (by kernel_rfl)) (by unfold Func.isWrapper; first | (rw [if_pos (by decide +kernel)]; kernel_rfl) | (rw [if_neg (by decide +kernel)]; exact ⟨rfl, rfl⟩))
    (fun os started H enc _ => lifted_BlendSelf os started H enc)
#print axioms BlendSelf_holds
end Go.Proofs.Ytemkekighlahdaa
