/- BlendLuminosity: for all pixels the law grisaillelaw28.BlendLuminosity returns true. No conditions. -/
import Derived.Test.YtemkekighlahdaaLaw28
namespace Go.Proofs.Ytemkekighlahdaa
open Go.ChangeShapes Go.WideShapes Go.ChangeAt Go.RowKit
set_option linter.unusedSimpArgs false
set_option linter.unusedVariables false


theorem blend_facts {mode : Int} (hm : mode = 10 ∨ mode = 11 ∨ mode = 12 ∨ mode = 13) {s d p : Px} (hs : s.byte) (hd : d.byte) (hp : blendP mode (opq s) (opq d) = p) {n L : Int} (hn : lumaP p = n) (hL : lumaP (if mode = 13 then s else d) = L) :
    p.byte ∧ (p.a == 255) = true ∧ 0 ≤ n ∧ n ≤ 25500 ∧ n - L ≤ 50 ∧ L - n ≤ 50 := by
  have hv : validModeB mode = true := by simp [validModeB]; omega
  have hb := (blend_ok hv (opq_ok hs).byte (opq_ok hd).byte).1.byte
  have hl := blend_luma hm hs hd
  rw [hp] at hb hl
  have h2 := hl.2 L hL.symm
  have h3 := luma_bd hb
  rw [hn] at h2 h3
  exact ⟨hb, by rw [hl.1]; rfl, h3.1, h3.2, h2.1, h2.2⟩
set_option maxHeartbeats 4000000 in
theorem walk_BlendLuminosity (s d : Px) (w : World) (hs : s.byte) (hd : d.byte) :
    Calls Try.prog 8 #[.agg #[.int .u8 s.r, .int .u8 s.g, .int .u8 s.b, .int .u8 s.a], .agg #[.int .u8 d.r, .int .u8 d.g, .int .u8 d.b, .int .u8 d.a]] w fun e w' => e = .returned (.bool true) ∧ Below w.heap.size w w' := by
  obtain ⟨e1, E1⟩ : ∃ p, Hid (blendP 10 (opq s) (opq d) = p) := ⟨_, rfl⟩
  obtain ⟨e2, E2⟩ : ∃ p, Hid (blendP 11 (opq s) (opq d) = p) := ⟨_, rfl⟩
  obtain ⟨e3, E3⟩ : ∃ p, Hid (blendP 12 (opq s) (opq d) = p) := ⟨_, rfl⟩
  obtain ⟨e4, E4⟩ : ∃ p, Hid (blendP 13 (opq s) (opq d) = p) := ⟨_, rfl⟩
  obtain ⟨n1, N1⟩ : ∃ n, Hid (lumaP e1 = n) := ⟨_, rfl⟩
  obtain ⟨n2, N2⟩ : ∃ n, Hid (lumaP e2 = n) := ⟨_, rfl⟩
  obtain ⟨n3, N3⟩ : ∃ n, Hid (lumaP e3 = n) := ⟨_, rfl⟩
  obtain ⟨n4, N4⟩ : ∃ n, Hid (lumaP e4 = n) := ⟨_, rfl⟩
  obtain ⟨ls, LS⟩ : ∃ n, Hid (lumaP s = n) := ⟨_, rfl⟩
  obtain ⟨ld, LD⟩ : ∃ n, Hid (lumaP d = n) := ⟨_, rfl⟩
  have LS' : Hid (lumaP (opq s) = ls) := LS.out
  have LD' : Hid (lumaP (opq d) = ld) := LD.out
  obtain ⟨p1, q1, f1, f2, f3, f4⟩ := blend_facts (mode := 10) (by omega) hs hd E1.out N1.out (L := ld) LD.out
  obtain ⟨p2, q2, f5, f6, f7, f8⟩ := blend_facts (mode := 11) (by omega) hs hd E2.out N2.out (L := ld) LD.out
  obtain ⟨p3, q3, f9, f10, f11, f12⟩ := blend_facts (mode := 12) (by omega) hs hd E3.out N3.out (L := ld) LD.out
  obtain ⟨p4, q4, f13, f14, f15, f16⟩ := blend_facts (mode := 13) (by omega) hs hd E4.out N4.out (L := ls) LS.out
  have fs := luma_bd hs
  have fd := luma_bd hd
  rw [LS.out] at fs
  rw [LD.out] at fd
  have P1 := Lib.hid p1
  have P2 := Lib.hid p2
  have P3 := Lib.hid p3
  have P4 := Lib.hid p4
  have HX := Lib.hid (opq_ok hs).byte
  have HY := Lib.hid (opq_ok hd).byte
  clear hs hd p1 p2 p3 p4
  go_enter Try.func8, Try.ntmps8
  go_wp2_with fail
  refine wp_region_mixs 6 [0, 1] [] [2, 3] [4, 5] (fun _ => 29) (fun _ => #[.int .u8 0, .int .u8 0, .int .u8 0, .int .u8 0]) (by kernel_rfl) (by kernel_rfl) (fun c a d v w h => by cases d <;> exact h) (fun c a d v w h => by cases d <;> exact h) (fun j hj => by simp only [List.mem_cons, List.not_mem_nil, or_false] at hj; rcases hj with rfl | rfl <;> exact ⟨_, rfl, rfl, fun a w => by go_simp; rfl⟩) ?_
  simp only [List.map_cons, List.map_nil]
  repeat (refine wpGo_pure (v := ?_) rfl rfl (fun w' hS => ?_) ?_; rotate_left; (· have kSp : Bk w' (w.heap.size) 29 #[.int .u8 s.r, .int .u8 s.g, .int .u8 s.b, .int .u8 s.a] := (by repeat (first | (with_reducible assumption) | ((with_reducible refine Bk.new _ _ _ ?_); first | (with_reducible rfl) | (simp; done)) | (with_reducible refine Bk.alloc ?_ _) | (with_reducible refine Bk.drew ?_) | (with_reducible refine Bk.drewN ?_ _) | ((with_reducible refine Bk.far ?_ ?_ _); rotate_left; focus (first | (simp; done) | (simp; omega))) | (with_reducible refine Bk.below ?_ (by with_reducible assumption)))); obtain ⟨kcSp, kfSp, kaSp, kgSp, klSp⟩ := kSp.rules; have kDp : Bk w' (w.heap.size + 1) 29 #[.int .u8 d.r, .int .u8 d.g, .int .u8 d.b, .int .u8 d.a] := (by repeat (first | (with_reducible assumption) | ((with_reducible refine Bk.new _ _ _ ?_); first | (with_reducible rfl) | (simp; done)) | (with_reducible refine Bk.alloc ?_ _) | (with_reducible refine Bk.drew ?_) | (with_reducible refine Bk.drewN ?_ _) | ((with_reducible refine Bk.far ?_ ?_ _); rotate_left; focus (first | (simp; done) | (simp; omega))) | (with_reducible refine Bk.below ?_ (by with_reducible assumption)))); obtain ⟨kcDp, kfDp, kaDp, kgDp, klDp⟩ := kDp.rules; go_simp; exact rfl); (try simp only [Act.put, List.setIfInBounds_toArray, List.set_cons_zero, List.set_cons_succ]))
  refine wpGo_nil ?_
  refine wpMix_end (fun β w1 hb1 hbk hne => ?_)
  obtain ⟨k2, l2⟩ := hbk 2 (by simp)
  obtain ⟨k3, l3⟩ := hbk 3 (by simp)
  have ne23 := hne 2 (by simp) 3 (by simp) (by decide)
  clear hbk hne
  simp only [putAll, dstOf, ptrTo, List.foldl_cons, List.foldl_nil, List.getElem?_toArray, List.getElem?_cons_succ, List.getElem?_cons_zero, Option.bind_some, Act.put, List.setIfInBounds_toArray, List.set_cons_zero, List.set_cons_succ, List.drop_succ_cons, List.drop_zero]
  generalize β 2 = b2 at *
  generalize β 3 = b3 at *
  clear β
  have l2' : w.heap.size + 1 + 1 ≤ b2 := by simpa using l2
  have l3' : w.heap.size + 1 + 1 ≤ b3 := by simpa using l3
  clear l2 l3
  obtain ⟨kc2, kf2, ka2, kg2, kl2⟩ := k2.rules
  obtain ⟨kc3, kf3, ka3, kg3, kl3⟩ := k3.rules
  refine wpGo_eff rfl (fun K hK => ?_)
  go_simp
  refine hK.out _ _ (by repeat (first | (with_reducible exact Below.refl _ _) | (with_reducible refine balloc ?_ _) | (with_reducible refine Below.drew ?_) | (with_reducible refine bdrewN ?_ _) | ((with_reducible refine bset ?_ ?_ _); rotate_left; focus (first | (with_reducible exact Nat.le_refl _) | (simp; done) | (simp; omega) | omega)) | (with_reducible refine bstep (by with_reducible assumption) ?_))) (fun hS2 => ?_)
  clear hK K
  refine wpGo_eff rfl (fun K hK => ?_)
  go_simp
  refine hK.out _ _ (by repeat (first | (with_reducible exact Below.refl _ _) | (with_reducible refine balloc ?_ _) | (with_reducible refine Below.drew ?_) | (with_reducible refine bdrewN ?_ _) | ((with_reducible refine bset ?_ ?_ _); rotate_left; focus (first | (with_reducible exact Nat.le_refl _) | (simp; done) | (simp; omega) | omega)) | (with_reducible refine bstep (by with_reducible assumption) ?_))) (fun hS3 => ?_)
  clear hK K
  refine wpGo_nil ?_
  have jX : Bk _ b2 29 #[.int .u8 s.r, .int .u8 s.g, .int .u8 s.b, .int .u8 255] := ((((((((((k2.set 0 (.int .u8 s.r)).set 1 (.int .u8 s.g)).set 2 (.int .u8 s.b)).set 3 (.int .u8 s.a)).far (p := ⟨b3, 0, none⟩) ne23 (.int .u8 d.r)).far (p := ⟨b3, 1, none⟩) ne23 (.int .u8 d.g)).far (p := ⟨b3, 2, none⟩) ne23 (.int .u8 d.b)).far (p := ⟨b3, 3, none⟩) ne23 (.int .u8 d.a)).set 3 (.int .u8 255)).far (p := ⟨b3, 3, none⟩) ne23 (.int .u8 255))
  have jY : Bk _ b3 29 #[.int .u8 d.r, .int .u8 d.g, .int .u8 d.b, .int .u8 255] := ((((((((((k3.far (p := ⟨b2, 0, none⟩) ne23.symm (.int .u8 s.r)).far (p := ⟨b2, 1, none⟩) ne23.symm (.int .u8 s.g)).far (p := ⟨b2, 2, none⟩) ne23.symm (.int .u8 s.b)).far (p := ⟨b2, 3, none⟩) ne23.symm (.int .u8 s.a)).set 0 (.int .u8 d.r)).set 1 (.int .u8 d.g)).set 2 (.int .u8 d.b)).set 3 (.int .u8 d.a)).far (p := ⟨b2, 3, none⟩) ne23.symm (.int .u8 255)).set 3 (.int .u8 255))
  have hW0 : Below w.heap.size w w1 := (by repeat (first | (with_reducible exact Below.refl _ _) | (with_reducible refine balloc ?_ _) | (with_reducible refine Below.drew ?_) | (with_reducible refine bdrewN ?_ _) | ((with_reducible refine bset ?_ ?_ _); rotate_left; focus (first | (with_reducible exact Nat.le_refl _) | (simp; done) | (simp; omega) | omega)) | (with_reducible refine bstep (by with_reducible assumption) ?_)))
  have hV : Below w.heap.size w ((((((((((w1.setCell ⟨b2, 0, none⟩ (.int .u8 s.r)).setCell ⟨b2, 1, none⟩ (.int .u8 s.g)).setCell ⟨b2, 2, none⟩ (.int .u8 s.b)).setCell ⟨b2, 3, none⟩ (.int .u8 s.a)).setCell ⟨b3, 0, none⟩ (.int .u8 d.r)).setCell ⟨b3, 1, none⟩ (.int .u8 d.g)).setCell ⟨b3, 2, none⟩ (.int .u8 d.b)).setCell ⟨b3, 3, none⟩ (.int .u8 d.a)).setCell ⟨b2, 3, none⟩ (.int .u8 255)).setCell ⟨b3, 3, none⟩ (.int .u8 255)) := (by repeat (first | (with_reducible exact Below.refl _ _) | (with_reducible refine balloc ?_ _) | (with_reducible refine Below.drew ?_) | (with_reducible refine bdrewN ?_ _) | ((with_reducible refine bset ?_ ?_ _); rotate_left; focus (first | (with_reducible exact Nat.le_refl _) | (simp; done) | (simp; omega) | omega)) | (with_reducible refine bstep (by with_reducible assumption) ?_)))
  have hz : ((((((((((w1.setCell ⟨b2, 0, none⟩ (.int .u8 s.r)).setCell ⟨b2, 1, none⟩ (.int .u8 s.g)).setCell ⟨b2, 2, none⟩ (.int .u8 s.b)).setCell ⟨b2, 3, none⟩ (.int .u8 s.a)).setCell ⟨b3, 0, none⟩ (.int .u8 d.r)).setCell ⟨b3, 1, none⟩ (.int .u8 d.g)).setCell ⟨b3, 2, none⟩ (.int .u8 d.b)).setCell ⟨b3, 3, none⟩ (.int .u8 d.a)).setCell ⟨b2, 3, none⟩ (.int .u8 255)).setCell ⟨b3, 3, none⟩ (.int .u8 255)).heap.size = w1.heap.size := by simp
  go_wp2_with fail
  generalize ((((((((((w1.setCell ⟨b2, 0, none⟩ (.int .u8 s.r)).setCell ⟨b2, 1, none⟩ (.int .u8 s.g)).setCell ⟨b2, 2, none⟩ (.int .u8 s.b)).setCell ⟨b2, 3, none⟩ (.int .u8 s.a)).setCell ⟨b3, 0, none⟩ (.int .u8 d.r)).setCell ⟨b3, 1, none⟩ (.int .u8 d.g)).setCell ⟨b3, 2, none⟩ (.int .u8 d.b)).setCell ⟨b3, 3, none⟩ (.int .u8 d.a)).setCell ⟨b2, 3, none⟩ (.int .u8 255)).setCell ⟨b3, 3, none⟩ (.int .u8 255)) = w9 at hV jX jY hz ⊢
  clear k2 k3 kc2 kf2 ka2 kg2 kl2 kc3 kf3 ka3 kg3 kl3 hS2 hS3 hW0 hb1

  clear hz
  refine wp_region_mixs 10 [0, 1, 3, 4] [2, 5] [6, 7] [8, 9] (fun _ => 29) (fun _ => #[.int .u8 0, .int .u8 0, .int .u8 0, .int .u8 0]) (by kernel_rfl) (by kernel_rfl) (fun c a d v w h => by cases d <;> exact h) (fun c a d v w h => by cases d <;> exact h) (fun j hj => by simp only [List.mem_cons, List.not_mem_nil, or_false] at hj; rcases hj with rfl | rfl <;> exact ⟨_, rfl, rfl, fun a w => by go_simp; rfl⟩) ?_
  simp only [List.map_cons, List.map_nil]
  repeat (refine wpGo_pure (v := ?_) rfl rfl (fun w' hS => ?_) ?_; rotate_left; (· have kXp : Bk w' (b2) 29 #[.int .u8 s.r, .int .u8 s.g, .int .u8 s.b, .int .u8 255] := (by repeat (first | (with_reducible assumption) | ((with_reducible refine Bk.new _ _ _ ?_); first | (with_reducible rfl) | (simp; done)) | (with_reducible refine Bk.alloc ?_ _) | (with_reducible refine Bk.drew ?_) | (with_reducible refine Bk.drewN ?_ _) | ((with_reducible refine Bk.far ?_ ?_ _); rotate_left; focus (first | (simp; done) | (simp; omega))) | (with_reducible refine Bk.below ?_ (by with_reducible assumption)))); obtain ⟨kcXp, kfXp, kaXp, kgXp, klXp⟩ := kXp.rules; have kYp : Bk w' (b3) 29 #[.int .u8 d.r, .int .u8 d.g, .int .u8 d.b, .int .u8 255] := (by repeat (first | (with_reducible assumption) | ((with_reducible refine Bk.new _ _ _ ?_); first | (with_reducible rfl) | (simp; done)) | (with_reducible refine Bk.alloc ?_ _) | (with_reducible refine Bk.drew ?_) | (with_reducible refine Bk.drewN ?_ _) | ((with_reducible refine Bk.far ?_ ?_ _); rotate_left; focus (first | (simp; done) | (simp; omega))) | (with_reducible refine Bk.below ?_ (by with_reducible assumption)))); obtain ⟨kcYp, kfYp, kaYp, kgYp, klYp⟩ := kYp.rules; go_simp; exact rfl); (try simp only [Act.put, List.setIfInBounds_toArray, List.set_cons_zero, List.set_cons_succ]))
  refine wpGo_nil ?_
  refine wpMix_call rfl (fun w1a hb1a K hK => ?_)
  go_simp
  refine (blend_q 10 (opq s) (opq d) _ HX.out HY.out e1 E1).mono ?_
  rintro e w1 ⟨rfl, hb1⟩
  refine hK.out _ _ hb1 (fun _ => ?_)
  clear hK K
  refine wpMix_call rfl (fun w2a hb2a K hK => ?_)
  go_simp
  refine (blend_q 11 (opq s) (opq d) _ HX.out HY.out e2 E2).mono ?_
  rintro e w2 ⟨rfl, hb2⟩
  refine hK.out _ _ hb2 (fun _ => ?_)
  clear hK K
  refine wpMix_end (fun β w3 hb3 hbk hne => ?_)
  obtain ⟨k6, l6⟩ := hbk 6 (by simp)
  obtain ⟨k7, l7⟩ := hbk 7 (by simp)
  have ne67 := hne 6 (by simp) 7 (by simp) (by decide)
  clear hbk hne
  simp only [putAll, dstOf, ptrTo, List.foldl_cons, List.foldl_nil, List.getElem?_toArray, List.getElem?_cons_succ, List.getElem?_cons_zero, Option.bind_some, Act.put, List.setIfInBounds_toArray, List.set_cons_zero, List.set_cons_succ, List.drop_succ_cons, List.drop_zero]
  generalize β 6 = b6 at *
  generalize β 7 = b7 at *
  clear β
  have lX := jX.lt
  have lY := jY.lt
  have kX3 : Bk w3 (b2) 29 #[.int .u8 s.r, .int .u8 s.g, .int .u8 s.b, .int .u8 255] := (by repeat (first | (with_reducible assumption) | ((with_reducible refine Bk.new _ _ _ ?_); first | (with_reducible rfl) | (simp; done)) | (with_reducible refine Bk.alloc ?_ _) | (with_reducible refine Bk.drew ?_) | (with_reducible refine Bk.drewN ?_ _) | ((with_reducible refine Bk.far ?_ ?_ _); rotate_left; focus (first | (simp; done) | (simp; omega))) | (with_reducible refine Bk.below ?_ (by with_reducible assumption)))); obtain ⟨kcX3, kfX3, kaX3, kgX3, klX3⟩ := kX3.rules; have kY3 : Bk w3 (b3) 29 #[.int .u8 d.r, .int .u8 d.g, .int .u8 d.b, .int .u8 255] := (by repeat (first | (with_reducible assumption) | ((with_reducible refine Bk.new _ _ _ ?_); first | (with_reducible rfl) | (simp; done)) | (with_reducible refine Bk.alloc ?_ _) | (with_reducible refine Bk.drew ?_) | (with_reducible refine Bk.drewN ?_ _) | ((with_reducible refine Bk.far ?_ ?_ _); rotate_left; focus (first | (simp; done) | (simp; omega))) | (with_reducible refine Bk.below ?_ (by with_reducible assumption)))); obtain ⟨kcY3, kfY3, kaY3, kgY3, klY3⟩ := kY3.rules
  clear kcX3 kfX3 kaX3 kgX3 kcY3 kfY3 kaY3 kgY3
  obtain ⟨kc6, kf6, ka6, kg6, kl6⟩ := k6.rules
  obtain ⟨kc7, kf7, ka7, kg7, kl7⟩ := k7.rules
  refine wpGo_eff rfl (fun K hK => ?_)
  go_simp
  refine hK.out _ _ (by repeat (first | (with_reducible exact Below.refl _ _) | (with_reducible refine balloc ?_ _) | (with_reducible refine Below.drew ?_) | (with_reducible refine bdrewN ?_ _) | ((with_reducible refine bset ?_ ?_ _); rotate_left; focus (first | (with_reducible exact Nat.le_refl _) | (simp; done) | (simp; omega) | omega)) | (with_reducible refine bstep (by with_reducible assumption) ?_))) (fun hS4 => ?_)
  clear hK K
  refine wpGo_eff rfl (fun K hK => ?_)
  go_simp
  refine hK.out _ _ (by repeat (first | (with_reducible exact Below.refl _ _) | (with_reducible refine balloc ?_ _) | (with_reducible refine Below.drew ?_) | (with_reducible refine bdrewN ?_ _) | ((with_reducible refine bset ?_ ?_ _); rotate_left; focus (first | (with_reducible exact Nat.le_refl _) | (simp; done) | (simp; omega) | omega)) | (with_reducible refine bstep (by with_reducible assumption) ?_))) (fun hS5 => ?_)
  clear hK K
  refine wpGo_nil ?_
  have iX : Bk _ (b2) 29 #[.int .u8 s.r, .int .u8 s.g, .int .u8 s.b, .int .u8 255] := ((((((((kX3.far (p := ⟨b6, 0, none⟩) (by simp <;> omega) (.int .u8 e1.r)).far (p := ⟨b6, 1, none⟩) (by simp <;> omega) (.int .u8 e1.g)).far (p := ⟨b6, 2, none⟩) (by simp <;> omega) (.int .u8 e1.b)).far (p := ⟨b6, 3, none⟩) (by simp <;> omega) (.int .u8 e1.a)).far (p := ⟨b7, 0, none⟩) (by simp <;> omega) (.int .u8 e2.r)).far (p := ⟨b7, 1, none⟩) (by simp <;> omega) (.int .u8 e2.g)).far (p := ⟨b7, 2, none⟩) (by simp <;> omega) (.int .u8 e2.b)).far (p := ⟨b7, 3, none⟩) (by simp <;> omega) (.int .u8 e2.a))
  have iY : Bk _ (b3) 29 #[.int .u8 d.r, .int .u8 d.g, .int .u8 d.b, .int .u8 255] := ((((((((kY3.far (p := ⟨b6, 0, none⟩) (by simp <;> omega) (.int .u8 e1.r)).far (p := ⟨b6, 1, none⟩) (by simp <;> omega) (.int .u8 e1.g)).far (p := ⟨b6, 2, none⟩) (by simp <;> omega) (.int .u8 e1.b)).far (p := ⟨b6, 3, none⟩) (by simp <;> omega) (.int .u8 e1.a)).far (p := ⟨b7, 0, none⟩) (by simp <;> omega) (.int .u8 e2.r)).far (p := ⟨b7, 1, none⟩) (by simp <;> omega) (.int .u8 e2.g)).far (p := ⟨b7, 2, none⟩) (by simp <;> omega) (.int .u8 e2.b)).far (p := ⟨b7, 3, none⟩) (by simp <;> omega) (.int .u8 e2.a))
  have iP : Bk _ b6 29 #[.int .u8 e1.r, .int .u8 e1.g, .int .u8 e1.b, .int .u8 e1.a] := ((((((((k6.set 0 (.int .u8 e1.r)).set 1 (.int .u8 e1.g)).set 2 (.int .u8 e1.b)).set 3 (.int .u8 e1.a)).far (p := ⟨b7, 0, none⟩) ne67 (.int .u8 e2.r)).far (p := ⟨b7, 1, none⟩) ne67 (.int .u8 e2.g)).far (p := ⟨b7, 2, none⟩) ne67 (.int .u8 e2.b)).far (p := ⟨b7, 3, none⟩) ne67 (.int .u8 e2.a))
  have iQ : Bk _ b7 29 #[.int .u8 e2.r, .int .u8 e2.g, .int .u8 e2.b, .int .u8 e2.a] := ((((((((k7.far (p := ⟨b6, 0, none⟩) ne67.symm (.int .u8 e1.r)).far (p := ⟨b6, 1, none⟩) ne67.symm (.int .u8 e1.g)).far (p := ⟨b6, 2, none⟩) ne67.symm (.int .u8 e1.b)).far (p := ⟨b6, 3, none⟩) ne67.symm (.int .u8 e1.a)).set 0 (.int .u8 e2.r)).set 1 (.int .u8 e2.g)).set 2 (.int .u8 e2.b)).set 3 (.int .u8 e2.a))
  have hW0 : Below w.heap.size w w3 := (by repeat (first | (with_reducible exact Below.refl _ _) | (with_reducible refine balloc ?_ _) | (with_reducible refine Below.drew ?_) | (with_reducible refine bdrewN ?_ _) | ((with_reducible refine bset ?_ ?_ _); rotate_left; focus (first | (with_reducible exact Nat.le_refl _) | (simp; done) | (simp; omega) | omega)) | (with_reducible refine bstep (by with_reducible assumption) ?_)))
  have hsz := hV.size
  have hU : Below w.heap.size w ((((((((w3.setCell ⟨b6, 0, none⟩ (.int .u8 e1.r)).setCell ⟨b6, 1, none⟩ (.int .u8 e1.g)).setCell ⟨b6, 2, none⟩ (.int .u8 e1.b)).setCell ⟨b6, 3, none⟩ (.int .u8 e1.a)).setCell ⟨b7, 0, none⟩ (.int .u8 e2.r)).setCell ⟨b7, 1, none⟩ (.int .u8 e2.g)).setCell ⟨b7, 2, none⟩ (.int .u8 e2.b)).setCell ⟨b7, 3, none⟩ (.int .u8 e2.a)) := (by repeat (first | (with_reducible exact Below.refl _ _) | (with_reducible refine balloc ?_ _) | (with_reducible refine Below.drew ?_) | (with_reducible refine bdrewN ?_ _) | ((with_reducible refine bset ?_ ?_ _); rotate_left; focus (first | (with_reducible exact Nat.le_refl _) | (simp; done) | (simp; omega) | omega)) | (with_reducible refine bstep (by with_reducible assumption) ?_)))
  go_wp2_with fail
  generalize ((((((((w3.setCell ⟨b6, 0, none⟩ (.int .u8 e1.r)).setCell ⟨b6, 1, none⟩ (.int .u8 e1.g)).setCell ⟨b6, 2, none⟩ (.int .u8 e1.b)).setCell ⟨b6, 3, none⟩ (.int .u8 e1.a)).setCell ⟨b7, 0, none⟩ (.int .u8 e2.r)).setCell ⟨b7, 1, none⟩ (.int .u8 e2.g)).setCell ⟨b7, 2, none⟩ (.int .u8 e2.b)).setCell ⟨b7, 3, none⟩ (.int .u8 e2.a)) = w20 at hU iP iQ iX iY ⊢
  clear k6 k7 kc6 kf6 ka6 kg6 kl6 kc7 kf7 ka7 kg7 kl7 hS4 hS5 hW0 hb1a hb1 hb2a hb2 hb3 hV hsz jX kX3 klX3 jY kY3 klY3
  have jX := iX
  have jY := iY
  have hV := hU
  clear hU iX iY
  obtain ⟨c6, rfl⟩ : ∃ c, c = b6 := ⟨_, rfl⟩
  obtain ⟨c7, rfl⟩ : ∃ c, c = b7 := ⟨_, rfl⟩

  have jE := iP
  have jG := iQ
  clear iP iQ
  refine wp_region_mixs 10 [0, 1, 3, 4] [2, 5] [6, 7] [8, 9] (fun _ => 29) (fun _ => #[.int .u8 0, .int .u8 0, .int .u8 0, .int .u8 0]) (by kernel_rfl) (by kernel_rfl) (fun c a d v w h => by cases d <;> exact h) (fun c a d v w h => by cases d <;> exact h) (fun j hj => by simp only [List.mem_cons, List.not_mem_nil, or_false] at hj; rcases hj with rfl | rfl <;> exact ⟨_, rfl, rfl, fun a w => by go_simp; rfl⟩) ?_
  simp only [List.map_cons, List.map_nil]
  repeat (refine wpGo_pure (v := ?_) rfl rfl (fun w' hS => ?_) ?_; rotate_left; (· have kXp : Bk w' (b2) 29 #[.int .u8 s.r, .int .u8 s.g, .int .u8 s.b, .int .u8 255] := (by repeat (first | (with_reducible assumption) | ((with_reducible refine Bk.new _ _ _ ?_); first | (with_reducible rfl) | (simp; done)) | (with_reducible refine Bk.alloc ?_ _) | (with_reducible refine Bk.drew ?_) | (with_reducible refine Bk.drewN ?_ _) | ((with_reducible refine Bk.far ?_ ?_ _); rotate_left; focus (first | (simp; done) | (simp; omega))) | (with_reducible refine Bk.below ?_ (by with_reducible assumption)))); obtain ⟨kcXp, kfXp, kaXp, kgXp, klXp⟩ := kXp.rules; have kYp : Bk w' (b3) 29 #[.int .u8 d.r, .int .u8 d.g, .int .u8 d.b, .int .u8 255] := (by repeat (first | (with_reducible assumption) | ((with_reducible refine Bk.new _ _ _ ?_); first | (with_reducible rfl) | (simp; done)) | (with_reducible refine Bk.alloc ?_ _) | (with_reducible refine Bk.drew ?_) | (with_reducible refine Bk.drewN ?_ _) | ((with_reducible refine Bk.far ?_ ?_ _); rotate_left; focus (first | (simp; done) | (simp; omega))) | (with_reducible refine Bk.below ?_ (by with_reducible assumption)))); obtain ⟨kcYp, kfYp, kaYp, kgYp, klYp⟩ := kYp.rules; go_simp; exact rfl); (try simp only [Act.put, List.setIfInBounds_toArray, List.set_cons_zero, List.set_cons_succ]))
  refine wpGo_nil ?_
  refine wpMix_call rfl (fun w1a hb1a K hK => ?_)
  go_simp
  refine (blend_q 12 (opq s) (opq d) _ HX.out HY.out e3 E3).mono ?_
  rintro e w1 ⟨rfl, hb1⟩
  refine hK.out _ _ hb1 (fun _ => ?_)
  clear hK K
  refine wpMix_call rfl (fun w2a hb2a K hK => ?_)
  go_simp
  refine (blend_q 13 (opq s) (opq d) _ HX.out HY.out e4 E4).mono ?_
  rintro e w2 ⟨rfl, hb2⟩
  refine hK.out _ _ hb2 (fun _ => ?_)
  clear hK K
  refine wpMix_end (fun β w3 hb3 hbk hne => ?_)
  obtain ⟨k6, l6⟩ := hbk 6 (by simp)
  obtain ⟨k7, l7⟩ := hbk 7 (by simp)
  have ne67 := hne 6 (by simp) 7 (by simp) (by decide)
  clear hbk hne
  simp only [putAll, dstOf, ptrTo, List.foldl_cons, List.foldl_nil, List.getElem?_toArray, List.getElem?_cons_succ, List.getElem?_cons_zero, Option.bind_some, Act.put, List.setIfInBounds_toArray, List.set_cons_zero, List.set_cons_succ, List.drop_succ_cons, List.drop_zero]
  generalize β 6 = b6 at *
  generalize β 7 = b7 at *
  clear β
  have lX := jX.lt
  have lY := jY.lt
  have lE := jE.lt
  have lG := jG.lt
  have kX3 : Bk w3 (b2) 29 #[.int .u8 s.r, .int .u8 s.g, .int .u8 s.b, .int .u8 255] := (by repeat (first | (with_reducible assumption) | ((with_reducible refine Bk.new _ _ _ ?_); first | (with_reducible rfl) | (simp; done)) | (with_reducible refine Bk.alloc ?_ _) | (with_reducible refine Bk.drew ?_) | (with_reducible refine Bk.drewN ?_ _) | ((with_reducible refine Bk.far ?_ ?_ _); rotate_left; focus (first | (simp; done) | (simp; omega))) | (with_reducible refine Bk.below ?_ (by with_reducible assumption)))); obtain ⟨kcX3, kfX3, kaX3, kgX3, klX3⟩ := kX3.rules; have kY3 : Bk w3 (b3) 29 #[.int .u8 d.r, .int .u8 d.g, .int .u8 d.b, .int .u8 255] := (by repeat (first | (with_reducible assumption) | ((with_reducible refine Bk.new _ _ _ ?_); first | (with_reducible rfl) | (simp; done)) | (with_reducible refine Bk.alloc ?_ _) | (with_reducible refine Bk.drew ?_) | (with_reducible refine Bk.drewN ?_ _) | ((with_reducible refine Bk.far ?_ ?_ _); rotate_left; focus (first | (simp; done) | (simp; omega))) | (with_reducible refine Bk.below ?_ (by with_reducible assumption)))); obtain ⟨kcY3, kfY3, kaY3, kgY3, klY3⟩ := kY3.rules; have kE3 : Bk w3 (c6) 29 #[.int .u8 e1.r, .int .u8 e1.g, .int .u8 e1.b, .int .u8 e1.a] := (by repeat (first | (with_reducible assumption) | ((with_reducible refine Bk.new _ _ _ ?_); first | (with_reducible rfl) | (simp; done)) | (with_reducible refine Bk.alloc ?_ _) | (with_reducible refine Bk.drew ?_) | (with_reducible refine Bk.drewN ?_ _) | ((with_reducible refine Bk.far ?_ ?_ _); rotate_left; focus (first | (simp; done) | (simp; omega))) | (with_reducible refine Bk.below ?_ (by with_reducible assumption)))); obtain ⟨kcE3, kfE3, kaE3, kgE3, klE3⟩ := kE3.rules; have kG3 : Bk w3 (c7) 29 #[.int .u8 e2.r, .int .u8 e2.g, .int .u8 e2.b, .int .u8 e2.a] := (by repeat (first | (with_reducible assumption) | ((with_reducible refine Bk.new _ _ _ ?_); first | (with_reducible rfl) | (simp; done)) | (with_reducible refine Bk.alloc ?_ _) | (with_reducible refine Bk.drew ?_) | (with_reducible refine Bk.drewN ?_ _) | ((with_reducible refine Bk.far ?_ ?_ _); rotate_left; focus (first | (simp; done) | (simp; omega))) | (with_reducible refine Bk.below ?_ (by with_reducible assumption)))); obtain ⟨kcG3, kfG3, kaG3, kgG3, klG3⟩ := kG3.rules
  clear kcX3 kfX3 kaX3 kgX3 kcY3 kfY3 kaY3 kgY3 kcE3 kfE3 kaE3 kgE3 kcG3 kfG3 kaG3 kgG3
  obtain ⟨kc6, kf6, ka6, kg6, kl6⟩ := k6.rules
  obtain ⟨kc7, kf7, ka7, kg7, kl7⟩ := k7.rules
  refine wpGo_eff rfl (fun K hK => ?_)
  go_simp
  refine hK.out _ _ (by repeat (first | (with_reducible exact Below.refl _ _) | (with_reducible refine balloc ?_ _) | (with_reducible refine Below.drew ?_) | (with_reducible refine bdrewN ?_ _) | ((with_reducible refine bset ?_ ?_ _); rotate_left; focus (first | (with_reducible exact Nat.le_refl _) | (simp; done) | (simp; omega) | omega)) | (with_reducible refine bstep (by with_reducible assumption) ?_))) (fun hS4 => ?_)
  clear hK K
  refine wpGo_eff rfl (fun K hK => ?_)
  go_simp
  refine hK.out _ _ (by repeat (first | (with_reducible exact Below.refl _ _) | (with_reducible refine balloc ?_ _) | (with_reducible refine Below.drew ?_) | (with_reducible refine bdrewN ?_ _) | ((with_reducible refine bset ?_ ?_ _); rotate_left; focus (first | (with_reducible exact Nat.le_refl _) | (simp; done) | (simp; omega) | omega)) | (with_reducible refine bstep (by with_reducible assumption) ?_))) (fun hS5 => ?_)
  clear hK K
  refine wpGo_nil ?_
  have iX : Bk _ (b2) 29 #[.int .u8 s.r, .int .u8 s.g, .int .u8 s.b, .int .u8 255] := ((((((((kX3.far (p := ⟨b6, 0, none⟩) (by simp <;> omega) (.int .u8 e3.r)).far (p := ⟨b6, 1, none⟩) (by simp <;> omega) (.int .u8 e3.g)).far (p := ⟨b6, 2, none⟩) (by simp <;> omega) (.int .u8 e3.b)).far (p := ⟨b6, 3, none⟩) (by simp <;> omega) (.int .u8 e3.a)).far (p := ⟨b7, 0, none⟩) (by simp <;> omega) (.int .u8 e4.r)).far (p := ⟨b7, 1, none⟩) (by simp <;> omega) (.int .u8 e4.g)).far (p := ⟨b7, 2, none⟩) (by simp <;> omega) (.int .u8 e4.b)).far (p := ⟨b7, 3, none⟩) (by simp <;> omega) (.int .u8 e4.a))
  have iY : Bk _ (b3) 29 #[.int .u8 d.r, .int .u8 d.g, .int .u8 d.b, .int .u8 255] := ((((((((kY3.far (p := ⟨b6, 0, none⟩) (by simp <;> omega) (.int .u8 e3.r)).far (p := ⟨b6, 1, none⟩) (by simp <;> omega) (.int .u8 e3.g)).far (p := ⟨b6, 2, none⟩) (by simp <;> omega) (.int .u8 e3.b)).far (p := ⟨b6, 3, none⟩) (by simp <;> omega) (.int .u8 e3.a)).far (p := ⟨b7, 0, none⟩) (by simp <;> omega) (.int .u8 e4.r)).far (p := ⟨b7, 1, none⟩) (by simp <;> omega) (.int .u8 e4.g)).far (p := ⟨b7, 2, none⟩) (by simp <;> omega) (.int .u8 e4.b)).far (p := ⟨b7, 3, none⟩) (by simp <;> omega) (.int .u8 e4.a))
  have iE : Bk _ (c6) 29 #[.int .u8 e1.r, .int .u8 e1.g, .int .u8 e1.b, .int .u8 e1.a] := ((((((((kE3.far (p := ⟨b6, 0, none⟩) (by simp <;> omega) (.int .u8 e3.r)).far (p := ⟨b6, 1, none⟩) (by simp <;> omega) (.int .u8 e3.g)).far (p := ⟨b6, 2, none⟩) (by simp <;> omega) (.int .u8 e3.b)).far (p := ⟨b6, 3, none⟩) (by simp <;> omega) (.int .u8 e3.a)).far (p := ⟨b7, 0, none⟩) (by simp <;> omega) (.int .u8 e4.r)).far (p := ⟨b7, 1, none⟩) (by simp <;> omega) (.int .u8 e4.g)).far (p := ⟨b7, 2, none⟩) (by simp <;> omega) (.int .u8 e4.b)).far (p := ⟨b7, 3, none⟩) (by simp <;> omega) (.int .u8 e4.a))
  have iG : Bk _ (c7) 29 #[.int .u8 e2.r, .int .u8 e2.g, .int .u8 e2.b, .int .u8 e2.a] := ((((((((kG3.far (p := ⟨b6, 0, none⟩) (by simp <;> omega) (.int .u8 e3.r)).far (p := ⟨b6, 1, none⟩) (by simp <;> omega) (.int .u8 e3.g)).far (p := ⟨b6, 2, none⟩) (by simp <;> omega) (.int .u8 e3.b)).far (p := ⟨b6, 3, none⟩) (by simp <;> omega) (.int .u8 e3.a)).far (p := ⟨b7, 0, none⟩) (by simp <;> omega) (.int .u8 e4.r)).far (p := ⟨b7, 1, none⟩) (by simp <;> omega) (.int .u8 e4.g)).far (p := ⟨b7, 2, none⟩) (by simp <;> omega) (.int .u8 e4.b)).far (p := ⟨b7, 3, none⟩) (by simp <;> omega) (.int .u8 e4.a))
  have iP : Bk _ b6 29 #[.int .u8 e3.r, .int .u8 e3.g, .int .u8 e3.b, .int .u8 e3.a] := ((((((((k6.set 0 (.int .u8 e3.r)).set 1 (.int .u8 e3.g)).set 2 (.int .u8 e3.b)).set 3 (.int .u8 e3.a)).far (p := ⟨b7, 0, none⟩) ne67 (.int .u8 e4.r)).far (p := ⟨b7, 1, none⟩) ne67 (.int .u8 e4.g)).far (p := ⟨b7, 2, none⟩) ne67 (.int .u8 e4.b)).far (p := ⟨b7, 3, none⟩) ne67 (.int .u8 e4.a))
  have iQ : Bk _ b7 29 #[.int .u8 e4.r, .int .u8 e4.g, .int .u8 e4.b, .int .u8 e4.a] := ((((((((k7.far (p := ⟨b6, 0, none⟩) ne67.symm (.int .u8 e3.r)).far (p := ⟨b6, 1, none⟩) ne67.symm (.int .u8 e3.g)).far (p := ⟨b6, 2, none⟩) ne67.symm (.int .u8 e3.b)).far (p := ⟨b6, 3, none⟩) ne67.symm (.int .u8 e3.a)).set 0 (.int .u8 e4.r)).set 1 (.int .u8 e4.g)).set 2 (.int .u8 e4.b)).set 3 (.int .u8 e4.a))
  have hW0 : Below w.heap.size w w3 := (by repeat (first | (with_reducible exact Below.refl _ _) | (with_reducible refine balloc ?_ _) | (with_reducible refine Below.drew ?_) | (with_reducible refine bdrewN ?_ _) | ((with_reducible refine bset ?_ ?_ _); rotate_left; focus (first | (with_reducible exact Nat.le_refl _) | (simp; done) | (simp; omega) | omega)) | (with_reducible refine bstep (by with_reducible assumption) ?_)))
  have hsz := hV.size
  have hU : Below w.heap.size w ((((((((w3.setCell ⟨b6, 0, none⟩ (.int .u8 e3.r)).setCell ⟨b6, 1, none⟩ (.int .u8 e3.g)).setCell ⟨b6, 2, none⟩ (.int .u8 e3.b)).setCell ⟨b6, 3, none⟩ (.int .u8 e3.a)).setCell ⟨b7, 0, none⟩ (.int .u8 e4.r)).setCell ⟨b7, 1, none⟩ (.int .u8 e4.g)).setCell ⟨b7, 2, none⟩ (.int .u8 e4.b)).setCell ⟨b7, 3, none⟩ (.int .u8 e4.a)) := (by repeat (first | (with_reducible exact Below.refl _ _) | (with_reducible refine balloc ?_ _) | (with_reducible refine Below.drew ?_) | (with_reducible refine bdrewN ?_ _) | ((with_reducible refine bset ?_ ?_ _); rotate_left; focus (first | (with_reducible exact Nat.le_refl _) | (simp; done) | (simp; omega) | omega)) | (with_reducible refine bstep (by with_reducible assumption) ?_)))
  go_wp2_with fail
  generalize ((((((((w3.setCell ⟨b6, 0, none⟩ (.int .u8 e3.r)).setCell ⟨b6, 1, none⟩ (.int .u8 e3.g)).setCell ⟨b6, 2, none⟩ (.int .u8 e3.b)).setCell ⟨b6, 3, none⟩ (.int .u8 e3.a)).setCell ⟨b7, 0, none⟩ (.int .u8 e4.r)).setCell ⟨b7, 1, none⟩ (.int .u8 e4.g)).setCell ⟨b7, 2, none⟩ (.int .u8 e4.b)).setCell ⟨b7, 3, none⟩ (.int .u8 e4.a)) = w30 at hU iP iQ iX iY iE iG ⊢
  clear k6 k7 kc6 kf6 ka6 kg6 kl6 kc7 kf7 ka7 kg7 kl7 hS4 hS5 hW0 hb1a hb1 hb2a hb2 hb3 hV hsz jX kX3 klX3 jY kY3 klY3 jE kE3 klE3 jG kG3 klG3
  have jX := iX
  have jY := iY
  have jE := iE
  have jG := iG
  have hV := hU
  clear hU iX iY iE iG
  obtain ⟨d6, rfl⟩ : ∃ c, c = b6 := ⟨_, rfl⟩
  obtain ⟨d7, rfl⟩ : ∃ c, c = b7 := ⟨_, rfl⟩

  have jH := iP
  have jK := iQ
  clear iP iQ
  refine wp_region_gob 50 [(0, true), (1, true), (2, true), (3, true), (4, true), (5, true), (6, true), (7, true), (8, true), (9, true), (10, true), (11, true), (12, true), (13, true), (14, true), (15, true), (16, true), (17, true), (18, true), (19, true), (21, true), (20, false), (22, false), (23, false), (24, true), (25, true), (26, true), (28, true), (27, false), (29, false), (30, false), (31, true), (32, true), (33, true), (35, true), (34, false), (36, false), (37, false), (38, true), (39, true), (40, true), (42, true), (41, false), (43, false), (44, false), (45, true), (46, true), (47, false), (48, true), (49, true)] (by kernel_rfl) (by kernel_rfl) (fun c a d v w h => by cases d <;> exact h) ?_
  repeat (refine wpGo_pure (v := ?_) rfl rfl (fun w' hS => ?_) ?_; rotate_left; (· have kXp : Bk w' (b2) 29 #[.int .u8 s.r, .int .u8 s.g, .int .u8 s.b, .int .u8 255] := (by repeat (first | (with_reducible assumption) | ((with_reducible refine Bk.new _ _ _ ?_); first | (with_reducible rfl) | (simp; done)) | (with_reducible refine Bk.alloc ?_ _) | (with_reducible refine Bk.drew ?_) | (with_reducible refine Bk.drewN ?_ _) | ((with_reducible refine Bk.far ?_ ?_ _); rotate_left; focus (first | (simp; done) | (simp; omega))) | (with_reducible refine Bk.below ?_ (by with_reducible assumption)))); obtain ⟨kcXp, kfXp, kaXp, kgXp, klXp⟩ := kXp.rules; have kYp : Bk w' (b3) 29 #[.int .u8 d.r, .int .u8 d.g, .int .u8 d.b, .int .u8 255] := (by repeat (first | (with_reducible assumption) | ((with_reducible refine Bk.new _ _ _ ?_); first | (with_reducible rfl) | (simp; done)) | (with_reducible refine Bk.alloc ?_ _) | (with_reducible refine Bk.drew ?_) | (with_reducible refine Bk.drewN ?_ _) | ((with_reducible refine Bk.far ?_ ?_ _); rotate_left; focus (first | (simp; done) | (simp; omega))) | (with_reducible refine Bk.below ?_ (by with_reducible assumption)))); obtain ⟨kcYp, kfYp, kaYp, kgYp, klYp⟩ := kYp.rules; have kEp : Bk w' (c6) 29 #[.int .u8 e1.r, .int .u8 e1.g, .int .u8 e1.b, .int .u8 e1.a] := (by repeat (first | (with_reducible assumption) | ((with_reducible refine Bk.new _ _ _ ?_); first | (with_reducible rfl) | (simp; done)) | (with_reducible refine Bk.alloc ?_ _) | (with_reducible refine Bk.drew ?_) | (with_reducible refine Bk.drewN ?_ _) | ((with_reducible refine Bk.far ?_ ?_ _); rotate_left; focus (first | (simp; done) | (simp; omega))) | (with_reducible refine Bk.below ?_ (by with_reducible assumption)))); obtain ⟨kcEp, kfEp, kaEp, kgEp, klEp⟩ := kEp.rules; have kGp : Bk w' (c7) 29 #[.int .u8 e2.r, .int .u8 e2.g, .int .u8 e2.b, .int .u8 e2.a] := (by repeat (first | (with_reducible assumption) | ((with_reducible refine Bk.new _ _ _ ?_); first | (with_reducible rfl) | (simp; done)) | (with_reducible refine Bk.alloc ?_ _) | (with_reducible refine Bk.drew ?_) | (with_reducible refine Bk.drewN ?_ _) | ((with_reducible refine Bk.far ?_ ?_ _); rotate_left; focus (first | (simp; done) | (simp; omega))) | (with_reducible refine Bk.below ?_ (by with_reducible assumption)))); obtain ⟨kcGp, kfGp, kaGp, kgGp, klGp⟩ := kGp.rules; have kHp : Bk w' (d6) 29 #[.int .u8 e3.r, .int .u8 e3.g, .int .u8 e3.b, .int .u8 e3.a] := (by repeat (first | (with_reducible assumption) | ((with_reducible refine Bk.new _ _ _ ?_); first | (with_reducible rfl) | (simp; done)) | (with_reducible refine Bk.alloc ?_ _) | (with_reducible refine Bk.drew ?_) | (with_reducible refine Bk.drewN ?_ _) | ((with_reducible refine Bk.far ?_ ?_ _); rotate_left; focus (first | (simp; done) | (simp; omega))) | (with_reducible refine Bk.below ?_ (by with_reducible assumption)))); obtain ⟨kcHp, kfHp, kaHp, kgHp, klHp⟩ := kHp.rules; have kKp : Bk w' (d7) 29 #[.int .u8 e4.r, .int .u8 e4.g, .int .u8 e4.b, .int .u8 e4.a] := (by repeat (first | (with_reducible assumption) | ((with_reducible refine Bk.new _ _ _ ?_); first | (with_reducible rfl) | (simp; done)) | (with_reducible refine Bk.alloc ?_ _) | (with_reducible refine Bk.drew ?_) | (with_reducible refine Bk.drewN ?_ _) | ((with_reducible refine Bk.far ?_ ?_ _); rotate_left; focus (first | (simp; done) | (simp; omega))) | (with_reducible refine Bk.below ?_ (by with_reducible assumption)))); obtain ⟨kcKp, kfKp, kaKp, kgKp, klKp⟩ := kKp.rules; go_simp; exact rfl); (try simp only [Act.put, List.setIfInBounds_toArray, List.set_cons_zero, List.set_cons_succ]))
  refine wpGo_eff rfl (fun K hK => ?_)
  go_simp
  refine (luma_any e1 n1 N1 _ P1.out).mono ?_
  rintro e w40 ⟨rfl, hb40⟩
  refine hK.out _ _ (by repeat (first | (with_reducible exact Below.refl _ _) | (with_reducible refine balloc ?_ _) | (with_reducible refine Below.drew ?_) | (with_reducible refine bdrewN ?_ _) | ((with_reducible refine bset ?_ ?_ _); rotate_left; focus (first | (with_reducible exact Nat.le_refl _) | (simp; done) | (simp; omega) | omega)) | (with_reducible refine bstep (by with_reducible assumption) ?_))) (fun hS40 => ?_)
  clear hK K
  refine wpGo_eff rfl (fun K hK => ?_)
  go_simp
  refine (luma_any (opq d) ld LD' _ HY.out).mono ?_
  rintro e w41 ⟨rfl, hb41⟩
  refine hK.out _ _ (by repeat (first | (with_reducible exact Below.refl _ _) | (with_reducible refine balloc ?_ _) | (with_reducible refine Below.drew ?_) | (with_reducible refine bdrewN ?_ _) | ((with_reducible refine bset ?_ ?_ _); rotate_left; focus (first | (with_reducible exact Nat.le_refl _) | (simp; done) | (simp; omega) | omega)) | (with_reducible refine bstep (by with_reducible assumption) ?_))) (fun hS41 => ?_)
  clear hK K
  refine wpGo_eff rfl (fun K hK => ?_)
  go_simp
  refine (near_any n1 ld _ f1 f2 fd.1 fd.2 f3 f4).mono ?_
  rintro e w42 ⟨rfl, hb42⟩
  refine hK.out _ _ (by repeat (first | (with_reducible exact Below.refl _ _) | (with_reducible refine balloc ?_ _) | (with_reducible refine Below.drew ?_) | (with_reducible refine bdrewN ?_ _) | ((with_reducible refine bset ?_ ?_ _); rotate_left; focus (first | (with_reducible exact Nat.le_refl _) | (simp; done) | (simp; omega) | omega)) | (with_reducible refine bstep (by with_reducible assumption) ?_))) (fun hS42 => ?_)
  clear hK K
  repeat (refine wpGo_pure (v := ?_) rfl rfl (fun w' hS => ?_) ?_; rotate_left; (· have kXp : Bk w' (b2) 29 #[.int .u8 s.r, .int .u8 s.g, .int .u8 s.b, .int .u8 255] := (by repeat (first | (with_reducible assumption) | ((with_reducible refine Bk.new _ _ _ ?_); first | (with_reducible rfl) | (simp; done)) | (with_reducible refine Bk.alloc ?_ _) | (with_reducible refine Bk.drew ?_) | (with_reducible refine Bk.drewN ?_ _) | ((with_reducible refine Bk.far ?_ ?_ _); rotate_left; focus (first | (simp; done) | (simp; omega))) | (with_reducible refine Bk.below ?_ (by with_reducible assumption)))); obtain ⟨kcXp, kfXp, kaXp, kgXp, klXp⟩ := kXp.rules; have kYp : Bk w' (b3) 29 #[.int .u8 d.r, .int .u8 d.g, .int .u8 d.b, .int .u8 255] := (by repeat (first | (with_reducible assumption) | ((with_reducible refine Bk.new _ _ _ ?_); first | (with_reducible rfl) | (simp; done)) | (with_reducible refine Bk.alloc ?_ _) | (with_reducible refine Bk.drew ?_) | (with_reducible refine Bk.drewN ?_ _) | ((with_reducible refine Bk.far ?_ ?_ _); rotate_left; focus (first | (simp; done) | (simp; omega))) | (with_reducible refine Bk.below ?_ (by with_reducible assumption)))); obtain ⟨kcYp, kfYp, kaYp, kgYp, klYp⟩ := kYp.rules; have kEp : Bk w' (c6) 29 #[.int .u8 e1.r, .int .u8 e1.g, .int .u8 e1.b, .int .u8 e1.a] := (by repeat (first | (with_reducible assumption) | ((with_reducible refine Bk.new _ _ _ ?_); first | (with_reducible rfl) | (simp; done)) | (with_reducible refine Bk.alloc ?_ _) | (with_reducible refine Bk.drew ?_) | (with_reducible refine Bk.drewN ?_ _) | ((with_reducible refine Bk.far ?_ ?_ _); rotate_left; focus (first | (simp; done) | (simp; omega))) | (with_reducible refine Bk.below ?_ (by with_reducible assumption)))); obtain ⟨kcEp, kfEp, kaEp, kgEp, klEp⟩ := kEp.rules; have kGp : Bk w' (c7) 29 #[.int .u8 e2.r, .int .u8 e2.g, .int .u8 e2.b, .int .u8 e2.a] := (by repeat (first | (with_reducible assumption) | ((with_reducible refine Bk.new _ _ _ ?_); first | (with_reducible rfl) | (simp; done)) | (with_reducible refine Bk.alloc ?_ _) | (with_reducible refine Bk.drew ?_) | (with_reducible refine Bk.drewN ?_ _) | ((with_reducible refine Bk.far ?_ ?_ _); rotate_left; focus (first | (simp; done) | (simp; omega))) | (with_reducible refine Bk.below ?_ (by with_reducible assumption)))); obtain ⟨kcGp, kfGp, kaGp, kgGp, klGp⟩ := kGp.rules; have kHp : Bk w' (d6) 29 #[.int .u8 e3.r, .int .u8 e3.g, .int .u8 e3.b, .int .u8 e3.a] := (by repeat (first | (with_reducible assumption) | ((with_reducible refine Bk.new _ _ _ ?_); first | (with_reducible rfl) | (simp; done)) | (with_reducible refine Bk.alloc ?_ _) | (with_reducible refine Bk.drew ?_) | (with_reducible refine Bk.drewN ?_ _) | ((with_reducible refine Bk.far ?_ ?_ _); rotate_left; focus (first | (simp; done) | (simp; omega))) | (with_reducible refine Bk.below ?_ (by with_reducible assumption)))); obtain ⟨kcHp, kfHp, kaHp, kgHp, klHp⟩ := kHp.rules; have kKp : Bk w' (d7) 29 #[.int .u8 e4.r, .int .u8 e4.g, .int .u8 e4.b, .int .u8 e4.a] := (by repeat (first | (with_reducible assumption) | ((with_reducible refine Bk.new _ _ _ ?_); first | (with_reducible rfl) | (simp; done)) | (with_reducible refine Bk.alloc ?_ _) | (with_reducible refine Bk.drew ?_) | (with_reducible refine Bk.drewN ?_ _) | ((with_reducible refine Bk.far ?_ ?_ _); rotate_left; focus (first | (simp; done) | (simp; omega))) | (with_reducible refine Bk.below ?_ (by with_reducible assumption)))); obtain ⟨kcKp, kfKp, kaKp, kgKp, klKp⟩ := kKp.rules; go_simp; exact rfl); (try simp only [Act.put, List.setIfInBounds_toArray, List.set_cons_zero, List.set_cons_succ]))
  refine wpGo_eff rfl (fun K hK => ?_)
  go_simp
  refine (luma_any e2 n2 N2 _ P2.out).mono ?_
  rintro e w43 ⟨rfl, hb43⟩
  refine hK.out _ _ (by repeat (first | (with_reducible exact Below.refl _ _) | (with_reducible refine balloc ?_ _) | (with_reducible refine Below.drew ?_) | (with_reducible refine bdrewN ?_ _) | ((with_reducible refine bset ?_ ?_ _); rotate_left; focus (first | (with_reducible exact Nat.le_refl _) | (simp; done) | (simp; omega) | omega)) | (with_reducible refine bstep (by with_reducible assumption) ?_))) (fun hS43 => ?_)
  clear hK K
  refine wpGo_eff rfl (fun K hK => ?_)
  go_simp
  refine (luma_any (opq d) ld LD' _ HY.out).mono ?_
  rintro e w44 ⟨rfl, hb44⟩
  refine hK.out _ _ (by repeat (first | (with_reducible exact Below.refl _ _) | (with_reducible refine balloc ?_ _) | (with_reducible refine Below.drew ?_) | (with_reducible refine bdrewN ?_ _) | ((with_reducible refine bset ?_ ?_ _); rotate_left; focus (first | (with_reducible exact Nat.le_refl _) | (simp; done) | (simp; omega) | omega)) | (with_reducible refine bstep (by with_reducible assumption) ?_))) (fun hS44 => ?_)
  clear hK K
  refine wpGo_eff rfl (fun K hK => ?_)
  go_simp
  refine (near_any n2 ld _ f5 f6 fd.1 fd.2 f7 f8).mono ?_
  rintro e w45 ⟨rfl, hb45⟩
  refine hK.out _ _ (by repeat (first | (with_reducible exact Below.refl _ _) | (with_reducible refine balloc ?_ _) | (with_reducible refine Below.drew ?_) | (with_reducible refine bdrewN ?_ _) | ((with_reducible refine bset ?_ ?_ _); rotate_left; focus (first | (with_reducible exact Nat.le_refl _) | (simp; done) | (simp; omega) | omega)) | (with_reducible refine bstep (by with_reducible assumption) ?_))) (fun hS45 => ?_)
  clear hK K
  repeat (refine wpGo_pure (v := ?_) rfl rfl (fun w' hS => ?_) ?_; rotate_left; (· have kXp : Bk w' (b2) 29 #[.int .u8 s.r, .int .u8 s.g, .int .u8 s.b, .int .u8 255] := (by repeat (first | (with_reducible assumption) | ((with_reducible refine Bk.new _ _ _ ?_); first | (with_reducible rfl) | (simp; done)) | (with_reducible refine Bk.alloc ?_ _) | (with_reducible refine Bk.drew ?_) | (with_reducible refine Bk.drewN ?_ _) | ((with_reducible refine Bk.far ?_ ?_ _); rotate_left; focus (first | (simp; done) | (simp; omega))) | (with_reducible refine Bk.below ?_ (by with_reducible assumption)))); obtain ⟨kcXp, kfXp, kaXp, kgXp, klXp⟩ := kXp.rules; have kYp : Bk w' (b3) 29 #[.int .u8 d.r, .int .u8 d.g, .int .u8 d.b, .int .u8 255] := (by repeat (first | (with_reducible assumption) | ((with_reducible refine Bk.new _ _ _ ?_); first | (with_reducible rfl) | (simp; done)) | (with_reducible refine Bk.alloc ?_ _) | (with_reducible refine Bk.drew ?_) | (with_reducible refine Bk.drewN ?_ _) | ((with_reducible refine Bk.far ?_ ?_ _); rotate_left; focus (first | (simp; done) | (simp; omega))) | (with_reducible refine Bk.below ?_ (by with_reducible assumption)))); obtain ⟨kcYp, kfYp, kaYp, kgYp, klYp⟩ := kYp.rules; have kEp : Bk w' (c6) 29 #[.int .u8 e1.r, .int .u8 e1.g, .int .u8 e1.b, .int .u8 e1.a] := (by repeat (first | (with_reducible assumption) | ((with_reducible refine Bk.new _ _ _ ?_); first | (with_reducible rfl) | (simp; done)) | (with_reducible refine Bk.alloc ?_ _) | (with_reducible refine Bk.drew ?_) | (with_reducible refine Bk.drewN ?_ _) | ((with_reducible refine Bk.far ?_ ?_ _); rotate_left; focus (first | (simp; done) | (simp; omega))) | (with_reducible refine Bk.below ?_ (by with_reducible assumption)))); obtain ⟨kcEp, kfEp, kaEp, kgEp, klEp⟩ := kEp.rules; have kGp : Bk w' (c7) 29 #[.int .u8 e2.r, .int .u8 e2.g, .int .u8 e2.b, .int .u8 e2.a] := (by repeat (first | (with_reducible assumption) | ((with_reducible refine Bk.new _ _ _ ?_); first | (with_reducible rfl) | (simp; done)) | (with_reducible refine Bk.alloc ?_ _) | (with_reducible refine Bk.drew ?_) | (with_reducible refine Bk.drewN ?_ _) | ((with_reducible refine Bk.far ?_ ?_ _); rotate_left; focus (first | (simp; done) | (simp; omega))) | (with_reducible refine Bk.below ?_ (by with_reducible assumption)))); obtain ⟨kcGp, kfGp, kaGp, kgGp, klGp⟩ := kGp.rules; have kHp : Bk w' (d6) 29 #[.int .u8 e3.r, .int .u8 e3.g, .int .u8 e3.b, .int .u8 e3.a] := (by repeat (first | (with_reducible assumption) | ((with_reducible refine Bk.new _ _ _ ?_); first | (with_reducible rfl) | (simp; done)) | (with_reducible refine Bk.alloc ?_ _) | (with_reducible refine Bk.drew ?_) | (with_reducible refine Bk.drewN ?_ _) | ((with_reducible refine Bk.far ?_ ?_ _); rotate_left; focus (first | (simp; done) | (simp; omega))) | (with_reducible refine Bk.below ?_ (by with_reducible assumption)))); obtain ⟨kcHp, kfHp, kaHp, kgHp, klHp⟩ := kHp.rules; have kKp : Bk w' (d7) 29 #[.int .u8 e4.r, .int .u8 e4.g, .int .u8 e4.b, .int .u8 e4.a] := (by repeat (first | (with_reducible assumption) | ((with_reducible refine Bk.new _ _ _ ?_); first | (with_reducible rfl) | (simp; done)) | (with_reducible refine Bk.alloc ?_ _) | (with_reducible refine Bk.drew ?_) | (with_reducible refine Bk.drewN ?_ _) | ((with_reducible refine Bk.far ?_ ?_ _); rotate_left; focus (first | (simp; done) | (simp; omega))) | (with_reducible refine Bk.below ?_ (by with_reducible assumption)))); obtain ⟨kcKp, kfKp, kaKp, kgKp, klKp⟩ := kKp.rules; go_simp; exact rfl); (try simp only [Act.put, List.setIfInBounds_toArray, List.set_cons_zero, List.set_cons_succ]))
  refine wpGo_eff rfl (fun K hK => ?_)
  go_simp
  refine (luma_any e3 n3 N3 _ P3.out).mono ?_
  rintro e w46 ⟨rfl, hb46⟩
  refine hK.out _ _ (by repeat (first | (with_reducible exact Below.refl _ _) | (with_reducible refine balloc ?_ _) | (with_reducible refine Below.drew ?_) | (with_reducible refine bdrewN ?_ _) | ((with_reducible refine bset ?_ ?_ _); rotate_left; focus (first | (with_reducible exact Nat.le_refl _) | (simp; done) | (simp; omega) | omega)) | (with_reducible refine bstep (by with_reducible assumption) ?_))) (fun hS46 => ?_)
  clear hK K
  refine wpGo_eff rfl (fun K hK => ?_)
  go_simp
  refine (luma_any (opq d) ld LD' _ HY.out).mono ?_
  rintro e w47 ⟨rfl, hb47⟩
  refine hK.out _ _ (by repeat (first | (with_reducible exact Below.refl _ _) | (with_reducible refine balloc ?_ _) | (with_reducible refine Below.drew ?_) | (with_reducible refine bdrewN ?_ _) | ((with_reducible refine bset ?_ ?_ _); rotate_left; focus (first | (with_reducible exact Nat.le_refl _) | (simp; done) | (simp; omega) | omega)) | (with_reducible refine bstep (by with_reducible assumption) ?_))) (fun hS47 => ?_)
  clear hK K
  refine wpGo_eff rfl (fun K hK => ?_)
  go_simp
  refine (near_any n3 ld _ f9 f10 fd.1 fd.2 f11 f12).mono ?_
  rintro e w48 ⟨rfl, hb48⟩
  refine hK.out _ _ (by repeat (first | (with_reducible exact Below.refl _ _) | (with_reducible refine balloc ?_ _) | (with_reducible refine Below.drew ?_) | (with_reducible refine bdrewN ?_ _) | ((with_reducible refine bset ?_ ?_ _); rotate_left; focus (first | (with_reducible exact Nat.le_refl _) | (simp; done) | (simp; omega) | omega)) | (with_reducible refine bstep (by with_reducible assumption) ?_))) (fun hS48 => ?_)
  clear hK K
  repeat (refine wpGo_pure (v := ?_) rfl rfl (fun w' hS => ?_) ?_; rotate_left; (· have kXp : Bk w' (b2) 29 #[.int .u8 s.r, .int .u8 s.g, .int .u8 s.b, .int .u8 255] := (by repeat (first | (with_reducible assumption) | ((with_reducible refine Bk.new _ _ _ ?_); first | (with_reducible rfl) | (simp; done)) | (with_reducible refine Bk.alloc ?_ _) | (with_reducible refine Bk.drew ?_) | (with_reducible refine Bk.drewN ?_ _) | ((with_reducible refine Bk.far ?_ ?_ _); rotate_left; focus (first | (simp; done) | (simp; omega))) | (with_reducible refine Bk.below ?_ (by with_reducible assumption)))); obtain ⟨kcXp, kfXp, kaXp, kgXp, klXp⟩ := kXp.rules; have kYp : Bk w' (b3) 29 #[.int .u8 d.r, .int .u8 d.g, .int .u8 d.b, .int .u8 255] := (by repeat (first | (with_reducible assumption) | ((with_reducible refine Bk.new _ _ _ ?_); first | (with_reducible rfl) | (simp; done)) | (with_reducible refine Bk.alloc ?_ _) | (with_reducible refine Bk.drew ?_) | (with_reducible refine Bk.drewN ?_ _) | ((with_reducible refine Bk.far ?_ ?_ _); rotate_left; focus (first | (simp; done) | (simp; omega))) | (with_reducible refine Bk.below ?_ (by with_reducible assumption)))); obtain ⟨kcYp, kfYp, kaYp, kgYp, klYp⟩ := kYp.rules; have kEp : Bk w' (c6) 29 #[.int .u8 e1.r, .int .u8 e1.g, .int .u8 e1.b, .int .u8 e1.a] := (by repeat (first | (with_reducible assumption) | ((with_reducible refine Bk.new _ _ _ ?_); first | (with_reducible rfl) | (simp; done)) | (with_reducible refine Bk.alloc ?_ _) | (with_reducible refine Bk.drew ?_) | (with_reducible refine Bk.drewN ?_ _) | ((with_reducible refine Bk.far ?_ ?_ _); rotate_left; focus (first | (simp; done) | (simp; omega))) | (with_reducible refine Bk.below ?_ (by with_reducible assumption)))); obtain ⟨kcEp, kfEp, kaEp, kgEp, klEp⟩ := kEp.rules; have kGp : Bk w' (c7) 29 #[.int .u8 e2.r, .int .u8 e2.g, .int .u8 e2.b, .int .u8 e2.a] := (by repeat (first | (with_reducible assumption) | ((with_reducible refine Bk.new _ _ _ ?_); first | (with_reducible rfl) | (simp; done)) | (with_reducible refine Bk.alloc ?_ _) | (with_reducible refine Bk.drew ?_) | (with_reducible refine Bk.drewN ?_ _) | ((with_reducible refine Bk.far ?_ ?_ _); rotate_left; focus (first | (simp; done) | (simp; omega))) | (with_reducible refine Bk.below ?_ (by with_reducible assumption)))); obtain ⟨kcGp, kfGp, kaGp, kgGp, klGp⟩ := kGp.rules; have kHp : Bk w' (d6) 29 #[.int .u8 e3.r, .int .u8 e3.g, .int .u8 e3.b, .int .u8 e3.a] := (by repeat (first | (with_reducible assumption) | ((with_reducible refine Bk.new _ _ _ ?_); first | (with_reducible rfl) | (simp; done)) | (with_reducible refine Bk.alloc ?_ _) | (with_reducible refine Bk.drew ?_) | (with_reducible refine Bk.drewN ?_ _) | ((with_reducible refine Bk.far ?_ ?_ _); rotate_left; focus (first | (simp; done) | (simp; omega))) | (with_reducible refine Bk.below ?_ (by with_reducible assumption)))); obtain ⟨kcHp, kfHp, kaHp, kgHp, klHp⟩ := kHp.rules; have kKp : Bk w' (d7) 29 #[.int .u8 e4.r, .int .u8 e4.g, .int .u8 e4.b, .int .u8 e4.a] := (by repeat (first | (with_reducible assumption) | ((with_reducible refine Bk.new _ _ _ ?_); first | (with_reducible rfl) | (simp; done)) | (with_reducible refine Bk.alloc ?_ _) | (with_reducible refine Bk.drew ?_) | (with_reducible refine Bk.drewN ?_ _) | ((with_reducible refine Bk.far ?_ ?_ _); rotate_left; focus (first | (simp; done) | (simp; omega))) | (with_reducible refine Bk.below ?_ (by with_reducible assumption)))); obtain ⟨kcKp, kfKp, kaKp, kgKp, klKp⟩ := kKp.rules; go_simp; exact rfl); (try simp only [Act.put, List.setIfInBounds_toArray, List.set_cons_zero, List.set_cons_succ]))
  refine wpGo_eff rfl (fun K hK => ?_)
  go_simp
  refine (luma_any e4 n4 N4 _ P4.out).mono ?_
  rintro e w49 ⟨rfl, hb49⟩
  refine hK.out _ _ (by repeat (first | (with_reducible exact Below.refl _ _) | (with_reducible refine balloc ?_ _) | (with_reducible refine Below.drew ?_) | (with_reducible refine bdrewN ?_ _) | ((with_reducible refine bset ?_ ?_ _); rotate_left; focus (first | (with_reducible exact Nat.le_refl _) | (simp; done) | (simp; omega) | omega)) | (with_reducible refine bstep (by with_reducible assumption) ?_))) (fun hS49 => ?_)
  clear hK K
  refine wpGo_eff rfl (fun K hK => ?_)
  go_simp
  refine (luma_any (opq s) ls LS' _ HX.out).mono ?_
  rintro e w50 ⟨rfl, hb50⟩
  refine hK.out _ _ (by repeat (first | (with_reducible exact Below.refl _ _) | (with_reducible refine balloc ?_ _) | (with_reducible refine Below.drew ?_) | (with_reducible refine bdrewN ?_ _) | ((with_reducible refine bset ?_ ?_ _); rotate_left; focus (first | (with_reducible exact Nat.le_refl _) | (simp; done) | (simp; omega) | omega)) | (with_reducible refine bstep (by with_reducible assumption) ?_))) (fun hS50 => ?_)
  clear hK K
  refine wpGo_eff rfl (fun K hK => ?_)
  go_simp
  refine (near_any n4 ls _ f13 f14 fs.1 fs.2 f15 f16).mono ?_
  rintro e w51 ⟨rfl, hb51⟩
  refine hK.out _ _ (by repeat (first | (with_reducible exact Below.refl _ _) | (with_reducible refine balloc ?_ _) | (with_reducible refine Below.drew ?_) | (with_reducible refine bdrewN ?_ _) | ((with_reducible refine bset ?_ ?_ _); rotate_left; focus (first | (with_reducible exact Nat.le_refl _) | (simp; done) | (simp; omega) | omega)) | (with_reducible refine bstep (by with_reducible assumption) ?_))) (fun hS51 => ?_)
  clear hK K
  repeat (refine wpGo_pure (v := ?_) rfl rfl (fun w' hS => ?_) ?_; rotate_left; (· have kXp : Bk w' (b2) 29 #[.int .u8 s.r, .int .u8 s.g, .int .u8 s.b, .int .u8 255] := (by repeat (first | (with_reducible assumption) | ((with_reducible refine Bk.new _ _ _ ?_); first | (with_reducible rfl) | (simp; done)) | (with_reducible refine Bk.alloc ?_ _) | (with_reducible refine Bk.drew ?_) | (with_reducible refine Bk.drewN ?_ _) | ((with_reducible refine Bk.far ?_ ?_ _); rotate_left; focus (first | (simp; done) | (simp; omega))) | (with_reducible refine Bk.below ?_ (by with_reducible assumption)))); obtain ⟨kcXp, kfXp, kaXp, kgXp, klXp⟩ := kXp.rules; have kYp : Bk w' (b3) 29 #[.int .u8 d.r, .int .u8 d.g, .int .u8 d.b, .int .u8 255] := (by repeat (first | (with_reducible assumption) | ((with_reducible refine Bk.new _ _ _ ?_); first | (with_reducible rfl) | (simp; done)) | (with_reducible refine Bk.alloc ?_ _) | (with_reducible refine Bk.drew ?_) | (with_reducible refine Bk.drewN ?_ _) | ((with_reducible refine Bk.far ?_ ?_ _); rotate_left; focus (first | (simp; done) | (simp; omega))) | (with_reducible refine Bk.below ?_ (by with_reducible assumption)))); obtain ⟨kcYp, kfYp, kaYp, kgYp, klYp⟩ := kYp.rules; have kEp : Bk w' (c6) 29 #[.int .u8 e1.r, .int .u8 e1.g, .int .u8 e1.b, .int .u8 e1.a] := (by repeat (first | (with_reducible assumption) | ((with_reducible refine Bk.new _ _ _ ?_); first | (with_reducible rfl) | (simp; done)) | (with_reducible refine Bk.alloc ?_ _) | (with_reducible refine Bk.drew ?_) | (with_reducible refine Bk.drewN ?_ _) | ((with_reducible refine Bk.far ?_ ?_ _); rotate_left; focus (first | (simp; done) | (simp; omega))) | (with_reducible refine Bk.below ?_ (by with_reducible assumption)))); obtain ⟨kcEp, kfEp, kaEp, kgEp, klEp⟩ := kEp.rules; have kGp : Bk w' (c7) 29 #[.int .u8 e2.r, .int .u8 e2.g, .int .u8 e2.b, .int .u8 e2.a] := (by repeat (first | (with_reducible assumption) | ((with_reducible refine Bk.new _ _ _ ?_); first | (with_reducible rfl) | (simp; done)) | (with_reducible refine Bk.alloc ?_ _) | (with_reducible refine Bk.drew ?_) | (with_reducible refine Bk.drewN ?_ _) | ((with_reducible refine Bk.far ?_ ?_ _); rotate_left; focus (first | (simp; done) | (simp; omega))) | (with_reducible refine Bk.below ?_ (by with_reducible assumption)))); obtain ⟨kcGp, kfGp, kaGp, kgGp, klGp⟩ := kGp.rules; have kHp : Bk w' (d6) 29 #[.int .u8 e3.r, .int .u8 e3.g, .int .u8 e3.b, .int .u8 e3.a] := (by repeat (first | (with_reducible assumption) | ((with_reducible refine Bk.new _ _ _ ?_); first | (with_reducible rfl) | (simp; done)) | (with_reducible refine Bk.alloc ?_ _) | (with_reducible refine Bk.drew ?_) | (with_reducible refine Bk.drewN ?_ _) | ((with_reducible refine Bk.far ?_ ?_ _); rotate_left; focus (first | (simp; done) | (simp; omega))) | (with_reducible refine Bk.below ?_ (by with_reducible assumption)))); obtain ⟨kcHp, kfHp, kaHp, kgHp, klHp⟩ := kHp.rules; have kKp : Bk w' (d7) 29 #[.int .u8 e4.r, .int .u8 e4.g, .int .u8 e4.b, .int .u8 e4.a] := (by repeat (first | (with_reducible assumption) | ((with_reducible refine Bk.new _ _ _ ?_); first | (with_reducible rfl) | (simp; done)) | (with_reducible refine Bk.alloc ?_ _) | (with_reducible refine Bk.drew ?_) | (with_reducible refine Bk.drewN ?_ _) | ((with_reducible refine Bk.far ?_ ?_ _); rotate_left; focus (first | (simp; done) | (simp; omega))) | (with_reducible refine Bk.below ?_ (by with_reducible assumption)))); obtain ⟨kcKp, kfKp, kaKp, kgKp, klKp⟩ := kKp.rules; go_simp; exact rfl); (try simp only [Act.put, List.setIfInBounds_toArray, List.set_cons_zero, List.set_cons_succ]))
  refine wpGo_eff rfl (fun K hK => ?_)
  go_simp
  refine (ex_any _).mono ?_
  rintro e w52 ⟨rfl, hb52⟩
  refine hK.out _ _ (by repeat (first | (with_reducible exact Below.refl _ _) | (with_reducible refine balloc ?_ _) | (with_reducible refine Below.drew ?_) | (with_reducible refine bdrewN ?_ _) | ((with_reducible refine bset ?_ ?_ _); rotate_left; focus (first | (with_reducible exact Nat.le_refl _) | (simp; done) | (simp; omega) | omega)) | (with_reducible refine bstep (by with_reducible assumption) ?_))) (fun hS52 => ?_)
  clear hK K
  repeat (refine wpGo_pure (v := ?_) rfl rfl (fun w' hS => ?_) ?_; rotate_left; (· skip; go_simp; exact rfl); (try simp only [Act.put, List.setIfInBounds_toArray, List.set_cons_zero, List.set_cons_succ]))
  refine wpGo_nil ?_
  simp only [List.drop_succ_cons, List.drop_zero]
  go_wp2
  go_ret
  exact ⟨rfl, bstep hS52 hV⟩

set_option maxRecDepth 100000 in
theorem lifted_BlendLuminosity (os : Os) (started : os.Started) (H : Type) (enc : TypeId × Value → H) :
    ReturnsInHanded {} Try.checked os 8 .any (Rows.blendLuminositySpec.pre6 enc Try.prog Try.f8 Rows.blendLuminosityRow.domain false) (Rows.blendLuminositySpec.post enc Try.prog Try.f8 false true false false) := by
  refine returnsInHanded_of_change (C := Try.checked) Try.own started (by kernel_rfl) Try.func8
    (ChangeSpec.witness6 (enc := enc) (C := Try.checked) false ⟨#[], #[.agg #[.int .u8 0, .int .u8 0, .int .u8 0, .int .u8 0], .agg #[.int .u8 0, .int .u8 0, .int .u8 0, .int .u8 0]], []⟩ 8 (by kernel_rfl) (by kernel_rfl) (by kernel_rfl) (by kernel_rfl)) ?_
  intro W base args ds gs before hval0 hW hcnd _
  have hval : ∀ (j : Nat) t v, Try.f8.params[j]? = some t → args[j]? = some v → Value.okWide Try.prog W .any base t v := hval0
  have hW' := hW
  obtain ⟨p, q, hA0, hV, rfl, hfz, hnd⟩ := hW
  have hA : DataW.TrodAll enc Try.prog W 0 (fun _ => true) true Try.f8.params.toList args.toList ds p := hA0
  rw [Try.params8] at hA hval
  obtain ⟨v0, vs0, d0, ds0, p0, q0, hargs, rfl, rfl, h0, r0⟩ := trodAll_cons hA
  obtain ⟨v1, vs1, d1, ds1, p1, q1, rfl, rfl, rfl, h1, r1⟩ := trodAll_cons r0
  obtain ⟨rfl, rfl, rfl⟩ := trodAll_nil r1
  obtain rfl : args = #[v0, v1] := by cases args; simp_all
  obtain ⟨c00, c01, c02, c03, y00, y01, y02, y03, n0, rfl, _, _, f00, f01, f02, f03⟩ := Joins.open_agg4 Try.underlying29 (by kernel_rfl) (by kernel_rfl) (hval 0 29 v0 rfl rfl) h0
  obtain ⟨x00, rfl, g00⟩ := fld_int Try.underlying5 f00
  obtain ⟨x01, rfl, g01⟩ := fld_int Try.underlying5 f01
  obtain ⟨x02, rfl, g02⟩ := fld_int Try.underlying5 f02
  obtain ⟨x03, rfl, g03⟩ := fld_int Try.underlying5 f03
  obtain ⟨c10, c11, c12, c13, y10, y11, y12, y13, n1, rfl, _, _, f10, f11, f12, f13⟩ := Joins.open_agg4 Try.underlying29 (by kernel_rfl) (by kernel_rfl) (hval 1 29 v1 rfl rfl) h1
  obtain ⟨x10, rfl, g10⟩ := fld_int Try.underlying5 f10
  obtain ⟨x11, rfl, g11⟩ := fld_int Try.underlying5 f11
  obtain ⟨x12, rfl, g12⟩ := fld_int Try.underlying5 f12
  obtain ⟨x13, rfl, g13⟩ := fld_int Try.underlying5 f13
  refine (walk_BlendLuminosity ⟨x00, x01, x02, x03⟩ ⟨x10, x11, x12, x13⟩ W (px_byte g00 g01 g02 g03) (px_byte g10 g11 g12 g13)).mono fun e W' ⟨he, hb⟩ => ?_
  subst he
  exact ⟨_, rfl, law_post (tb := 4) Try.laidOut (by kernel_rfl) hW' rfl rfl Try.underlying4 rfl rfl rfl hb⟩

theorem BlendLuminosity_holds : Rows.BlendLuminositySaid :=
  OpenClaim.holds_of_wide 8 Try.f8 rfl rfl rfl rfl rfl rfl rfl ⟨rfl, rfl, rfl, rfl, rfl⟩ rfl rfl rfl rfl rfl (by kernel_rfl) Try.func8 (by kernel_rfl)
    (of_decide_eq_true (by kernel_rfl)) (by unfold Func.isWrapper; first | (rw [if_pos (by decide +kernel)]; kernel_rfl) | (rw [if_neg (by decide +kernel)]; exact ⟨rfl, rfl⟩))
    (fun os started H enc _ => lifted_BlendLuminosity os started H enc)
#print axioms BlendLuminosity_holds
end Go.Proofs.Ytemkekighlahdaa
