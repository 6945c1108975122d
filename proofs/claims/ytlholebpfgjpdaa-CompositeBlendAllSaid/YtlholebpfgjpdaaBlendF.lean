/-
  The walk of blend.Blend.
-/
import Derived.Test.YtlholebpfgjpdaaBlendE
namespace Go.Proofs.Ytlholebpfgjpdaa
open Go.RowKit
set_option linter.unusedSimpArgs false
set_option linter.unusedVariables false


set_option maxHeartbeats 4000000 in
theorem blend_q (mode : Int) (s d : Px) (w : World) (hs : s.byte) (hd : d.byte) (P : Px) (HP : Hid (blendP mode s d = P)) :
    Calls Try.prog 30 #[.int .i64 mode, .agg #[.int .u8 s.r, .int .u8 s.g, .int .u8 s.b, .int .u8 s.a], .agg #[.int .u8 d.r, .int .u8 d.g, .int .u8 d.b, .int .u8 d.a]] w fun e w' =>
      e = .returned (.agg #[.int .u8 P.r, .int .u8 P.g, .int .u8 P.b, .int .u8 P.a]) ∧ Below w.heap.size w w' := by
  obtain ⟨v, Hv⟩ : ∃ v, Hid (validModeB mode = v) := ⟨_, rfl⟩
  have HV : Hid (∀ w, Calls Try.prog 38 #[.int .i64 mode] w fun e w' => e = .returned (.bool v) ∧ w = w') := fun w => by rw [← Hv.out]; exact vmode_any mode w
  obtain ⟨v', Hv'⟩ : ∃ v, Hid (sepB mode = v) := ⟨_, rfl⟩
  have HS : Hid (∀ w, Calls Try.prog 39 #[.int .i64 mode] w fun e w' => e = .returned (.bool v') ∧ w = w') := fun w => by rw [← Hv'.out]; exact sep_any mode w
  have hE := HP.out
  unfold blendP at hE
  rw [Hv.out, Hv'.out] at hE
  cases v with
  | false =>
    rw [if_neg (by simp)] at hE
    subst hE
    clear HP
    go_enter Try.func30, Try.ntmps30
    go_wp2_with fail
    refine (HV.out _).mono ?_
    rintro e w' ⟨rfl, rfl⟩
    go_wp2_with fail
    refine bodyPost_ret (v := _) ?_ rfl ⟨rfl, (by repeat (first | (with_reducible exact Below.refl _ _) | (with_reducible refine balloc ?_ _) | (with_reducible refine Below.drew ?_) | (with_reducible refine bdrewN ?_ _) | ((with_reducible refine bset ?_ ?_ _); rotate_left; focus (first | (with_reducible exact Nat.le_refl _) | (simp; done) | (simp; omega) | omega)) | (with_reducible refine bstep (by with_reducible assumption) ?_)))⟩
    simp [results, Try.results30, go_sem, List.getElem?_cons_zero]
  | true =>
    rw [if_pos rfl] at hE
    obtain ⟨x, Hx⟩ : ∃ x, Hid (clampP s = x) := ⟨_, rfl⟩
    obtain ⟨y, Hy⟩ : ∃ y, Hid (clampP d = y) := ⟨_, rfl⟩
    have hx := clamp_ok hs
    have hy := clamp_ok hd
    rw [Hx.out] at hx
    rw [Hy.out] at hy
    rw [Hx.out, Hy.out] at hE
    cases v' with
    | false =>
      rw [if_neg (by simp)] at hE
      have HW := Lib.hid hE
      have HX := Lib.hid hx
      have HY := Lib.hid hy
      clear hE HP hx hy
      go_enter Try.func30, Try.ntmps30
      go_wp2_with fail
      refine (HV.out _).mono ?_
      rintro e w' ⟨rfl, rfl⟩
      go_wp2_with fail
      refine wp_region_gob 3 [(0, true), (2, true), (1, false)] (by kernel_rfl) (by kernel_rfl) (fun c a d v w h => by cases d <;> exact h) ?_
      repeat (refine wpGo_pure (v := ?_) rfl rfl (fun w' hS => ?_) ?_; rotate_left; (· have kSp : Bk w' (w.heap.size) 29 #[.int .u8 s.r, .int .u8 s.g, .int .u8 s.b, .int .u8 s.a] := (by repeat (first | (with_reducible assumption) | ((with_reducible refine Bk.new _ _ _ ?_); first | (with_reducible rfl) | (simp; done)) | (with_reducible refine Bk.alloc ?_ _) | (with_reducible refine Bk.drew ?_) | (with_reducible refine Bk.drewN ?_ _) | ((with_reducible refine Bk.far ?_ ?_ _); rotate_left; focus (first | (simp; done) | (simp; omega))) | (with_reducible refine Bk.below ?_ (by with_reducible assumption)))); obtain ⟨kcSp, kfSp, kaSp, kgSp, klSp⟩ := kSp.rules; have kDp : Bk w' (w.heap.size + 1) 29 #[.int .u8 d.r, .int .u8 d.g, .int .u8 d.b, .int .u8 d.a] := (by repeat (first | (with_reducible assumption) | ((with_reducible refine Bk.new _ _ _ ?_); first | (with_reducible rfl) | (simp; done)) | (with_reducible refine Bk.alloc ?_ _) | (with_reducible refine Bk.drew ?_) | (with_reducible refine Bk.drewN ?_ _) | ((with_reducible refine Bk.far ?_ ?_ _); rotate_left; focus (first | (simp; done) | (simp; omega))) | (with_reducible refine Bk.below ?_ (by with_reducible assumption)))); obtain ⟨kcDp, kfDp, kaDp, kgDp, klDp⟩ := kDp.rules; go_simp; exact rfl); (try simp only [Act.put, List.setIfInBounds_toArray, List.set_cons_zero, List.set_cons_succ]))
      refine wpGo_eff rfl (fun K hK => ?_)
      go_simp
      refine (clamp_q s.r s.g s.b s.a x Hx _).mono ?_
      rintro e w1 ⟨rfl, hb1⟩
      refine hK.out _ _ (by repeat (first | (with_reducible exact Below.refl _ _) | (with_reducible refine balloc ?_ _) | (with_reducible refine Below.drew ?_) | (with_reducible refine bdrewN ?_ _) | ((with_reducible refine bset ?_ ?_ _); rotate_left; focus (first | (with_reducible exact Nat.le_refl _) | (simp; done) | (simp; omega) | omega)) | (with_reducible refine bstep (by with_reducible assumption) ?_))) (fun hS1 => ?_)
      clear hK K
      refine wpGo_nil ?_
      simp only [List.drop_succ_cons, List.drop_zero]
      go_wp2_with fail
      refine (clamp_q d.r d.g d.b d.a y Hy _).mono ?_
      rintro e w2 ⟨rfl, hb2⟩
      have kS2 : Bk w2 (w.heap.size) 29 #[.int .u8 s.r, .int .u8 s.g, .int .u8 s.b, .int .u8 s.a] := (by repeat (first | (with_reducible assumption) | ((with_reducible refine Bk.new _ _ _ ?_); first | (with_reducible rfl) | (simp; done)) | (with_reducible refine Bk.alloc ?_ _) | (with_reducible refine Bk.drew ?_) | (with_reducible refine Bk.drewN ?_ _) | ((with_reducible refine Bk.far ?_ ?_ _); rotate_left; focus (first | (simp; done) | (simp; omega))) | (with_reducible refine Bk.below ?_ (by with_reducible assumption)))); obtain ⟨kcS2, kfS2, kaS2, kgS2, klS2⟩ := kS2.rules; have kD2 : Bk w2 (w.heap.size + 1) 29 #[.int .u8 d.r, .int .u8 d.g, .int .u8 d.b, .int .u8 d.a] := (by repeat (first | (with_reducible assumption) | ((with_reducible refine Bk.new _ _ _ ?_); first | (with_reducible rfl) | (simp; done)) | (with_reducible refine Bk.alloc ?_ _) | (with_reducible refine Bk.drew ?_) | (with_reducible refine Bk.drewN ?_ _) | ((with_reducible refine Bk.far ?_ ?_ _); rotate_left; focus (first | (simp; done) | (simp; omega))) | (with_reducible refine Bk.below ?_ (by with_reducible assumption)))); obtain ⟨kcD2, kfD2, kaD2, kgD2, klD2⟩ := kD2.rules; have kO2 : Bk w2 (w.heap.size + 1 + 1) 29 #[.int .u8 0, .int .u8 0, .int .u8 0, .int .u8 0] := (by repeat (first | (with_reducible assumption) | ((with_reducible refine Bk.new _ _ _ ?_); first | (with_reducible rfl) | (simp; done)) | (with_reducible refine Bk.alloc ?_ _) | (with_reducible refine Bk.drew ?_) | (with_reducible refine Bk.drewN ?_ _) | ((with_reducible refine Bk.far ?_ ?_ _); rotate_left; focus (first | (simp; done) | (simp; omega))) | (with_reducible refine Bk.below ?_ (by with_reducible assumption)))); obtain ⟨kcO2, kfO2, kaO2, kgO2, klO2⟩ := kO2.rules
      have jX : Bk _ (w.heap.size) 29 #[.int .u8 x.r, .int .u8 x.g, .int .u8 x.b, .int .u8 x.a] := ((((((((kS2.set 0 (.int .u8 x.r)).set 1 (.int .u8 x.g)).set 2 (.int .u8 x.b)).set 3 (.int .u8 x.a)).far (p := ⟨w.heap.size + 1, 0, none⟩) (by simp) (.int .u8 y.r)).far (p := ⟨w.heap.size + 1, 1, none⟩) (by simp) (.int .u8 y.g)).far (p := ⟨w.heap.size + 1, 2, none⟩) (by simp) (.int .u8 y.b)).far (p := ⟨w.heap.size + 1, 3, none⟩) (by simp) (.int .u8 y.a))
      have jY : Bk _ (w.heap.size + 1) 29 #[.int .u8 y.r, .int .u8 y.g, .int .u8 y.b, .int .u8 y.a] := ((((((((kD2.far (p := ⟨w.heap.size, 0, none⟩) (by simp) (.int .u8 x.r)).far (p := ⟨w.heap.size, 1, none⟩) (by simp) (.int .u8 x.g)).far (p := ⟨w.heap.size, 2, none⟩) (by simp) (.int .u8 x.b)).far (p := ⟨w.heap.size, 3, none⟩) (by simp) (.int .u8 x.a)).set 0 (.int .u8 y.r)).set 1 (.int .u8 y.g)).set 2 (.int .u8 y.b)).set 3 (.int .u8 y.a))
      have jO : Bk _ (w.heap.size + 1 + 1) 29 #[.int .u8 0, .int .u8 0, .int .u8 0, .int .u8 0] := ((((((((kO2.far (p := ⟨w.heap.size, 0, none⟩) (by simp <;> omega) (.int .u8 x.r)).far (p := ⟨w.heap.size, 1, none⟩) (by simp <;> omega) (.int .u8 x.g)).far (p := ⟨w.heap.size, 2, none⟩) (by simp <;> omega) (.int .u8 x.b)).far (p := ⟨w.heap.size, 3, none⟩) (by simp <;> omega) (.int .u8 x.a)).far (p := ⟨w.heap.size + 1, 0, none⟩) (by simp <;> omega) (.int .u8 y.r)).far (p := ⟨w.heap.size + 1, 1, none⟩) (by simp <;> omega) (.int .u8 y.g)).far (p := ⟨w.heap.size + 1, 2, none⟩) (by simp <;> omega) (.int .u8 y.b)).far (p := ⟨w.heap.size + 1, 3, none⟩) (by simp <;> omega) (.int .u8 y.a))
      have hW0 : Below w.heap.size w w2 := (by repeat (first | (with_reducible exact Below.refl _ _) | (with_reducible refine balloc ?_ _) | (with_reducible refine Below.drew ?_) | (with_reducible refine bdrewN ?_ _) | ((with_reducible refine bset ?_ ?_ _); rotate_left; focus (first | (with_reducible exact Nat.le_refl _) | (simp; done) | (simp; omega) | omega)) | (with_reducible refine bstep (by with_reducible assumption) ?_)))
      have hV : Below w.heap.size w ((((((((w2.setCell ⟨w.heap.size, 0, none⟩ (.int .u8 x.r)).setCell ⟨w.heap.size, 1, none⟩ (.int .u8 x.g)).setCell ⟨w.heap.size, 2, none⟩ (.int .u8 x.b)).setCell ⟨w.heap.size, 3, none⟩ (.int .u8 x.a)).setCell ⟨w.heap.size + 1, 0, none⟩ (.int .u8 y.r)).setCell ⟨w.heap.size + 1, 1, none⟩ (.int .u8 y.g)).setCell ⟨w.heap.size + 1, 2, none⟩ (.int .u8 y.b)).setCell ⟨w.heap.size + 1, 3, none⟩ (.int .u8 y.a)) := (by repeat (first | (with_reducible exact Below.refl _ _) | (with_reducible refine balloc ?_ _) | (with_reducible refine Below.drew ?_) | (with_reducible refine bdrewN ?_ _) | ((with_reducible refine bset ?_ ?_ _); rotate_left; focus (first | (with_reducible exact Nat.le_refl _) | (simp; done) | (simp; omega) | omega)) | (with_reducible refine bstep (by with_reducible assumption) ?_)))
      go_wp2_with fail
      generalize ((((((((w2.setCell ⟨w.heap.size, 0, none⟩ (.int .u8 x.r)).setCell ⟨w.heap.size, 1, none⟩ (.int .u8 x.g)).setCell ⟨w.heap.size, 2, none⟩ (.int .u8 x.b)).setCell ⟨w.heap.size, 3, none⟩ (.int .u8 x.a)).setCell ⟨w.heap.size + 1, 0, none⟩ (.int .u8 y.r)).setCell ⟨w.heap.size + 1, 1, none⟩ (.int .u8 y.g)).setCell ⟨w.heap.size + 1, 2, none⟩ (.int .u8 y.b)).setCell ⟨w.heap.size + 1, 3, none⟩ (.int .u8 y.a)) = w3 at hV jX jY jO ⊢
      clear kS2 kD2 kO2 kcS2 kfS2 kaS2 kgS2 kcD2 kfD2 kaD2 kgD2 kcO2 kfO2 kaO2 kgO2 klS2 klD2 klO2 hb2 hb1 hS1 hW0
      refine (HS.out _).mono ?_
      rintro e w' ⟨rfl, rfl⟩
      have kX3 : Bk w3 (w.heap.size) 29 #[.int .u8 x.r, .int .u8 x.g, .int .u8 x.b, .int .u8 x.a] := (by repeat (first | (with_reducible assumption) | ((with_reducible refine Bk.new _ _ _ ?_); first | (with_reducible rfl) | (simp; done)) | (with_reducible refine Bk.alloc ?_ _) | (with_reducible refine Bk.drew ?_) | (with_reducible refine Bk.drewN ?_ _) | ((with_reducible refine Bk.far ?_ ?_ _); rotate_left; focus (first | (simp; done) | (simp; omega))) | (with_reducible refine Bk.below ?_ (by with_reducible assumption)))); obtain ⟨kcX3, kfX3, kaX3, kgX3, klX3⟩ := kX3.rules; have kY3 : Bk w3 (w.heap.size + 1) 29 #[.int .u8 y.r, .int .u8 y.g, .int .u8 y.b, .int .u8 y.a] := (by repeat (first | (with_reducible assumption) | ((with_reducible refine Bk.new _ _ _ ?_); first | (with_reducible rfl) | (simp; done)) | (with_reducible refine Bk.alloc ?_ _) | (with_reducible refine Bk.drew ?_) | (with_reducible refine Bk.drewN ?_ _) | ((with_reducible refine Bk.far ?_ ?_ _); rotate_left; focus (first | (simp; done) | (simp; omega))) | (with_reducible refine Bk.below ?_ (by with_reducible assumption)))); obtain ⟨kcY3, kfY3, kaY3, kgY3, klY3⟩ := kY3.rules; have kO3 : Bk w3 (w.heap.size + 1 + 1) 29 #[.int .u8 0, .int .u8 0, .int .u8 0, .int .u8 0] := (by repeat (first | (with_reducible assumption) | ((with_reducible refine Bk.new _ _ _ ?_); first | (with_reducible rfl) | (simp; done)) | (with_reducible refine Bk.alloc ?_ _) | (with_reducible refine Bk.drew ?_) | (with_reducible refine Bk.drewN ?_ _) | ((with_reducible refine Bk.far ?_ ?_ _); rotate_left; focus (first | (simp; done) | (simp; omega))) | (with_reducible refine Bk.below ?_ (by with_reducible assumption)))); obtain ⟨kcO3, kfO3, kaO3, kgO3, klO3⟩ := kO3.rules
      go_wp2_with fail
      refine (colors_any mode x y _ HX.out HY.out P HW).mono ?_
      rintro e w4 ⟨rfl, hb4⟩
      have kO4 : Bk w4 (w.heap.size + 1 + 1) 29 #[.int .u8 0, .int .u8 0, .int .u8 0, .int .u8 0] := (by repeat (first | (with_reducible assumption) | ((with_reducible refine Bk.new _ _ _ ?_); first | (with_reducible rfl) | (simp; done)) | (with_reducible refine Bk.alloc ?_ _) | (with_reducible refine Bk.drew ?_) | (with_reducible refine Bk.drewN ?_ _) | ((with_reducible refine Bk.far ?_ ?_ _); rotate_left; focus (first | (simp; done) | (simp; omega))) | (with_reducible refine Bk.below ?_ (by with_reducible assumption)))); obtain ⟨kcO4, kfO4, kaO4, kgO4, klO4⟩ := kO4.rules
      go_wp2
      refine bodyPost_ret (v := _) ?_ rfl ⟨rfl, (by repeat (first | (with_reducible exact Below.refl _ _) | (with_reducible refine balloc ?_ _) | (with_reducible refine Below.drew ?_) | (with_reducible refine bdrewN ?_ _) | ((with_reducible refine bset ?_ ?_ _); rotate_left; focus (first | (with_reducible exact Nat.le_refl _) | (simp; done) | (simp; omega) | omega)) | (with_reducible refine bstep (by with_reducible assumption) ?_)))⟩
      simp [results, Try.results30, go_sem, kcO4]
    | true =>
      rw [if_pos rfl] at hE
      unfold sepBlend at hE
      subst hE
      clear HP
      obtain ⟨r0, r1, g0, g1, b0, b1, a0, a1⟩ := hx
      obtain ⟨r0', r1', g0', g1', b0', b1', a0', a1'⟩ := hy
      have m1 := mul_byte (x := x.a) (y := 255 - y.a) a0 a1 (by omega) (by omega)
      have m2 := mul_byte (x := y.a) (y := 255 - x.a) a0' a1' (by omega) (by omega)
      have m3 := mul_byte a0 a1 a0' a1'
      obtain ⟨n4, Hn4⟩ : ∃ n, Hid (x.a * (255 - y.a) + y.a * (255 - x.a) + x.a * y.a = n) := ⟨_, rfl⟩
      have hn4 : 0 ≤ n4 ∧ n4 ≤ 200000 := by have h1 := Hn4.out; omega
      have hal : alphaP x.a y.a = dn8 n4 := by unfold alphaP; rw [Hn4.out]
      rw [hal]
      clear hal
      go_enter Try.func30, Try.ntmps30
      go_wp2_with fail
      refine (HV.out _).mono ?_
      rintro e w' ⟨rfl, rfl⟩
      go_wp2_with fail
      refine wp_region_gob 3 [(0, true), (2, true), (1, false)] (by kernel_rfl) (by kernel_rfl) (fun c a d v w h => by cases d <;> exact h) ?_
      repeat (refine wpGo_pure (v := ?_) rfl rfl (fun w' hS => ?_) ?_; rotate_left; (· have kSp : Bk w' (w.heap.size) 29 #[.int .u8 s.r, .int .u8 s.g, .int .u8 s.b, .int .u8 s.a] := (by repeat (first | (with_reducible assumption) | ((with_reducible refine Bk.new _ _ _ ?_); first | (with_reducible rfl) | (simp; done)) | (with_reducible refine Bk.alloc ?_ _) | (with_reducible refine Bk.drew ?_) | (with_reducible refine Bk.drewN ?_ _) | ((with_reducible refine Bk.far ?_ ?_ _); rotate_left; focus (first | (simp; done) | (simp; omega))) | (with_reducible refine Bk.below ?_ (by with_reducible assumption)))); obtain ⟨kcSp, kfSp, kaSp, kgSp, klSp⟩ := kSp.rules; have kDp : Bk w' (w.heap.size + 1) 29 #[.int .u8 d.r, .int .u8 d.g, .int .u8 d.b, .int .u8 d.a] := (by repeat (first | (with_reducible assumption) | ((with_reducible refine Bk.new _ _ _ ?_); first | (with_reducible rfl) | (simp; done)) | (with_reducible refine Bk.alloc ?_ _) | (with_reducible refine Bk.drew ?_) | (with_reducible refine Bk.drewN ?_ _) | ((with_reducible refine Bk.far ?_ ?_ _); rotate_left; focus (first | (simp; done) | (simp; omega))) | (with_reducible refine Bk.below ?_ (by with_reducible assumption)))); obtain ⟨kcDp, kfDp, kaDp, kgDp, klDp⟩ := kDp.rules; go_simp; exact rfl); (try simp only [Act.put, List.setIfInBounds_toArray, List.set_cons_zero, List.set_cons_succ]))
      refine wpGo_eff rfl (fun K hK => ?_)
      go_simp
      refine (clamp_q s.r s.g s.b s.a x Hx _).mono ?_
      rintro e w1 ⟨rfl, hb1⟩
      refine hK.out _ _ (by repeat (first | (with_reducible exact Below.refl _ _) | (with_reducible refine balloc ?_ _) | (with_reducible refine Below.drew ?_) | (with_reducible refine bdrewN ?_ _) | ((with_reducible refine bset ?_ ?_ _); rotate_left; focus (first | (with_reducible exact Nat.le_refl _) | (simp; done) | (simp; omega) | omega)) | (with_reducible refine bstep (by with_reducible assumption) ?_))) (fun hS1 => ?_)
      clear hK K
      refine wpGo_nil ?_
      simp only [List.drop_succ_cons, List.drop_zero]
      go_wp2_with fail
      refine (clamp_q d.r d.g d.b d.a y Hy _).mono ?_
      rintro e w2 ⟨rfl, hb2⟩
      have kS2 : Bk w2 (w.heap.size) 29 #[.int .u8 s.r, .int .u8 s.g, .int .u8 s.b, .int .u8 s.a] := (by repeat (first | (with_reducible assumption) | ((with_reducible refine Bk.new _ _ _ ?_); first | (with_reducible rfl) | (simp; done)) | (with_reducible refine Bk.alloc ?_ _) | (with_reducible refine Bk.drew ?_) | (with_reducible refine Bk.drewN ?_ _) | ((with_reducible refine Bk.far ?_ ?_ _); rotate_left; focus (first | (simp; done) | (simp; omega))) | (with_reducible refine Bk.below ?_ (by with_reducible assumption)))); obtain ⟨kcS2, kfS2, kaS2, kgS2, klS2⟩ := kS2.rules; have kD2 : Bk w2 (w.heap.size + 1) 29 #[.int .u8 d.r, .int .u8 d.g, .int .u8 d.b, .int .u8 d.a] := (by repeat (first | (with_reducible assumption) | ((with_reducible refine Bk.new _ _ _ ?_); first | (with_reducible rfl) | (simp; done)) | (with_reducible refine Bk.alloc ?_ _) | (with_reducible refine Bk.drew ?_) | (with_reducible refine Bk.drewN ?_ _) | ((with_reducible refine Bk.far ?_ ?_ _); rotate_left; focus (first | (simp; done) | (simp; omega))) | (with_reducible refine Bk.below ?_ (by with_reducible assumption)))); obtain ⟨kcD2, kfD2, kaD2, kgD2, klD2⟩ := kD2.rules; have kO2 : Bk w2 (w.heap.size + 1 + 1) 29 #[.int .u8 0, .int .u8 0, .int .u8 0, .int .u8 0] := (by repeat (first | (with_reducible assumption) | ((with_reducible refine Bk.new _ _ _ ?_); first | (with_reducible rfl) | (simp; done)) | (with_reducible refine Bk.alloc ?_ _) | (with_reducible refine Bk.drew ?_) | (with_reducible refine Bk.drewN ?_ _) | ((with_reducible refine Bk.far ?_ ?_ _); rotate_left; focus (first | (simp; done) | (simp; omega))) | (with_reducible refine Bk.below ?_ (by with_reducible assumption)))); obtain ⟨kcO2, kfO2, kaO2, kgO2, klO2⟩ := kO2.rules
      have jX : Bk _ (w.heap.size) 29 #[.int .u8 x.r, .int .u8 x.g, .int .u8 x.b, .int .u8 x.a] := ((((((((kS2.set 0 (.int .u8 x.r)).set 1 (.int .u8 x.g)).set 2 (.int .u8 x.b)).set 3 (.int .u8 x.a)).far (p := ⟨w.heap.size + 1, 0, none⟩) (by simp) (.int .u8 y.r)).far (p := ⟨w.heap.size + 1, 1, none⟩) (by simp) (.int .u8 y.g)).far (p := ⟨w.heap.size + 1, 2, none⟩) (by simp) (.int .u8 y.b)).far (p := ⟨w.heap.size + 1, 3, none⟩) (by simp) (.int .u8 y.a))
      have jY : Bk _ (w.heap.size + 1) 29 #[.int .u8 y.r, .int .u8 y.g, .int .u8 y.b, .int .u8 y.a] := ((((((((kD2.far (p := ⟨w.heap.size, 0, none⟩) (by simp) (.int .u8 x.r)).far (p := ⟨w.heap.size, 1, none⟩) (by simp) (.int .u8 x.g)).far (p := ⟨w.heap.size, 2, none⟩) (by simp) (.int .u8 x.b)).far (p := ⟨w.heap.size, 3, none⟩) (by simp) (.int .u8 x.a)).set 0 (.int .u8 y.r)).set 1 (.int .u8 y.g)).set 2 (.int .u8 y.b)).set 3 (.int .u8 y.a))
      have jO : Bk _ (w.heap.size + 1 + 1) 29 #[.int .u8 0, .int .u8 0, .int .u8 0, .int .u8 0] := ((((((((kO2.far (p := ⟨w.heap.size, 0, none⟩) (by simp <;> omega) (.int .u8 x.r)).far (p := ⟨w.heap.size, 1, none⟩) (by simp <;> omega) (.int .u8 x.g)).far (p := ⟨w.heap.size, 2, none⟩) (by simp <;> omega) (.int .u8 x.b)).far (p := ⟨w.heap.size, 3, none⟩) (by simp <;> omega) (.int .u8 x.a)).far (p := ⟨w.heap.size + 1, 0, none⟩) (by simp <;> omega) (.int .u8 y.r)).far (p := ⟨w.heap.size + 1, 1, none⟩) (by simp <;> omega) (.int .u8 y.g)).far (p := ⟨w.heap.size + 1, 2, none⟩) (by simp <;> omega) (.int .u8 y.b)).far (p := ⟨w.heap.size + 1, 3, none⟩) (by simp <;> omega) (.int .u8 y.a))
      have hW0 : Below w.heap.size w w2 := (by repeat (first | (with_reducible exact Below.refl _ _) | (with_reducible refine balloc ?_ _) | (with_reducible refine Below.drew ?_) | (with_reducible refine bdrewN ?_ _) | ((with_reducible refine bset ?_ ?_ _); rotate_left; focus (first | (with_reducible exact Nat.le_refl _) | (simp; done) | (simp; omega) | omega)) | (with_reducible refine bstep (by with_reducible assumption) ?_)))
      have hV : Below w.heap.size w ((((((((w2.setCell ⟨w.heap.size, 0, none⟩ (.int .u8 x.r)).setCell ⟨w.heap.size, 1, none⟩ (.int .u8 x.g)).setCell ⟨w.heap.size, 2, none⟩ (.int .u8 x.b)).setCell ⟨w.heap.size, 3, none⟩ (.int .u8 x.a)).setCell ⟨w.heap.size + 1, 0, none⟩ (.int .u8 y.r)).setCell ⟨w.heap.size + 1, 1, none⟩ (.int .u8 y.g)).setCell ⟨w.heap.size + 1, 2, none⟩ (.int .u8 y.b)).setCell ⟨w.heap.size + 1, 3, none⟩ (.int .u8 y.a)) := (by repeat (first | (with_reducible exact Below.refl _ _) | (with_reducible refine balloc ?_ _) | (with_reducible refine Below.drew ?_) | (with_reducible refine bdrewN ?_ _) | ((with_reducible refine bset ?_ ?_ _); rotate_left; focus (first | (with_reducible exact Nat.le_refl _) | (simp; done) | (simp; omega) | omega)) | (with_reducible refine bstep (by with_reducible assumption) ?_)))
      go_wp2_with fail
      generalize ((((((((w2.setCell ⟨w.heap.size, 0, none⟩ (.int .u8 x.r)).setCell ⟨w.heap.size, 1, none⟩ (.int .u8 x.g)).setCell ⟨w.heap.size, 2, none⟩ (.int .u8 x.b)).setCell ⟨w.heap.size, 3, none⟩ (.int .u8 x.a)).setCell ⟨w.heap.size + 1, 0, none⟩ (.int .u8 y.r)).setCell ⟨w.heap.size + 1, 1, none⟩ (.int .u8 y.g)).setCell ⟨w.heap.size + 1, 2, none⟩ (.int .u8 y.b)).setCell ⟨w.heap.size + 1, 3, none⟩ (.int .u8 y.a)) = w3 at hV jX jY jO ⊢
      clear kS2 kD2 kO2 kcS2 kfS2 kaS2 kgS2 kcD2 kfD2 kaD2 kgD2 kcO2 kfO2 kaO2 kgO2 klS2 klD2 klO2 hb2 hb1 hS1 hW0
      refine (HS.out _).mono ?_
      rintro e w' ⟨rfl, rfl⟩
      have kX3 : Bk w3 (w.heap.size) 29 #[.int .u8 x.r, .int .u8 x.g, .int .u8 x.b, .int .u8 x.a] := (by repeat (first | (with_reducible assumption) | ((with_reducible refine Bk.new _ _ _ ?_); first | (with_reducible rfl) | (simp; done)) | (with_reducible refine Bk.alloc ?_ _) | (with_reducible refine Bk.drew ?_) | (with_reducible refine Bk.drewN ?_ _) | ((with_reducible refine Bk.far ?_ ?_ _); rotate_left; focus (first | (simp; done) | (simp; omega))) | (with_reducible refine Bk.below ?_ (by with_reducible assumption)))); obtain ⟨kcX3, kfX3, kaX3, kgX3, klX3⟩ := kX3.rules; have kY3 : Bk w3 (w.heap.size + 1) 29 #[.int .u8 y.r, .int .u8 y.g, .int .u8 y.b, .int .u8 y.a] := (by repeat (first | (with_reducible assumption) | ((with_reducible refine Bk.new _ _ _ ?_); first | (with_reducible rfl) | (simp; done)) | (with_reducible refine Bk.alloc ?_ _) | (with_reducible refine Bk.drew ?_) | (with_reducible refine Bk.drewN ?_ _) | ((with_reducible refine Bk.far ?_ ?_ _); rotate_left; focus (first | (simp; done) | (simp; omega))) | (with_reducible refine Bk.below ?_ (by with_reducible assumption)))); obtain ⟨kcY3, kfY3, kaY3, kgY3, klY3⟩ := kY3.rules; have kO3 : Bk w3 (w.heap.size + 1 + 1) 29 #[.int .u8 0, .int .u8 0, .int .u8 0, .int .u8 0] := (by repeat (first | (with_reducible assumption) | ((with_reducible refine Bk.new _ _ _ ?_); first | (with_reducible rfl) | (simp; done)) | (with_reducible refine Bk.alloc ?_ _) | (with_reducible refine Bk.drew ?_) | (with_reducible refine Bk.drewN ?_ _) | ((with_reducible refine Bk.far ?_ ?_ _); rotate_left; focus (first | (simp; done) | (simp; omega))) | (with_reducible refine Bk.below ?_ (by with_reducible assumption)))); obtain ⟨kcO3, kfO3, kaO3, kgO3, klO3⟩ := kO3.rules
      go_wp2_with fail
      have f1 : IntKind.i64.wrap x.a = x.a := IntWalk.i64_in _ (by omega)
      have f2 : IntKind.i64.wrap y.a = y.a := IntWalk.i64_in _ (by omega)
      have f3 : IntKind.i64.wrap x.r = x.r := IntWalk.i64_in _ (by omega)
      have f4 : IntKind.i64.wrap y.r = y.r := IntWalk.i64_in _ (by omega)
      have f5 : IntKind.i64.wrap x.g = x.g := IntWalk.i64_in _ (by omega)
      have f6 : IntKind.i64.wrap y.g = y.g := IntWalk.i64_in _ (by omega)
      have f7 : IntKind.i64.wrap x.b = x.b := IntWalk.i64_in _ (by omega)
      have f8 : IntKind.i64.wrap y.b = y.b := IntWalk.i64_in _ (by omega)
      have x1 : IntKind.i64.wrap (255 - y.a) = 255 - y.a := IntWalk.i64_in _ (by omega)
      have x2 : IntKind.i64.wrap (x.a * (255 - y.a)) = x.a * (255 - y.a) := IntWalk.i64_in _ (by omega)
      have x3 : IntKind.i64.wrap (255 - x.a) = 255 - x.a := IntWalk.i64_in _ (by omega)
      have x4 : IntKind.i64.wrap (y.a * (255 - x.a)) = y.a * (255 - x.a) := IntWalk.i64_in _ (by omega)
      have x5 : IntKind.i64.wrap (x.a * (255 - y.a) + y.a * (255 - x.a)) = x.a * (255 - y.a) + y.a * (255 - x.a) := IntWalk.i64_in _ (by omega)
      have x7 : IntKind.i64.wrap (x.a * y.a) = x.a * y.a := IntWalk.i64_in _ (by omega)
      have x6 : IntKind.i64.wrap (x.a * (255 - y.a) + y.a * (255 - x.a) + x.a * y.a) = n4 := by rw [Hn4.out]; exact IntWalk.i64_in _ (by omega)
      refine wp_region_gob 8 [(0, true), (1, true), (2, true), (3, true), (4, true), (5, true), (6, true), (7, true)] (by kernel_rfl) (by kernel_rfl) (fun c a d v w h => by cases d <;> exact h) ?_
      repeat (refine wpGo_pure (v := ?_) rfl rfl (fun w' hS => ?_) ?_; rotate_left; (· have kXp : Bk w' (w.heap.size) 29 #[.int .u8 x.r, .int .u8 x.g, .int .u8 x.b, .int .u8 x.a] := (by repeat (first | (with_reducible assumption) | ((with_reducible refine Bk.new _ _ _ ?_); first | (with_reducible rfl) | (simp; done)) | (with_reducible refine Bk.alloc ?_ _) | (with_reducible refine Bk.drew ?_) | (with_reducible refine Bk.drewN ?_ _) | ((with_reducible refine Bk.far ?_ ?_ _); rotate_left; focus (first | (simp; done) | (simp; omega))) | (with_reducible refine Bk.below ?_ (by with_reducible assumption)))); obtain ⟨kcXp, kfXp, kaXp, kgXp, klXp⟩ := kXp.rules; have kYp : Bk w' (w.heap.size + 1) 29 #[.int .u8 y.r, .int .u8 y.g, .int .u8 y.b, .int .u8 y.a] := (by repeat (first | (with_reducible assumption) | ((with_reducible refine Bk.new _ _ _ ?_); first | (with_reducible rfl) | (simp; done)) | (with_reducible refine Bk.alloc ?_ _) | (with_reducible refine Bk.drew ?_) | (with_reducible refine Bk.drewN ?_ _) | ((with_reducible refine Bk.far ?_ ?_ _); rotate_left; focus (first | (simp; done) | (simp; omega))) | (with_reducible refine Bk.below ?_ (by with_reducible assumption)))); obtain ⟨kcYp, kfYp, kaYp, kgYp, klYp⟩ := kYp.rules; go_simp; exact rfl); (try simp only [Act.put, List.setIfInBounds_toArray, List.set_cons_zero, List.set_cons_succ]))
      refine wpGo_nil ?_
      simp only [List.drop_succ_cons, List.drop_zero]
      go_wp2_with fail
      refine wp_region_gob 45 [(0, true), (1, true), (2, true), (3, true), (4, true), (5, true), (6, true), (7, true), (8, true), (10, true), (11, true), (12, true), (13, true), (14, true), (15, true), (16, true), (17, true), (18, true), (20, true), (21, true), (22, true), (23, true), (24, true), (25, true), (26, true), (27, true), (28, true), (30, true), (31, true), (32, true), (33, true), (34, true), (35, true), (36, true), (37, true), (38, true), (39, true), (40, true), (41, true), (42, true), (9, false), (19, false), (29, false), (43, false), (44, true)] (by kernel_rfl) (by kernel_rfl) (fun c a d v w h => by cases d <;> exact h) ?_
      repeat (refine wpGo_pure (v := ?_) rfl rfl (fun w' hS => ?_) ?_; rotate_left; (· have kXp : Bk w' (w.heap.size) 29 #[.int .u8 x.r, .int .u8 x.g, .int .u8 x.b, .int .u8 x.a] := (by repeat (first | (with_reducible assumption) | ((with_reducible refine Bk.new _ _ _ ?_); first | (with_reducible rfl) | (simp; done)) | (with_reducible refine Bk.alloc ?_ _) | (with_reducible refine Bk.drew ?_) | (with_reducible refine Bk.drewN ?_ _) | ((with_reducible refine Bk.far ?_ ?_ _); rotate_left; focus (first | (simp; done) | (simp; omega))) | (with_reducible refine Bk.below ?_ (by with_reducible assumption)))); obtain ⟨kcXp, kfXp, kaXp, kgXp, klXp⟩ := kXp.rules; have kYp : Bk w' (w.heap.size + 1) 29 #[.int .u8 y.r, .int .u8 y.g, .int .u8 y.b, .int .u8 y.a] := (by repeat (first | (with_reducible assumption) | ((with_reducible refine Bk.new _ _ _ ?_); first | (with_reducible rfl) | (simp; done)) | (with_reducible refine Bk.alloc ?_ _) | (with_reducible refine Bk.drew ?_) | (with_reducible refine Bk.drewN ?_ _) | ((with_reducible refine Bk.far ?_ ?_ _); rotate_left; focus (first | (simp; done) | (simp; omega))) | (with_reducible refine Bk.below ?_ (by with_reducible assumption)))); obtain ⟨kcYp, kfYp, kaYp, kgYp, klYp⟩ := kYp.rules; go_simp; exact rfl); (try simp only [Act.put, List.setIfInBounds_toArray, List.set_cons_zero, List.set_cons_succ]))
      clear x1 x2 x3 x4 x5 x6 x7 f1 f2 f3 f4 f5 f6 f7 f8
      refine wpGo_eff rfl (fun K hK => ?_)
      go_simp
      refine (chan_any mode _ _ _ _ _ r0 r1 a1 r0' r1' a1').mono ?_
      rintro e w4 ⟨rfl, hb4⟩
      refine hK.out _ _ (by repeat (first | (with_reducible exact Below.refl _ _) | (with_reducible refine balloc ?_ _) | (with_reducible refine Below.drew ?_) | (with_reducible refine bdrewN ?_ _) | ((with_reducible refine bset ?_ ?_ _); rotate_left; focus (first | (with_reducible exact Nat.le_refl _) | (simp; done) | (simp; omega) | omega)) | (with_reducible refine bstep (by with_reducible assumption) ?_))) (fun hS4 => ?_)
      clear hK K
      refine wpGo_eff rfl (fun K hK => ?_)
      go_simp
      refine (chan_any mode _ _ _ _ _ g0 g1 a1 g0' g1' a1').mono ?_
      rintro e w5 ⟨rfl, hb5⟩
      refine hK.out _ _ (by repeat (first | (with_reducible exact Below.refl _ _) | (with_reducible refine balloc ?_ _) | (with_reducible refine Below.drew ?_) | (with_reducible refine bdrewN ?_ _) | ((with_reducible refine bset ?_ ?_ _); rotate_left; focus (first | (with_reducible exact Nat.le_refl _) | (simp; done) | (simp; omega) | omega)) | (with_reducible refine bstep (by with_reducible assumption) ?_))) (fun hS5 => ?_)
      clear hK K
      refine wpGo_eff rfl (fun K hK => ?_)
      go_simp
      refine (chan_any mode _ _ _ _ _ b0 b1 a1 b0' b1' a1').mono ?_
      rintro e w6 ⟨rfl, hb6⟩
      refine hK.out _ _ (by repeat (first | (with_reducible exact Below.refl _ _) | (with_reducible refine balloc ?_ _) | (with_reducible refine Below.drew ?_) | (with_reducible refine bdrewN ?_ _) | ((with_reducible refine bset ?_ ?_ _); rotate_left; focus (first | (with_reducible exact Nat.le_refl _) | (simp; done) | (simp; omega) | omega)) | (with_reducible refine bstep (by with_reducible assumption) ?_))) (fun hS6 => ?_)
      clear hK K
      refine wpGo_eff rfl (fun K hK => ?_)
      go_simp
      refine (divnorm_any n4 _ (by omega) (by omega)).mono ?_
      rintro e w7 ⟨rfl, hb7⟩
      refine hK.out _ _ (by repeat (first | (with_reducible exact Below.refl _ _) | (with_reducible refine balloc ?_ _) | (with_reducible refine Below.drew ?_) | (with_reducible refine bdrewN ?_ _) | ((with_reducible refine bset ?_ ?_ _); rotate_left; focus (first | (with_reducible exact Nat.le_refl _) | (simp; done) | (simp; omega) | omega)) | (with_reducible refine bstep (by with_reducible assumption) ?_))) (fun hS7 => ?_)
      clear hK K
      repeat (refine wpGo_pure (v := ?_) rfl rfl (fun w' hS => ?_) ?_; rotate_left; (· skip; go_simp; exact rfl); (try simp only [Act.put, List.setIfInBounds_toArray, List.set_cons_zero, List.set_cons_succ]))
      refine wpGo_nil ?_
      simp only [List.drop_succ_cons, List.drop_zero]
      have kO7 : Bk w7 (w.heap.size + 1 + 1) 29 #[.int .u8 0, .int .u8 0, .int .u8 0, .int .u8 0] := (by repeat (first | (with_reducible assumption) | ((with_reducible refine Bk.new _ _ _ ?_); first | (with_reducible rfl) | (simp; done)) | (with_reducible refine Bk.alloc ?_ _) | (with_reducible refine Bk.drew ?_) | (with_reducible refine Bk.drewN ?_ _) | ((with_reducible refine Bk.far ?_ ?_ _); rotate_left; focus (first | (simp; done) | (simp; omega))) | (with_reducible refine Bk.below ?_ (by with_reducible assumption)))); obtain ⟨kcO7, kfO7, kaO7, kgO7, klO7⟩ := kO7.rules
      have hZ : Below w.heap.size w w7 := bstep hS7 hV.drew
      go_wp2
      refine bodyPost_ret (v := _) ?_ rfl ⟨rfl, (by repeat (first | (with_reducible exact Below.refl _ _) | (with_reducible refine balloc ?_ _) | (with_reducible refine Below.drew ?_) | (with_reducible refine bdrewN ?_ _) | ((with_reducible refine bset ?_ ?_ _); rotate_left; focus (first | (with_reducible exact Nat.le_refl _) | (simp; done) | (simp; omega) | omega)) | (with_reducible refine bstep (by with_reducible assumption) ?_)))⟩
      simp [results, Try.results30, go_sem, kcO7]
end Go.Proofs.Ytlholebpfgjpdaa
