/-
  The walks of package composite and of grisailleref29 without the blends of the reference.
-/
import Derived.Test.YtlholebpfgjpdaaCompM
import Derived.Test.YtlholebpfgjpdaaBlendF
import Derived.Test.YtlholebpfgjpdaaList
namespace Go.Proofs.Ytlholebpfgjpdaa
open Go.RowKit
set_option linter.unusedSimpArgs false
set_option linter.unusedVariables false

/-- The value of a term. -/
def valueP (t sa da : Int) : Int := if t = 1 then 255 else if t = 2 then sa else if t = 3 then 255 - sa else if t = 4 then da else if t = 5 then 255 - da else 0
set_option maxHeartbeats 800000 in
theorem value_any (t sa da : Int) (w : World) (h0 : 0 ≤ sa) (h1 : sa ≤ 255) (h2 : 0 ≤ da) (h3 : da ≤ 255) :
    Calls Try.prog 25 #[.int .i64 t, .int .u8 sa, .int .u8 da] w fun e w' => e = .returned (.int .i64 (valueP t sa da)) ∧ w = w' := by
  go_enter Try.func25, Try.ntmps25
  go_wp2
  all_goals
    go_ret
    refine ⟨ret_int ?_, rfl⟩
    simp_all [valueP]
theorem fac_code {op sa da : Int} (h : validOpB op = true) : facP op sa da = (valueP (codeP op).1 sa da, valueP (codeP op).2 sa da) := by
  rcases op_cases h with rfl | rfl | rfl | rfl | rfl | rfl | rfl | rfl | rfl | rfl <;> simp [facP, codeP, valueP]
theorem fac_invalid {op sa da : Int} (h : validOpB op = false) : facP op sa da = (0, 255) := by
  simp only [validOpB, Bool.and_eq_false_iff, decide_eq_false_iff_not] at h
  unfold facP
  rw [if_neg (by omega), if_neg (by omega), if_neg (by omega), if_neg (by omega), if_neg (by omega), if_neg (by omega), if_neg (by omega), if_neg (by omega), if_neg (by omega), if_neg (by omega)]

set_option maxHeartbeats 800000 in
theorem validop_any (op : Int) (w : World) :
    Calls Try.prog 12 #[.int .i64 op] w fun e w' => e = .returned (.bool (validOpB op)) ∧ Below w.heap.size w w' := by
  go_enter Try.func12, Try.ntmps12
  go_wp2_with fail
  refine (operators_any _).mono ?_
  rintro e w1 ⟨rfl, ho1, hb1⟩
  have hl := look_ops op ho1
  go_wp2
  go_ret
  exact ⟨rfl, (by repeat (first | (with_reducible exact Below.refl _ _) | (with_reducible refine balloc ?_ _) | (with_reducible refine Below.drew ?_) | (with_reducible refine bdrewN ?_ _) | ((with_reducible refine bset ?_ ?_ _); rotate_left; focus (first | (with_reducible exact Nat.le_refl _) | (simp; done) | (simp; omega) | omega)) | (with_reducible refine bstep (by with_reducible assumption) ?_)))⟩


set_option maxHeartbeats 1600000 in
theorem factors_q (op sa da m n : Int) (Hf : Hid (facP op sa da = (m, n))) (w : World) (h0 : 0 ≤ sa) (h1 : sa ≤ 255) (h2 : 0 ≤ da) (h3 : da ≤ 255) :
    Calls Try.prog 10 #[.int .i64 op, .int .u8 sa, .int .u8 da] w fun e w' => e = .returned (.tuple #[.int .i64 m, .int .i64 n]) ∧ Below w.heap.size w w' := by
  obtain ⟨v, Hv⟩ : ∃ v, Hid (validOpB op = v) := ⟨_, rfl⟩
  obtain ⟨c1, Hc1⟩ : ∃ c, Hid ((codeP op).1 = c) := ⟨_, rfl⟩
  obtain ⟨c2, Hc2⟩ : ∃ c, Hid ((codeP op).2 = c) := ⟨_, rfl⟩
  cases v with
  | false =>
    have hf := Hf.out
    rw [fac_invalid Hv.out] at hf
    injection hf with e1 e2
    subst e1 e2
    go_enter Try.func10, Try.ntmps10
    go_wp2_with fail
    refine (operators_any _).mono ?_
    rintro e w1 ⟨rfl, ho1, hb1⟩
    have hl := look_ops op ho1
    rw [Hv.out, Hc1.out, Hc2.out] at hl
    go_wp2
    go_ret2
    exact ⟨rfl, (by repeat (first | (with_reducible exact Below.refl _ _) | (with_reducible refine balloc ?_ _) | (with_reducible refine Below.drew ?_) | (with_reducible refine bdrewN ?_ _) | ((with_reducible refine bset ?_ ?_ _); rotate_left; focus (first | (with_reducible exact Nat.le_refl _) | (simp; done) | (simp; omega) | omega)) | (with_reducible refine bstep (by with_reducible assumption) ?_)))⟩
  | true =>
    have hf := Hf.out
    rw [fac_code Hv.out, Hc1.out, Hc2.out] at hf
    injection hf with e1 e2
    subst e1 e2
    clear Hf
    go_enter Try.func10, Try.ntmps10
    go_wp2_with fail
    refine (operators_any _).mono ?_
    rintro e w1 ⟨rfl, ho1, hb1⟩
    have hl := look_ops op ho1
    rw [Hv.out, Hc1.out, Hc2.out] at hl
    go_wp2_with fail
    clear hl
    refine wp_region_gob 12 [(0, true), (1, true), (2, true), (3, true), (5, true), (6, true), (7, true), (8, true), (4, false), (9, false), (10, true), (11, true)] (by kernel_rfl) (by kernel_rfl) (fun c a d v w h => by cases d <;> exact h) ?_
    repeat (refine wpGo_pure (v := ?_) rfl rfl (fun w' hS => ?_) ?_; rotate_left; (· have kFp : Bk w' (w1.heap.size) 44 #[.int .i64 c1, .int .i64 c2] := (by repeat (first | (with_reducible assumption) | ((with_reducible refine Bk.new _ _ _ ?_); first | (with_reducible rfl) | (simp; done)) | (with_reducible refine Bk.alloc ?_ _) | (with_reducible refine Bk.drew ?_) | (with_reducible refine Bk.drewN ?_ _) | ((with_reducible refine Bk.far ?_ ?_ _); rotate_left; focus (first | (simp; done) | (simp; omega))) | (with_reducible refine Bk.below ?_ (by with_reducible assumption)))); obtain ⟨kcFp, kfFp, kaFp, kgFp, klFp⟩ := kFp.rules; go_simp; exact rfl); (try simp only [Act.put, List.setIfInBounds_toArray, List.set_cons_zero, List.set_cons_succ]))
    refine wpGo_eff rfl (fun K hK => ?_)
    go_simp
    refine (value_any _ _ _ _ h0 h1 h2 h3).mono ?_
    rintro e w2 ⟨rfl, rfl⟩
    refine hK.out _ _ (by repeat (first | (with_reducible exact Below.refl _ _) | (with_reducible refine balloc ?_ _) | (with_reducible refine Below.drew ?_) | (with_reducible refine bdrewN ?_ _) | ((with_reducible refine bset ?_ ?_ _); rotate_left; focus (first | (with_reducible exact Nat.le_refl _) | (simp; done) | (simp; omega) | omega)) | (with_reducible refine bstep (by with_reducible assumption) ?_))) (fun hS2 => ?_)
    clear hK K
    refine wpGo_eff rfl (fun K hK => ?_)
    go_simp
    refine (value_any _ _ _ _ h0 h1 h2 h3).mono ?_
    rintro e w3 ⟨rfl, rfl⟩
    refine hK.out _ _ (by repeat (first | (with_reducible exact Below.refl _ _) | (with_reducible refine balloc ?_ _) | (with_reducible refine Below.drew ?_) | (with_reducible refine bdrewN ?_ _) | ((with_reducible refine bset ?_ ?_ _); rotate_left; focus (first | (with_reducible exact Nat.le_refl _) | (simp; done) | (simp; omega) | omega)) | (with_reducible refine bstep (by with_reducible assumption) ?_))) (fun hS3 => ?_)
    clear hK K
    repeat (refine wpGo_pure (v := ?_) rfl rfl (fun w' hS => ?_) ?_; rotate_left; (· skip; go_simp; exact rfl); (try simp only [Act.put, List.setIfInBounds_toArray, List.set_cons_zero, List.set_cons_succ]))
    refine wpGo_nil ?_
    simp only [List.drop_succ_cons, List.drop_zero]
    go_wp2
    go_ret2
    exact ⟨rfl, (by repeat (first | (with_reducible exact Below.refl _ _) | (with_reducible refine balloc ?_ _) | (with_reducible refine Below.drew ?_) | (with_reducible refine bdrewN ?_ _) | ((with_reducible refine bset ?_ ?_ _); rotate_left; focus (first | (with_reducible exact Nat.le_refl _) | (simp; done) | (simp; omega) | omega)) | (with_reducible refine bstep (by with_reducible assumption) ?_)))⟩

set_option maxHeartbeats 400000 in
theorem one_any (a b m n : Int) (b7 b8 : Nat) (w : World) (a0 : 0 ≤ a) (a1 : a ≤ 255) (b0 : 0 ≤ b) (b1 : b ≤ 255) (m0 : 0 ≤ m) (m1 : m ≤ 255) (n0 : 0 ≤ n) (n1 : n ≤ 255) (k7 : Bk w b7 3 #[.int .i64 m]) (k8 : Bk w b8 3 #[.int .i64 n]) :
    Calls Try.prog 27 #[.int .u8 a, .int .u8 b, .pointer (some ⟨b7, 0, none⟩), .pointer (some ⟨b8, 0, none⟩)] w fun e w' => e = .returned (.int .u8 (oneP a b m n)) ∧ Below w.heap.size w w' := by
  obtain ⟨kc7, kf7, ka7, kg7, kl7⟩ := k7.rules
  obtain ⟨kc8, kf8, ka8, kg8, kl8⟩ := k8.rules
  have e1 := mul_byte a0 a1 m0 m1
  have e2 := mul_byte b0 b1 n0 n1
  unfold oneP
  go_enter Try.func27, Try.ntmps27
  go_wp2_with fail
  refine (divnorm_any _ _ (by omega) (by omega)).mono ?_
  rintro e w1 ⟨rfl, hb1⟩
  go_wp2
  go_ret
  exact ⟨rfl, (by repeat (first | (with_reducible exact Below.refl _ _) | (with_reducible refine balloc ?_ _) | (with_reducible refine Below.drew ?_) | (with_reducible refine bdrewN ?_ _) | ((with_reducible refine bset ?_ ?_ _); rotate_left; focus (first | (with_reducible exact Nat.le_refl _) | (simp; done) | (simp; omega) | omega)) | (with_reducible refine bstep (by with_reducible assumption) ?_)))⟩


set_option maxHeartbeats 4000000 in
theorem compose_q (op : Int) (s d : Px) (w : World) (hs : s.byte) (hd : d.byte) (P : Px) (HP : Hid (composeP op s d = P)) :
    Calls Try.prog 15 #[.int .i64 op, .agg #[.int .u8 s.r, .int .u8 s.g, .int .u8 s.b, .int .u8 s.a], .agg #[.int .u8 d.r, .int .u8 d.g, .int .u8 d.b, .int .u8 d.a]] w fun e w' =>
      e = .returned (.agg #[.int .u8 P.r, .int .u8 P.g, .int .u8 P.b, .int .u8 P.a]) ∧ Below w.heap.size w w' := by
  have hE := HP.out
  unfold composeP at hE
  obtain ⟨x, Hx⟩ : ∃ x, Hid (clampP s = x) := ⟨_, rfl⟩
  obtain ⟨y, Hy⟩ : ∃ y, Hid (clampP d = y) := ⟨_, rfl⟩
  have hx := clamp_ok hs
  have hy := clamp_ok hd
  rw [Hx.out] at hx
  rw [Hy.out] at hy
  rw [Hx.out, Hy.out] at hE
  obtain ⟨m, n, Hf⟩ : ∃ m n, Hid (facP op x.a y.a = (m, n)) := ⟨_, _, rfl⟩
  have hfb := fac_bd (op := op) hx.a0 hx.a1 hy.a0 hy.a1
  rw [Hf.out] at hE hfb
  unfold mixP at hE
  subst hE
  clear HP
  obtain ⟨⟨m0, m1⟩, ⟨n0, n1⟩⟩ := hfb
  simp only at m0 m1 n0 n1
  have hxb := hx.byte
  have hyb := hy.byte
  obtain ⟨r0, r1, g0, g1, b0, b1, a0, a1⟩ := hxb
  obtain ⟨r0', r1', g0', g1', b0', b1', a0', a1'⟩ := hyb
  clear hx hy hs hd
  go_enter Try.func15, Try.ntmps15
  go_wp2_with fail
  refine wp_region_gob 3 [(0, true), (2, true), (1, false)] (by kernel_rfl) (by kernel_rfl) (fun c a d v w h => by cases d <;> exact h) ?_
  repeat (refine wpGo_pure (v := ?_) rfl rfl (fun w' hS => ?_) ?_; rotate_left; (· have kSp : Bk w' (w.heap.size) 29 #[.int .u8 s.r, .int .u8 s.g, .int .u8 s.b, .int .u8 s.a] := (by repeat (first | (with_reducible assumption) | ((with_reducible refine Bk.new _ _ _ ?_); first | (with_reducible rfl) | (simp; done)) | (with_reducible refine Bk.alloc ?_ _) | (with_reducible refine Bk.drew ?_) | (with_reducible refine Bk.drewN ?_ _) | ((with_reducible refine Bk.far ?_ ?_ _); rotate_left; focus (first | (simp; done) | (simp; omega))) | (with_reducible refine Bk.below ?_ (by with_reducible assumption)))); obtain ⟨kcSp, kfSp, kaSp, kgSp, klSp⟩ := kSp.rules; have kDp : Bk w' (w.heap.size + 1) 29 #[.int .u8 d.r, .int .u8 d.g, .int .u8 d.b, .int .u8 d.a] := (by repeat (first | (with_reducible assumption) | ((with_reducible refine Bk.new _ _ _ ?_); first | (with_reducible rfl) | (simp; done)) | (with_reducible refine Bk.alloc ?_ _) | (with_reducible refine Bk.drew ?_) | (with_reducible refine Bk.drewN ?_ _) | ((with_reducible refine Bk.far ?_ ?_ _); rotate_left; focus (first | (simp; done) | (simp; omega))) | (with_reducible refine Bk.below ?_ (by with_reducible assumption)))); obtain ⟨kcDp, kfDp, kaDp, kgDp, klDp⟩ := kDp.rules; go_simp; exact rfl); (try simp only [Act.put, List.setIfInBounds_toArray, List.set_cons_zero, List.set_cons_succ]))
  refine wpGo_eff rfl (fun K hK => ?_)
  go_simp
  refine (clamp_q s.r s.g s.b s.a x Hx _).mono ?_
  rintro e w1 ⟨rfl, hb1⟩
  refine hK.out _ _ (by repeat (first | (with_reducible exact Below.refl _ _) | (with_reducible refine balloc ?_ _) | (with_reducible refine Below.drew ?_) | (with_reducible refine bdrewN ?_ _) | ((with_reducible refine bset ?_ ?_ _); rotate_left; focus (first | (with_reducible exact Nat.le_refl _) | (simp; done) | (simp; omega) | omega)) | (with_reducible refine bstep (by with_reducible assumption) ?_))) (fun hS1 => ?_)
  clear hK K
  refine wpGo_nil ?_
  simp only [List.drop_succ_cons, List.drop_zero]
  go_wp2_with fail
  refine (clamp_q d.r d.g d.b d.a y Hy _).mono ?_
  rintro e w2 ⟨rfl, hb2⟩
  have kS2 : Bk w2 (w.heap.size) 29 #[.int .u8 s.r, .int .u8 s.g, .int .u8 s.b, .int .u8 s.a] := (by repeat (first | (with_reducible assumption) | ((with_reducible refine Bk.new _ _ _ ?_); first | (with_reducible rfl) | (simp; done)) | (with_reducible refine Bk.alloc ?_ _) | (with_reducible refine Bk.drew ?_) | (with_reducible refine Bk.drewN ?_ _) | ((with_reducible refine Bk.far ?_ ?_ _); rotate_left; focus (first | (simp; done) | (simp; omega))) | (with_reducible refine Bk.below ?_ (by with_reducible assumption)))); obtain ⟨kcS2, kfS2, kaS2, kgS2, klS2⟩ := kS2.rules; have kD2 : Bk w2 (w.heap.size + 1) 29 #[.int .u8 d.r, .int .u8 d.g, .int .u8 d.b, .int .u8 d.a] := (by repeat (first | (with_reducible assumption) | ((with_reducible refine Bk.new _ _ _ ?_); first | (with_reducible rfl) | (simp; done)) | (with_reducible refine Bk.alloc ?_ _) | (with_reducible refine Bk.drew ?_) | (with_reducible refine Bk.drewN ?_ _) | ((with_reducible refine Bk.far ?_ ?_ _); rotate_left; focus (first | (simp; done) | (simp; omega))) | (with_reducible refine Bk.below ?_ (by with_reducible assumption)))); obtain ⟨kcD2, kfD2, kaD2, kgD2, klD2⟩ := kD2.rules; have kO2 : Bk w2 (w.heap.size + 1 + 1) 29 #[.int .u8 0, .int .u8 0, .int .u8 0, .int .u8 0] := (by repeat (first | (with_reducible assumption) | ((with_reducible refine Bk.new _ _ _ ?_); first | (with_reducible rfl) | (simp; done)) | (with_reducible refine Bk.alloc ?_ _) | (with_reducible refine Bk.drew ?_) | (with_reducible refine Bk.drewN ?_ _) | ((with_reducible refine Bk.far ?_ ?_ _); rotate_left; focus (first | (simp; done) | (simp; omega))) | (with_reducible refine Bk.below ?_ (by with_reducible assumption)))); obtain ⟨kcO2, kfO2, kaO2, kgO2, klO2⟩ := kO2.rules
  have jX : Bk _ (w.heap.size) 29 #[.int .u8 x.r, .int .u8 x.g, .int .u8 x.b, .int .u8 x.a] := ((((((((kS2.set 0 (.int .u8 x.r)).set 1 (.int .u8 x.g)).set 2 (.int .u8 x.b)).set 3 (.int .u8 x.a)).far (p := ⟨w.heap.size + 1, 0, none⟩) (by simp) (.int .u8 y.r)).far (p := ⟨w.heap.size + 1, 1, none⟩) (by simp) (.int .u8 y.g)).far (p := ⟨w.heap.size + 1, 2, none⟩) (by simp) (.int .u8 y.b)).far (p := ⟨w.heap.size + 1, 3, none⟩) (by simp) (.int .u8 y.a))
  have jY : Bk _ (w.heap.size + 1) 29 #[.int .u8 y.r, .int .u8 y.g, .int .u8 y.b, .int .u8 y.a] := ((((((((kD2.far (p := ⟨w.heap.size, 0, none⟩) (by simp) (.int .u8 x.r)).far (p := ⟨w.heap.size, 1, none⟩) (by simp) (.int .u8 x.g)).far (p := ⟨w.heap.size, 2, none⟩) (by simp) (.int .u8 x.b)).far (p := ⟨w.heap.size, 3, none⟩) (by simp) (.int .u8 x.a)).set 0 (.int .u8 y.r)).set 1 (.int .u8 y.g)).set 2 (.int .u8 y.b)).set 3 (.int .u8 y.a))
  have jO : Bk _ (w.heap.size + 1 + 1) 29 #[.int .u8 0, .int .u8 0, .int .u8 0, .int .u8 0] := ((((((((kO2.far (p := ⟨w.heap.size, 0, none⟩) (by simp <;> omega) (.int .u8 x.r)).far (p := ⟨w.heap.size, 1, none⟩) (by simp <;> omega) (.int .u8 x.g)).far (p := ⟨w.heap.size, 2, none⟩) (by simp <;> omega) (.int .u8 x.b)).far (p := ⟨w.heap.size, 3, none⟩) (by simp <;> omega) (.int .u8 x.a)).far (p := ⟨w.heap.size + 1, 0, none⟩) (by simp <;> omega) (.int .u8 y.r)).far (p := ⟨w.heap.size + 1, 1, none⟩) (by simp <;> omega) (.int .u8 y.g)).far (p := ⟨w.heap.size + 1, 2, none⟩) (by simp <;> omega) (.int .u8 y.b)).far (p := ⟨w.heap.size + 1, 3, none⟩) (by simp <;> omega) (.int .u8 y.a))
  have hW0 : Below w.heap.size w w2 := (by repeat (first | (with_reducible exact Below.refl _ _) | (with_reducible refine balloc ?_ _) | (with_reducible refine Below.drew ?_) | (with_reducible refine bdrewN ?_ _) | ((with_reducible refine bset ?_ ?_ _); rotate_left; focus (first | (with_reducible exact Nat.le_refl _) | (simp; done) | (simp; omega) | omega)) | (with_reducible refine bstep (by with_reducible assumption) ?_)))
  have hV : Below w.heap.size w ((((((((w2.setCell ⟨w.heap.size, 0, none⟩ (.int .u8 x.r)).setCell ⟨w.heap.size, 1, none⟩ (.int .u8 x.g)).setCell ⟨w.heap.size, 2, none⟩ (.int .u8 x.b)).setCell ⟨w.heap.size, 3, none⟩ (.int .u8 x.a)).setCell ⟨w.heap.size + 1, 0, none⟩ (.int .u8 y.r)).setCell ⟨w.heap.size + 1, 1, none⟩ (.int .u8 y.g)).setCell ⟨w.heap.size + 1, 2, none⟩ (.int .u8 y.b)).setCell ⟨w.heap.size + 1, 3, none⟩ (.int .u8 y.a)) := (by repeat (first | (with_reducible exact Below.refl _ _) | (with_reducible refine balloc ?_ _) | (with_reducible refine Below.drew ?_) | (with_reducible refine bdrewN ?_ _) | ((with_reducible refine bset ?_ ?_ _); rotate_left; focus (first | (with_reducible exact Nat.le_refl _) | (simp; done) | (simp; omega) | omega)) | (with_reducible refine bstep (by with_reducible assumption) ?_)))
  obtain ⟨kx, kxf, kxa, kxg, kxl⟩ := jX.rules
  obtain ⟨ky, kyf, kya, kyg, kyl⟩ := jY.rules
  go_wp2_with fail
  generalize ((((((((w2.setCell ⟨w.heap.size, 0, none⟩ (.int .u8 x.r)).setCell ⟨w.heap.size, 1, none⟩ (.int .u8 x.g)).setCell ⟨w.heap.size, 2, none⟩ (.int .u8 x.b)).setCell ⟨w.heap.size, 3, none⟩ (.int .u8 x.a)).setCell ⟨w.heap.size + 1, 0, none⟩ (.int .u8 y.r)).setCell ⟨w.heap.size + 1, 1, none⟩ (.int .u8 y.g)).setCell ⟨w.heap.size + 1, 2, none⟩ (.int .u8 y.b)).setCell ⟨w.heap.size + 1, 3, none⟩ (.int .u8 y.a)) = w3 at hV jX jY jO ⊢
  clear kS2 kD2 kO2 kcS2 kfS2 kaS2 kgS2 kcD2 kfD2 kaD2 kgD2 kcO2 kfO2 kaO2 kgO2 klS2 klD2 klO2 hb2 hb1 hS1 hW0 kx kxf kxa kxg kxl ky kyf kya kyg kyl
  refine (factors_q op x.a y.a m n Hf _ a0 a1 a0' a1').mono ?_
  rintro e w4 ⟨rfl, hb4⟩
  have jX4 := jX.below hb4
  have jY4 := jY.below hb4
  have jO4 := jO.below hb4
  have hV4 : Below w.heap.size w w4 := bstep hb4 hV
  clear jX jY jO hV hb4
  go_wp2_with fail
  refine wp_region_gob 25 [(0, true), (1, true), (2, true), (3, true), (4, true), (6, true), (7, true), (8, true), (9, true), (10, true), (12, true), (13, true), (14, true), (15, true), (16, true), (18, true), (19, true), (20, true), (21, true), (22, true), (5, false), (11, false), (17, false), (23, false), (24, true)] (by kernel_rfl) (by kernel_rfl) (fun c a d v w h => by cases d <;> exact h) ?_
  repeat (refine wpGo_pure (v := ?_) rfl rfl (fun w' hS => ?_) ?_; rotate_left; (· have kXp : Bk w' (w.heap.size) 29 #[.int .u8 x.r, .int .u8 x.g, .int .u8 x.b, .int .u8 x.a] := (by repeat (first | (with_reducible assumption) | ((with_reducible refine Bk.new _ _ _ ?_); first | (with_reducible rfl) | (simp; done)) | (with_reducible refine Bk.alloc ?_ _) | (with_reducible refine Bk.drew ?_) | (with_reducible refine Bk.drewN ?_ _) | ((with_reducible refine Bk.far ?_ ?_ _); rotate_left; focus (first | (simp; done) | (simp; omega))) | (with_reducible refine Bk.below ?_ (by with_reducible assumption)))); obtain ⟨kcXp, kfXp, kaXp, kgXp, klXp⟩ := kXp.rules; have kYp : Bk w' (w.heap.size + 1) 29 #[.int .u8 y.r, .int .u8 y.g, .int .u8 y.b, .int .u8 y.a] := (by repeat (first | (with_reducible assumption) | ((with_reducible refine Bk.new _ _ _ ?_); first | (with_reducible rfl) | (simp; done)) | (with_reducible refine Bk.alloc ?_ _) | (with_reducible refine Bk.drew ?_) | (with_reducible refine Bk.drewN ?_ _) | ((with_reducible refine Bk.far ?_ ?_ _); rotate_left; focus (first | (simp; done) | (simp; omega))) | (with_reducible refine Bk.below ?_ (by with_reducible assumption)))); obtain ⟨kcYp, kfYp, kaYp, kgYp, klYp⟩ := kYp.rules; go_simp; exact rfl); (try simp only [Act.put, List.setIfInBounds_toArray, List.set_cons_zero, List.set_cons_succ]))
  refine wpGo_eff rfl (fun K hK => ?_)
  go_simp
  refine (one_any _ _ m n w4.heap.size (w4.heap.size + 1) _ r0 r1 r0' r1' m0 m1 n0 n1 (by repeat (first | (with_reducible assumption) | ((with_reducible refine Bk.new _ _ _ ?_); first | (with_reducible rfl) | (simp; done)) | (with_reducible refine Bk.alloc ?_ _) | (with_reducible refine Bk.drew ?_) | (with_reducible refine Bk.drewN ?_ _) | ((with_reducible refine Bk.far ?_ ?_ _); rotate_left; focus (first | (simp; done) | (simp; omega))) | (with_reducible refine Bk.below ?_ (by with_reducible assumption)))) (by repeat (first | (with_reducible assumption) | ((with_reducible refine Bk.new _ _ _ ?_); first | (with_reducible rfl) | (simp; done)) | (with_reducible refine Bk.alloc ?_ _) | (with_reducible refine Bk.drew ?_) | (with_reducible refine Bk.drewN ?_ _) | ((with_reducible refine Bk.far ?_ ?_ _); rotate_left; focus (first | (simp; done) | (simp; omega))) | (with_reducible refine Bk.below ?_ (by with_reducible assumption))))).mono ?_
  rintro e w5 ⟨rfl, hb5⟩
  refine hK.out _ _ (by repeat (first | (with_reducible exact Below.refl _ _) | (with_reducible refine balloc ?_ _) | (with_reducible refine Below.drew ?_) | (with_reducible refine bdrewN ?_ _) | ((with_reducible refine bset ?_ ?_ _); rotate_left; focus (first | (with_reducible exact Nat.le_refl _) | (simp; done) | (simp; omega) | omega)) | (with_reducible refine bstep (by with_reducible assumption) ?_))) (fun hS5 => ?_)
  clear hK K
  refine wpGo_eff rfl (fun K hK => ?_)
  go_simp
  refine (one_any _ _ m n w4.heap.size (w4.heap.size + 1) _ g0 g1 g0' g1' m0 m1 n0 n1 (by repeat (first | (with_reducible assumption) | ((with_reducible refine Bk.new _ _ _ ?_); first | (with_reducible rfl) | (simp; done)) | (with_reducible refine Bk.alloc ?_ _) | (with_reducible refine Bk.drew ?_) | (with_reducible refine Bk.drewN ?_ _) | ((with_reducible refine Bk.far ?_ ?_ _); rotate_left; focus (first | (simp; done) | (simp; omega))) | (with_reducible refine Bk.below ?_ (by with_reducible assumption)))) (by repeat (first | (with_reducible assumption) | ((with_reducible refine Bk.new _ _ _ ?_); first | (with_reducible rfl) | (simp; done)) | (with_reducible refine Bk.alloc ?_ _) | (with_reducible refine Bk.drew ?_) | (with_reducible refine Bk.drewN ?_ _) | ((with_reducible refine Bk.far ?_ ?_ _); rotate_left; focus (first | (simp; done) | (simp; omega))) | (with_reducible refine Bk.below ?_ (by with_reducible assumption))))).mono ?_
  rintro e w6 ⟨rfl, hb6⟩
  refine hK.out _ _ (by repeat (first | (with_reducible exact Below.refl _ _) | (with_reducible refine balloc ?_ _) | (with_reducible refine Below.drew ?_) | (with_reducible refine bdrewN ?_ _) | ((with_reducible refine bset ?_ ?_ _); rotate_left; focus (first | (with_reducible exact Nat.le_refl _) | (simp; done) | (simp; omega) | omega)) | (with_reducible refine bstep (by with_reducible assumption) ?_))) (fun hS6 => ?_)
  clear hK K
  refine wpGo_eff rfl (fun K hK => ?_)
  go_simp
  refine (one_any _ _ m n w4.heap.size (w4.heap.size + 1) _ b0 b1 b0' b1' m0 m1 n0 n1 (by repeat (first | (with_reducible assumption) | ((with_reducible refine Bk.new _ _ _ ?_); first | (with_reducible rfl) | (simp; done)) | (with_reducible refine Bk.alloc ?_ _) | (with_reducible refine Bk.drew ?_) | (with_reducible refine Bk.drewN ?_ _) | ((with_reducible refine Bk.far ?_ ?_ _); rotate_left; focus (first | (simp; done) | (simp; omega))) | (with_reducible refine Bk.below ?_ (by with_reducible assumption)))) (by repeat (first | (with_reducible assumption) | ((with_reducible refine Bk.new _ _ _ ?_); first | (with_reducible rfl) | (simp; done)) | (with_reducible refine Bk.alloc ?_ _) | (with_reducible refine Bk.drew ?_) | (with_reducible refine Bk.drewN ?_ _) | ((with_reducible refine Bk.far ?_ ?_ _); rotate_left; focus (first | (simp; done) | (simp; omega))) | (with_reducible refine Bk.below ?_ (by with_reducible assumption))))).mono ?_
  rintro e w7 ⟨rfl, hb7⟩
  refine hK.out _ _ (by repeat (first | (with_reducible exact Below.refl _ _) | (with_reducible refine balloc ?_ _) | (with_reducible refine Below.drew ?_) | (with_reducible refine bdrewN ?_ _) | ((with_reducible refine bset ?_ ?_ _); rotate_left; focus (first | (with_reducible exact Nat.le_refl _) | (simp; done) | (simp; omega) | omega)) | (with_reducible refine bstep (by with_reducible assumption) ?_))) (fun hS7 => ?_)
  clear hK K
  refine wpGo_eff rfl (fun K hK => ?_)
  go_simp
  refine (one_any _ _ m n w4.heap.size (w4.heap.size + 1) _ a0 a1 a0' a1' m0 m1 n0 n1 (by repeat (first | (with_reducible assumption) | ((with_reducible refine Bk.new _ _ _ ?_); first | (with_reducible rfl) | (simp; done)) | (with_reducible refine Bk.alloc ?_ _) | (with_reducible refine Bk.drew ?_) | (with_reducible refine Bk.drewN ?_ _) | ((with_reducible refine Bk.far ?_ ?_ _); rotate_left; focus (first | (simp; done) | (simp; omega))) | (with_reducible refine Bk.below ?_ (by with_reducible assumption)))) (by repeat (first | (with_reducible assumption) | ((with_reducible refine Bk.new _ _ _ ?_); first | (with_reducible rfl) | (simp; done)) | (with_reducible refine Bk.alloc ?_ _) | (with_reducible refine Bk.drew ?_) | (with_reducible refine Bk.drewN ?_ _) | ((with_reducible refine Bk.far ?_ ?_ _); rotate_left; focus (first | (simp; done) | (simp; omega))) | (with_reducible refine Bk.below ?_ (by with_reducible assumption))))).mono ?_
  rintro e w8 ⟨rfl, hb8⟩
  refine hK.out _ _ (by repeat (first | (with_reducible exact Below.refl _ _) | (with_reducible refine balloc ?_ _) | (with_reducible refine Below.drew ?_) | (with_reducible refine bdrewN ?_ _) | ((with_reducible refine bset ?_ ?_ _); rotate_left; focus (first | (with_reducible exact Nat.le_refl _) | (simp; done) | (simp; omega) | omega)) | (with_reducible refine bstep (by with_reducible assumption) ?_))) (fun hS8 => ?_)
  clear hK K
  repeat (refine wpGo_pure (v := ?_) rfl rfl (fun w' hS => ?_) ?_; rotate_left; (· skip; go_simp; exact rfl); (try simp only [Act.put, List.setIfInBounds_toArray, List.set_cons_zero, List.set_cons_succ]))
  refine wpGo_nil ?_
  simp only [List.drop_succ_cons, List.drop_zero]
  have kO8 : Bk w8 (w.heap.size + 1 + 1) 29 #[.int .u8 0, .int .u8 0, .int .u8 0, .int .u8 0] := (by repeat (first | (with_reducible assumption) | ((with_reducible refine Bk.new _ _ _ ?_); first | (with_reducible rfl) | (simp; done)) | (with_reducible refine Bk.alloc ?_ _) | (with_reducible refine Bk.drew ?_) | (with_reducible refine Bk.drewN ?_ _) | ((with_reducible refine Bk.far ?_ ?_ _); rotate_left; focus (first | (simp; done) | (simp; omega))) | (with_reducible refine Bk.below ?_ (by with_reducible assumption)))); obtain ⟨kcO8, kfO8, kaO8, kgO8, klO8⟩ := kO8.rules
  have hZ : Below w.heap.size w w8 := (by repeat (first | (with_reducible exact Below.refl _ _) | (with_reducible refine balloc ?_ _) | (with_reducible refine Below.drew ?_) | (with_reducible refine bdrewN ?_ _) | ((with_reducible refine bset ?_ ?_ _); rotate_left; focus (first | (with_reducible exact Nat.le_refl _) | (simp; done) | (simp; omega) | omega)) | (with_reducible refine bstep (by with_reducible assumption) ?_)))
  go_wp2
  refine bodyPost_ret (v := _) ?_ rfl ⟨rfl, (by repeat (first | (with_reducible exact Below.refl _ _) | (with_reducible refine balloc ?_ _) | (with_reducible refine Below.drew ?_) | (with_reducible refine bdrewN ?_ _) | ((with_reducible refine bset ?_ ?_ _); rotate_left; focus (first | (with_reducible exact Nat.le_refl _) | (simp; done) | (simp; omega) | omega)) | (with_reducible refine bstep (by with_reducible assumption) ?_)))⟩
  simp [results, Try.results15, go_sem, kcO8]
end Go.Proofs.Ytlholebpfgjpdaa
