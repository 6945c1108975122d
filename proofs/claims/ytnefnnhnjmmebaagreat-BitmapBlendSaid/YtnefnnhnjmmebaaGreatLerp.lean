/-
  The walks of color.Lerp and grisailleref27.Lerp.
-/
import Derived.Test.YtnefnnhnjmmebaaGreatPlA
import Derived.Test.YtnefnnhnjmmebaaGreatIntm
import Derived.Test.YtnefnnhnjmmebaaGreatPxEq
namespace Go.Proofs.YtnefnnhnjmmebaaGreat
open Go.RowKit
set_option linter.unusedSimpArgs false
set_option linter.unusedVariables false

/-- Between two pixels. -/
def lerpP (a b : Px) (k : Int) : Px := mixP a b (255 - k, k)
theorem lerp_bd {n m k : Int} (a0 : 0 ≤ n) (a1 : n ≤ 255) (b0 : 0 ≤ m) (b1 : m ≤ 255) (k0 : 0 ≤ k) (k1 : k ≤ 255) : (0 ≤ n * (255 - k) ∧ n * (255 - k) ≤ 65025) ∧ (0 ≤ m * k ∧ m * k ≤ 65025) ∧ 0 ≤ n * (255 - k) + m * k ∧ n * (255 - k) + m * k ≤ 65025 := by
  have h1 := mul_byte a0 a1 (show 0 ≤ 255 - k by omega) (by omega)
  have h2 := mul_byte b0 b1 k0 k1
  omega
theorem lerp_byte (a b : Px) (k : Int) : (lerpP a b k).byte := ⟨(dn8_bd _).1, (dn8_bd _).2, (dn8_bd _).1, (dn8_bd _).2, (dn8_bd _).1, (dn8_bd _).2, (dn8_bd _).1, (dn8_bd _).2⟩
theorem lerp_le {a b c d k : Int} (h0 : a ≤ c) (h1 : b ≤ d) (k0 : 0 ≤ k) (k1 : k ≤ 255) : oneP a b (255 - k) k ≤ oneP c d (255 - k) k := one_le h0 h1 (by omega) k0
theorem lerp_pv {a b : Px} (ha : pvB a = true) (hb : pvB b = true) {k : Int} (k0 : 0 ≤ k) (k1 : k ≤ 255) : pvB (lerpP a b k) = true := by
  unfold pvB at *
  have h1 := of_decide_eq_true ha
  have h2 := of_decide_eq_true hb
  exact decide_eq_true ⟨lerp_le h1.1 h2.1 k0 k1, lerp_le h1.2.1 h2.2.1 k0 k1, lerp_le h1.2.2 h2.2.2 k0 k1⟩
set_option maxHeartbeats 400000 in
theorem lerp1_any (n m k : Int) (bb : Nat) (w : World) (a0 : 0 ≤ n) (a1 : n ≤ 255) (b0 : 0 ≤ m) (b1 : m ≤ 255) (k0 : 0 ≤ k) (k1 : k ≤ 255) (hC : Bk w bb 5 #[.int .u8 k]) :
    Calls Tryz.prog 52 #[.int .u8 n, .int .u8 m, .pointer (some ⟨bb, 0, none⟩)] w fun e w' => e = .returned (.int .u8 (oneP n m (255 - k) k)) ∧ Below w.heap.size w w' := by
  obtain ⟨⟨e0, e1⟩, ⟨e2, e3⟩, e4, e5⟩ := lerp_bd a0 a1 b0 b1 k0 k1
  obtain ⟨kc, kf, ka, kg, kl⟩ := hC.rules
  have HD := Lib.hid (fun w => divnorm_any (n * (255 - k) + m * k) w e4 (by omega))
  unfold oneP
  go_enter Tryz.func52, Tryz.ntmps52
  go_wp2_with fail
  refine (HD.out _).mono ?_
  rintro e w1 ⟨rfl, hb1⟩
  go_wp2
  go_ret
  exact ⟨rfl, (by repeat (first | (with_reducible exact Below.refl _ _) | (with_reducible refine balloc ?_ _) | (with_reducible refine Below.drew ?_) | (with_reducible refine bdrewN ?_ _) | ((with_reducible refine bset ?_ ?_ _); rotate_left; focus (first | (with_reducible exact Nat.le_refl _) | (simp; done) | (simp; omega) | omega)) | (with_reducible refine bstep (by with_reducible assumption) ?_)))⟩
set_option maxHeartbeats 400000 in
theorem rlerp1_any (n m k : Int) (w : World) (a0 : 0 ≤ n) (a1 : n ≤ 255) (b0 : 0 ≤ m) (b1 : m ≤ 255) (k0 : 0 ≤ k) (k1 : k ≤ 255) :
    Calls Tryz.prog 54 #[.int .u8 n, .int .u8 m, .int .u8 k] w fun e w' => e = .returned (.int .u8 (oneP n m (255 - k) k)) ∧ Below w.heap.size w w' := by
  obtain ⟨⟨e0, e1⟩, ⟨e2, e3⟩, e4, e5⟩ := lerp_bd a0 a1 b0 b1 k0 k1
  have HD := Lib.hid (fun w => rdivnorm_any (n * (255 - k) + m * k) w (by omega) (by omega))
  unfold oneP
  go_enter Tryz.func54, Tryz.ntmps54
  go_wp2_with fail
  refine (HD.out _).mono ?_
  rintro e w1 ⟨rfl, rfl⟩
  go_wp2
  go_ret
  exact ⟨rfl, (by repeat (first | (with_reducible exact Below.refl _ _) | (with_reducible refine balloc ?_ _) | (with_reducible refine Below.drew ?_) | (with_reducible refine bdrewN ?_ _) | ((with_reducible refine bset ?_ ?_ _); rotate_left; focus (first | (with_reducible exact Nat.le_refl _) | (simp; done) | (simp; omega) | omega)) | (with_reducible refine bstep (by with_reducible assumption) ?_)))⟩

set_option maxHeartbeats 1600000 in
theorem both_lerp (a b : Px) (k : Int) (bb : Nat) (w : World) (ha : a.byte) (hb : b.byte) (k0 : 0 ≤ k) (k1 : k ≤ 255) (hC : Bk w bb 5 #[.int .u8 k]) :
    Calls Tryz.prog 51 #[.agg #[.int .u8 a.r, .int .u8 a.g, .int .u8 a.b, .int .u8 a.a], .agg #[.int .u8 b.r, .int .u8 b.g, .int .u8 b.b, .int .u8 b.a], .func (.func 52) #[] #[.pointer (some ⟨bb, 0, none⟩)]] w fun e w' =>
      e = .returned (.agg #[.int .u8 (oneP a.r b.r (255 - k) k), .int .u8 (oneP a.g b.g (255 - k) k), .int .u8 (oneP a.b b.b (255 - k) k), .int .u8 (oneP a.a b.a (255 - k) k)]) ∧ Below w.heap.size w w' := by
  go_enter Tryz.func51, Tryz.ntmps51
  go_wp2_with fail
  refine wp_region_gob 25 [(0, true), (1, true), (2, true), (3, true), (4, true), (6, true), (7, true), (8, true), (9, true), (10, true), (12, true), (13, true), (14, true), (15, true), (16, true), (18, true), (19, true), (20, true), (21, true), (22, true), (5, false), (11, false), (17, false), (23, false), (24, true)] (by kernel_rfl) (by kernel_rfl) (fun c a d v w h => by cases d <;> exact h) ?_
  repeat (first | (refine wpGo_pure (v := ?_) rfl rfl (fun w' hS => ?_) ?_; rotate_left; (· have kXp : Bk w' (w.heap.size) 45 #[.int .u8 a.r, .int .u8 a.g, .int .u8 a.b, .int .u8 a.a] := (by repeat (first | (with_reducible assumption) | ((with_reducible refine Bk.new _ _ _ ?_); first | (with_reducible rfl) | (simp; done)) | (with_reducible refine Bk.alloc ?_ _) | (with_reducible refine Bk.drew ?_) | (with_reducible refine Bk.drewN ?_ _) | ((with_reducible refine Bk.far ?_ ?_ _); rotate_left; focus (first | (simp; done) | (simp; omega))) | (with_reducible refine Bk.below ?_ (by with_reducible assumption)))); obtain ⟨kcXp, kfXp, kaXp, kgXp, klXp⟩ := kXp.rules; have kYp : Bk w' (w.heap.size + 1) 45 #[.int .u8 b.r, .int .u8 b.g, .int .u8 b.b, .int .u8 b.a] := (by repeat (first | (with_reducible assumption) | ((with_reducible refine Bk.new _ _ _ ?_); first | (with_reducible rfl) | (simp; done)) | (with_reducible refine Bk.alloc ?_ _) | (with_reducible refine Bk.drew ?_) | (with_reducible refine Bk.drewN ?_ _) | ((with_reducible refine Bk.far ?_ ?_ _); rotate_left; focus (first | (simp; done) | (simp; omega))) | (with_reducible refine Bk.below ?_ (by with_reducible assumption)))); obtain ⟨kcYp, kfYp, kaYp, kgYp, klYp⟩ := kYp.rules; go_simp; exact rfl); (try simp only [Act.put, List.setIfInBounds_toArray, List.set_cons_zero, List.set_cons_succ])) | ((refine wpGo_skip rfl rfl ?_); (try simp only [Act.put, List.setIfInBounds_toArray, List.set_cons_zero, List.set_cons_succ])))
  refine wpGo_eff rfl (fun K hK => ?_)
  go_simp
  refine (lerp1_any _ _ k bb _ ha.r0 ha.r1 hb.r0 hb.r1 k0 k1 (by repeat (first | (with_reducible assumption) | ((with_reducible refine Bk.new _ _ _ ?_); first | (with_reducible rfl) | (simp; done)) | (with_reducible refine Bk.alloc ?_ _) | (with_reducible refine Bk.drew ?_) | (with_reducible refine Bk.drewN ?_ _) | ((with_reducible refine Bk.far ?_ ?_ _); rotate_left; focus (first | (simp; done) | (simp; omega))) | (with_reducible refine Bk.below ?_ (by with_reducible assumption))))).mono ?_
  rintro e w1 ⟨rfl, hb1⟩
  refine hK.out _ _ (by repeat (first | (with_reducible exact Below.refl _ _) | (with_reducible refine balloc ?_ _) | (with_reducible refine Below.drew ?_) | (with_reducible refine bdrewN ?_ _) | ((with_reducible refine bset ?_ ?_ _); rotate_left; focus (first | (with_reducible exact Nat.le_refl _) | (simp; done) | (simp; omega) | omega)) | (with_reducible refine bstep (by with_reducible assumption) ?_))) (fun hS1 => ?_)
  clear hK K
  refine wpGo_eff rfl (fun K hK => ?_)
  go_simp
  refine (lerp1_any _ _ k bb _ ha.g0 ha.g1 hb.g0 hb.g1 k0 k1 (by repeat (first | (with_reducible assumption) | ((with_reducible refine Bk.new _ _ _ ?_); first | (with_reducible rfl) | (simp; done)) | (with_reducible refine Bk.alloc ?_ _) | (with_reducible refine Bk.drew ?_) | (with_reducible refine Bk.drewN ?_ _) | ((with_reducible refine Bk.far ?_ ?_ _); rotate_left; focus (first | (simp; done) | (simp; omega))) | (with_reducible refine Bk.below ?_ (by with_reducible assumption))))).mono ?_
  rintro e w2 ⟨rfl, hb2⟩
  refine hK.out _ _ (by repeat (first | (with_reducible exact Below.refl _ _) | (with_reducible refine balloc ?_ _) | (with_reducible refine Below.drew ?_) | (with_reducible refine bdrewN ?_ _) | ((with_reducible refine bset ?_ ?_ _); rotate_left; focus (first | (with_reducible exact Nat.le_refl _) | (simp; done) | (simp; omega) | omega)) | (with_reducible refine bstep (by with_reducible assumption) ?_))) (fun hS2 => ?_)
  clear hK K
  refine wpGo_eff rfl (fun K hK => ?_)
  go_simp
  refine (lerp1_any _ _ k bb _ ha.b0 ha.b1 hb.b0 hb.b1 k0 k1 (by repeat (first | (with_reducible assumption) | ((with_reducible refine Bk.new _ _ _ ?_); first | (with_reducible rfl) | (simp; done)) | (with_reducible refine Bk.alloc ?_ _) | (with_reducible refine Bk.drew ?_) | (with_reducible refine Bk.drewN ?_ _) | ((with_reducible refine Bk.far ?_ ?_ _); rotate_left; focus (first | (simp; done) | (simp; omega))) | (with_reducible refine Bk.below ?_ (by with_reducible assumption))))).mono ?_
  rintro e w3 ⟨rfl, hb3⟩
  refine hK.out _ _ (by repeat (first | (with_reducible exact Below.refl _ _) | (with_reducible refine balloc ?_ _) | (with_reducible refine Below.drew ?_) | (with_reducible refine bdrewN ?_ _) | ((with_reducible refine bset ?_ ?_ _); rotate_left; focus (first | (with_reducible exact Nat.le_refl _) | (simp; done) | (simp; omega) | omega)) | (with_reducible refine bstep (by with_reducible assumption) ?_))) (fun hS3 => ?_)
  clear hK K
  refine wpGo_eff rfl (fun K hK => ?_)
  go_simp
  refine (lerp1_any _ _ k bb _ ha.a0 ha.a1 hb.a0 hb.a1 k0 k1 (by repeat (first | (with_reducible assumption) | ((with_reducible refine Bk.new _ _ _ ?_); first | (with_reducible rfl) | (simp; done)) | (with_reducible refine Bk.alloc ?_ _) | (with_reducible refine Bk.drew ?_) | (with_reducible refine Bk.drewN ?_ _) | ((with_reducible refine Bk.far ?_ ?_ _); rotate_left; focus (first | (simp; done) | (simp; omega))) | (with_reducible refine Bk.below ?_ (by with_reducible assumption))))).mono ?_
  rintro e w4 ⟨rfl, hb4⟩
  refine hK.out _ _ (by repeat (first | (with_reducible exact Below.refl _ _) | (with_reducible refine balloc ?_ _) | (with_reducible refine Below.drew ?_) | (with_reducible refine bdrewN ?_ _) | ((with_reducible refine bset ?_ ?_ _); rotate_left; focus (first | (with_reducible exact Nat.le_refl _) | (simp; done) | (simp; omega) | omega)) | (with_reducible refine bstep (by with_reducible assumption) ?_))) (fun hS4 => ?_)
  clear hK K
  repeat (first | (refine wpGo_pure (v := ?_) rfl rfl (fun w' hS => ?_) ?_; rotate_left; (· have kXp : Bk w' (w.heap.size) 45 #[.int .u8 a.r, .int .u8 a.g, .int .u8 a.b, .int .u8 a.a] := (by repeat (first | (with_reducible assumption) | ((with_reducible refine Bk.new _ _ _ ?_); first | (with_reducible rfl) | (simp; done)) | (with_reducible refine Bk.alloc ?_ _) | (with_reducible refine Bk.drew ?_) | (with_reducible refine Bk.drewN ?_ _) | ((with_reducible refine Bk.far ?_ ?_ _); rotate_left; focus (first | (simp; done) | (simp; omega))) | (with_reducible refine Bk.below ?_ (by with_reducible assumption)))); obtain ⟨kcXp, kfXp, kaXp, kgXp, klXp⟩ := kXp.rules; have kYp : Bk w' (w.heap.size + 1) 45 #[.int .u8 b.r, .int .u8 b.g, .int .u8 b.b, .int .u8 b.a] := (by repeat (first | (with_reducible assumption) | ((with_reducible refine Bk.new _ _ _ ?_); first | (with_reducible rfl) | (simp; done)) | (with_reducible refine Bk.alloc ?_ _) | (with_reducible refine Bk.drew ?_) | (with_reducible refine Bk.drewN ?_ _) | ((with_reducible refine Bk.far ?_ ?_ _); rotate_left; focus (first | (simp; done) | (simp; omega))) | (with_reducible refine Bk.below ?_ (by with_reducible assumption)))); obtain ⟨kcYp, kfYp, kaYp, kgYp, klYp⟩ := kYp.rules; go_simp; exact rfl); (try simp only [Act.put, List.setIfInBounds_toArray, List.set_cons_zero, List.set_cons_succ])) | ((refine wpGo_skip rfl rfl ?_); (try simp only [Act.put, List.setIfInBounds_toArray, List.set_cons_zero, List.set_cons_succ])))
  refine wpGo_nil ?_
  simp only [List.drop_succ_cons, List.drop_zero]
  have kO4 : Bk w4 (w.heap.size + 1 + 1) 45 #[.int .u8 0, .int .u8 0, .int .u8 0, .int .u8 0] := (by repeat (first | (with_reducible assumption) | ((with_reducible refine Bk.new _ _ _ ?_); first | (with_reducible rfl) | (simp; done)) | (with_reducible refine Bk.alloc ?_ _) | (with_reducible refine Bk.drew ?_) | (with_reducible refine Bk.drewN ?_ _) | ((with_reducible refine Bk.far ?_ ?_ _); rotate_left; focus (first | (simp; done) | (simp; omega))) | (with_reducible refine Bk.below ?_ (by with_reducible assumption)))); obtain ⟨kcO4, kfO4, kaO4, kgO4, klO4⟩ := kO4.rules
  go_wp2
  refine bodyPost_ret (v := _) ?_ rfl ⟨rfl, (by repeat (first | (with_reducible exact Below.refl _ _) | (with_reducible refine balloc ?_ _) | (with_reducible refine Below.drew ?_) | (with_reducible refine bdrewN ?_ _) | ((with_reducible refine bset ?_ ?_ _); rotate_left; focus (first | (with_reducible exact Nat.le_refl _) | (simp; done) | (simp; omega) | omega)) | (with_reducible refine bstep (by with_reducible assumption) ?_)))⟩
  simp [results, Tryz.results51, go_sem, kcO4]

set_option maxHeartbeats 1600000 in
theorem lerp_q (a b : Px) (k : Int) (q : Px) (hq : Hid (lerpP a b k = q)) (w : World) (ha : a.byte) (hb : b.byte) (k0 : 0 ≤ k) (k1 : k ≤ 255) :
    Calls Tryz.prog 31 #[.agg #[.int .u8 a.r, .int .u8 a.g, .int .u8 a.b, .int .u8 a.a], .agg #[.int .u8 b.r, .int .u8 b.g, .int .u8 b.b, .int .u8 b.a], .int .u8 k] w fun e w' => e = .returned (.agg #[.int .u8 q.r, .int .u8 q.g, .int .u8 q.b, .int .u8 q.a]) ∧ Below w.heap.size w w' := by
  have h := hq.out; subst h
  unfold lerpP mixP
  go_enter Tryz.func31, Tryz.ntmps31
  go_wp2_with fail
  refine (both_lerp a b k (w.heap.size + 1 + 1) _ ha hb k0 k1 (by repeat (first | (with_reducible assumption) | ((with_reducible refine Bk.new _ _ _ ?_); first | (with_reducible rfl) | (simp; done)) | (with_reducible refine Bk.alloc ?_ _) | (with_reducible refine Bk.drew ?_) | (with_reducible refine Bk.drewN ?_ _) | ((with_reducible refine Bk.far ?_ ?_ _); rotate_left; focus (first | (simp; done) | (simp; omega))) | (with_reducible refine Bk.below ?_ (by with_reducible assumption))))).mono ?_
  rintro e w1 ⟨rfl, hb1⟩
  have kP1 : Bk w1 (w.heap.size + 1 + 1 + 1) 45 #[.int .u8 0, .int .u8 0, .int .u8 0, .int .u8 0] := (by repeat (first | (with_reducible assumption) | ((with_reducible refine Bk.new _ _ _ ?_); first | (with_reducible rfl) | (simp; done)) | (with_reducible refine Bk.alloc ?_ _) | (with_reducible refine Bk.drew ?_) | (with_reducible refine Bk.drewN ?_ _) | ((with_reducible refine Bk.far ?_ ?_ _); rotate_left; focus (first | (simp; done) | (simp; omega))) | (with_reducible refine Bk.below ?_ (by with_reducible assumption)))); obtain ⟨kcP1, kfP1, kaP1, kgP1, klP1⟩ := kP1.rules
  go_wp2
  refine bodyPost_ret (v := _) ?_ rfl ⟨rfl, (by repeat (first | (with_reducible exact Below.refl _ _) | (with_reducible refine balloc ?_ _) | (with_reducible refine Below.drew ?_) | (with_reducible refine bdrewN ?_ _) | ((with_reducible refine bset ?_ ?_ _); rotate_left; focus (first | (with_reducible exact Nat.le_refl _) | (simp; done) | (simp; omega) | omega)) | (with_reducible refine bstep (by with_reducible assumption) ?_)))⟩
  simp [results, Tryz.results31, go_sem, kcP1]
set_option maxHeartbeats 1600000 in
theorem rlerp_q (a b : Px) (k : Int) (q : Px) (hq : Hid (lerpP a b k = q)) (w : World) (ha : a.byte) (hb : b.byte) (k0 : 0 ≤ k) (k1 : k ≤ 255) :
    Calls Tryz.prog 32 #[.agg #[.int .u8 a.r, .int .u8 a.g, .int .u8 a.b, .int .u8 a.a], .agg #[.int .u8 b.r, .int .u8 b.g, .int .u8 b.b, .int .u8 b.a], .int .u8 k] w fun e w' => e = .returned (.agg #[.int .u8 q.r, .int .u8 q.g, .int .u8 q.b, .int .u8 q.a]) ∧ Below w.heap.size w w' := by
  have h := hq.out; subst h
  unfold lerpP mixP
  go_enter Tryz.func32, Tryz.ntmps32
  go_wp2_with fail
  refine wp_region_gob 25 [(0, true), (1, true), (2, true), (3, true), (4, true), (6, true), (7, true), (8, true), (9, true), (10, true), (12, true), (13, true), (14, true), (15, true), (16, true), (18, true), (19, true), (20, true), (21, true), (22, true), (5, false), (11, false), (17, false), (23, false), (24, true)] (by kernel_rfl) (by kernel_rfl) (fun c a d v w h => by cases d <;> exact h) ?_
  repeat (first | (refine wpGo_pure (v := ?_) rfl rfl (fun w' hS => ?_) ?_; rotate_left; (· have kXp : Bk w' (w.heap.size) 45 #[.int .u8 a.r, .int .u8 a.g, .int .u8 a.b, .int .u8 a.a] := (by repeat (first | (with_reducible assumption) | ((with_reducible refine Bk.new _ _ _ ?_); first | (with_reducible rfl) | (simp; done)) | (with_reducible refine Bk.alloc ?_ _) | (with_reducible refine Bk.drew ?_) | (with_reducible refine Bk.drewN ?_ _) | ((with_reducible refine Bk.far ?_ ?_ _); rotate_left; focus (first | (simp; done) | (simp; omega))) | (with_reducible refine Bk.below ?_ (by with_reducible assumption)))); obtain ⟨kcXp, kfXp, kaXp, kgXp, klXp⟩ := kXp.rules; have kYp : Bk w' (w.heap.size + 1) 45 #[.int .u8 b.r, .int .u8 b.g, .int .u8 b.b, .int .u8 b.a] := (by repeat (first | (with_reducible assumption) | ((with_reducible refine Bk.new _ _ _ ?_); first | (with_reducible rfl) | (simp; done)) | (with_reducible refine Bk.alloc ?_ _) | (with_reducible refine Bk.drew ?_) | (with_reducible refine Bk.drewN ?_ _) | ((with_reducible refine Bk.far ?_ ?_ _); rotate_left; focus (first | (simp; done) | (simp; omega))) | (with_reducible refine Bk.below ?_ (by with_reducible assumption)))); obtain ⟨kcYp, kfYp, kaYp, kgYp, klYp⟩ := kYp.rules; go_simp; exact rfl); (try simp only [Act.put, List.setIfInBounds_toArray, List.set_cons_zero, List.set_cons_succ])) | ((refine wpGo_skip rfl rfl ?_); (try simp only [Act.put, List.setIfInBounds_toArray, List.set_cons_zero, List.set_cons_succ])))
  refine wpGo_eff rfl (fun K hK => ?_)
  go_simp
  refine (rlerp1_any _ _ k _ ha.r0 ha.r1 hb.r0 hb.r1 k0 k1).mono ?_
  rintro e w1 ⟨rfl, hb1⟩
  refine hK.out _ _ (by repeat (first | (with_reducible exact Below.refl _ _) | (with_reducible refine balloc ?_ _) | (with_reducible refine Below.drew ?_) | (with_reducible refine bdrewN ?_ _) | ((with_reducible refine bset ?_ ?_ _); rotate_left; focus (first | (with_reducible exact Nat.le_refl _) | (simp; done) | (simp; omega) | omega)) | (with_reducible refine bstep (by with_reducible assumption) ?_))) (fun hS1 => ?_)
  clear hK K
  refine wpGo_eff rfl (fun K hK => ?_)
  go_simp
  refine (rlerp1_any _ _ k _ ha.g0 ha.g1 hb.g0 hb.g1 k0 k1).mono ?_
  rintro e w2 ⟨rfl, hb2⟩
  refine hK.out _ _ (by repeat (first | (with_reducible exact Below.refl _ _) | (with_reducible refine balloc ?_ _) | (with_reducible refine Below.drew ?_) | (with_reducible refine bdrewN ?_ _) | ((with_reducible refine bset ?_ ?_ _); rotate_left; focus (first | (with_reducible exact Nat.le_refl _) | (simp; done) | (simp; omega) | omega)) | (with_reducible refine bstep (by with_reducible assumption) ?_))) (fun hS2 => ?_)
  clear hK K
  refine wpGo_eff rfl (fun K hK => ?_)
  go_simp
  refine (rlerp1_any _ _ k _ ha.b0 ha.b1 hb.b0 hb.b1 k0 k1).mono ?_
  rintro e w3 ⟨rfl, hb3⟩
  refine hK.out _ _ (by repeat (first | (with_reducible exact Below.refl _ _) | (with_reducible refine balloc ?_ _) | (with_reducible refine Below.drew ?_) | (with_reducible refine bdrewN ?_ _) | ((with_reducible refine bset ?_ ?_ _); rotate_left; focus (first | (with_reducible exact Nat.le_refl _) | (simp; done) | (simp; omega) | omega)) | (with_reducible refine bstep (by with_reducible assumption) ?_))) (fun hS3 => ?_)
  clear hK K
  refine wpGo_eff rfl (fun K hK => ?_)
  go_simp
  refine (rlerp1_any _ _ k _ ha.a0 ha.a1 hb.a0 hb.a1 k0 k1).mono ?_
  rintro e w4 ⟨rfl, hb4⟩
  refine hK.out _ _ (by repeat (first | (with_reducible exact Below.refl _ _) | (with_reducible refine balloc ?_ _) | (with_reducible refine Below.drew ?_) | (with_reducible refine bdrewN ?_ _) | ((with_reducible refine bset ?_ ?_ _); rotate_left; focus (first | (with_reducible exact Nat.le_refl _) | (simp; done) | (simp; omega) | omega)) | (with_reducible refine bstep (by with_reducible assumption) ?_))) (fun hS4 => ?_)
  clear hK K
  repeat (first | (refine wpGo_pure (v := ?_) rfl rfl (fun w' hS => ?_) ?_; rotate_left; (· have kXp : Bk w' (w.heap.size) 45 #[.int .u8 a.r, .int .u8 a.g, .int .u8 a.b, .int .u8 a.a] := (by repeat (first | (with_reducible assumption) | ((with_reducible refine Bk.new _ _ _ ?_); first | (with_reducible rfl) | (simp; done)) | (with_reducible refine Bk.alloc ?_ _) | (with_reducible refine Bk.drew ?_) | (with_reducible refine Bk.drewN ?_ _) | ((with_reducible refine Bk.far ?_ ?_ _); rotate_left; focus (first | (simp; done) | (simp; omega))) | (with_reducible refine Bk.below ?_ (by with_reducible assumption)))); obtain ⟨kcXp, kfXp, kaXp, kgXp, klXp⟩ := kXp.rules; have kYp : Bk w' (w.heap.size + 1) 45 #[.int .u8 b.r, .int .u8 b.g, .int .u8 b.b, .int .u8 b.a] := (by repeat (first | (with_reducible assumption) | ((with_reducible refine Bk.new _ _ _ ?_); first | (with_reducible rfl) | (simp; done)) | (with_reducible refine Bk.alloc ?_ _) | (with_reducible refine Bk.drew ?_) | (with_reducible refine Bk.drewN ?_ _) | ((with_reducible refine Bk.far ?_ ?_ _); rotate_left; focus (first | (simp; done) | (simp; omega))) | (with_reducible refine Bk.below ?_ (by with_reducible assumption)))); obtain ⟨kcYp, kfYp, kaYp, kgYp, klYp⟩ := kYp.rules; go_simp; exact rfl); (try simp only [Act.put, List.setIfInBounds_toArray, List.set_cons_zero, List.set_cons_succ])) | ((refine wpGo_skip rfl rfl ?_); (try simp only [Act.put, List.setIfInBounds_toArray, List.set_cons_zero, List.set_cons_succ])))
  refine wpGo_nil ?_
  simp only [List.drop_succ_cons, List.drop_zero]
  have kO4 : Bk w4 (w.heap.size + 1 + 1) 45 #[.int .u8 0, .int .u8 0, .int .u8 0, .int .u8 0] := (by repeat (first | (with_reducible assumption) | ((with_reducible refine Bk.new _ _ _ ?_); first | (with_reducible rfl) | (simp; done)) | (with_reducible refine Bk.alloc ?_ _) | (with_reducible refine Bk.drew ?_) | (with_reducible refine Bk.drewN ?_ _) | ((with_reducible refine Bk.far ?_ ?_ _); rotate_left; focus (first | (simp; done) | (simp; omega))) | (with_reducible refine Bk.below ?_ (by with_reducible assumption)))); obtain ⟨kcO4, kfO4, kaO4, kgO4, klO4⟩ := kO4.rules
  go_wp2
  refine bodyPost_ret (v := _) ?_ rfl ⟨rfl, (by repeat (first | (with_reducible exact Below.refl _ _) | (with_reducible refine balloc ?_ _) | (with_reducible refine Below.drew ?_) | (with_reducible refine bdrewN ?_ _) | ((with_reducible refine bset ?_ ?_ _); rotate_left; focus (first | (with_reducible exact Nat.le_refl _) | (simp; done) | (simp; omega) | omega)) | (with_reducible refine bstep (by with_reducible assumption) ?_)))⟩
  simp [results, Tryz.results32, go_sem, kcO4]
end Go.Proofs.YtnefnnhnjmmebaaGreat
