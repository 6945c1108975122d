/-
  The walks of BoxBlur and of its functions.
-/
import Derived.Test.YtnefnnhnjmmebaaSum2
import Derived.Test.YtnefnnhnjmmebaaMadeBlur
import Derived.Test.YtnefnnhnjmmebaaBm3
import Derived.Test.YtnefnnhnjmmebaaBm2
import Derived.Test.YtnefnnhnjmmebaaBmV
import Derived.Test.YtnefnnhnjmmebaaIntm
namespace Go.Proofs.Ytnefnnhnjmmebaa
open Go.RowKit
set_option linter.unusedSimpArgs false
set_option linter.unusedVariables false

theorem area_le {n : Nat} (h : n ≤ 16) : areaN n ≤ 1089 := by
  rw [areaN_nat]
  have : (2 * n + 1) * (2 * n + 1) ≤ 33 * 33 := Nat.mul_le_mul (by omega) (by omega)
  omega

set_option maxHeartbeats 800000 in
theorem mean_0 (v : Px) (ar p : Int) (gs ga : Nat) (w : World) (hS : Bk w gs 81 #[.int .i64 v.r, .int .i64 v.g, .int .i64 v.b, .int .i64 v.a]) (hA : Bk w ga 3 #[.int .i64 ar]) (h0 : 0 ≤ v.r) (h1 : v.r ≤ 4294967295) (h2 : 1 ≤ ar) (h3 : ar ≤ 1089) (HP : Hid (rndP v.r ar = p)) (p0 : 0 ≤ p) (p1 : p ≤ 255) :
    Calls Try.prog 86 #[.int .i64 0, .pointer (some ⟨gs, 0, none⟩), .pointer (some ⟨ga, 0, none⟩)] w fun e w' => e = .returned (.int .u8 p) ∧ Below w.heap.size w w' := by
  have HC := Lib.hid (fun w => divround_pos v.r ar w h0 h1 h2 (by omega))
  have fw : IntKind.u8.wrap p = p := by rw [IntKind.wrap_u8]; omega
  rw [HP.out] at HC
  clear HP
  go_enter Try.func86, Try.ntmps86
  go_wp2_with fail
  refine wp_region_gob 7 [(0, true), (1, true), (2, true), (3, true), (4, false), (5, true), (6, true)] (by kernel_rfl) (by kernel_rfl) (fun c a d v w h => by cases d <;> exact h) ?_
  repeat (first | (refine wpGo_pure (v := ?_) rfl rfl (fun w' hS => ?_) ?_; rotate_left; (· have kSp : Bk w' (gs) 81 #[.int .i64 v.r, .int .i64 v.g, .int .i64 v.b, .int .i64 v.a] := (by repeat (first | (with_reducible assumption) | ((with_reducible refine Bk.new _ _ _ ?_); first | (with_reducible rfl) | (simp; done)) | (with_reducible refine Bk.alloc ?_ _) | (with_reducible refine Bk.drew ?_) | (with_reducible refine Bk.drewN ?_ _) | ((with_reducible refine Bk.far ?_ ?_ _); rotate_left; focus (first | (simp; done) | (simp; omega))) | (with_reducible refine Bk.below ?_ (by with_reducible assumption)))); obtain ⟨kcSp, kfSp, kaSp, kgSp, klSp⟩ := kSp.rules; have kRp : Bk w' (ga) 3 #[.int .i64 ar] := (by repeat (first | (with_reducible assumption) | ((with_reducible refine Bk.new _ _ _ ?_); first | (with_reducible rfl) | (simp; done)) | (with_reducible refine Bk.alloc ?_ _) | (with_reducible refine Bk.drew ?_) | (with_reducible refine Bk.drewN ?_ _) | ((with_reducible refine Bk.far ?_ ?_ _); rotate_left; focus (first | (simp; done) | (simp; omega))) | (with_reducible refine Bk.below ?_ (by with_reducible assumption)))); obtain ⟨kcRp, kfRp, kaRp, kgRp, klRp⟩ := kRp.rules; go_simp; exact rfl); (try simp only [Act.put, List.setIfInBounds_toArray, List.set_cons_zero, List.set_cons_succ])) | ((refine wpGo_skip rfl rfl ?_); (try simp only [Act.put, List.setIfInBounds_toArray, List.set_cons_zero, List.set_cons_succ])))
  refine wpGo_eff rfl (fun K hK => ?_)
  go_simp
  refine (HC.out _).mono ?_
  rintro e w1 ⟨rfl, hb1⟩
  refine hK.out _ _ (by repeat (first | (with_reducible exact Below.refl _ _) | (with_reducible refine balloc ?_ _) | (with_reducible refine Below.drew ?_) | (with_reducible refine bdrewN ?_ _) | ((with_reducible refine bset ?_ ?_ _); rotate_left; focus (first | (with_reducible exact Nat.le_refl _) | (simp; done) | (simp; omega) | omega)) | (with_reducible refine bstep (by with_reducible assumption) ?_))) (fun hS1 => ?_)
  clear hK K
  repeat (refine wpGo_pure (v := ?_) rfl rfl (fun w' hS => ?_) ?_; rotate_left; (· skip; go_simp; exact rfl); (try simp only [Act.put, List.setIfInBounds_toArray, List.set_cons_zero, List.set_cons_succ]))
  refine wpGo_nil ?_
  simp only [List.drop_succ_cons, List.drop_zero]
  go_wp2
  go_ret
  exact ⟨rfl, (by repeat (first | (with_reducible exact Below.refl _ _) | (with_reducible refine balloc ?_ _) | (with_reducible refine Below.drew ?_) | (with_reducible refine bdrewN ?_ _) | ((with_reducible refine bset ?_ ?_ _); rotate_left; focus (first | (with_reducible exact Nat.le_refl _) | (simp; done) | (simp; omega) | omega)) | (with_reducible refine bstep (by with_reducible assumption) ?_)))⟩

set_option maxHeartbeats 800000 in
theorem mean_1 (v : Px) (ar p : Int) (gs ga : Nat) (w : World) (hS : Bk w gs 81 #[.int .i64 v.r, .int .i64 v.g, .int .i64 v.b, .int .i64 v.a]) (hA : Bk w ga 3 #[.int .i64 ar]) (h0 : 0 ≤ v.g) (h1 : v.g ≤ 4294967295) (h2 : 1 ≤ ar) (h3 : ar ≤ 1089) (HP : Hid (rndP v.g ar = p)) (p0 : 0 ≤ p) (p1 : p ≤ 255) :
    Calls Try.prog 86 #[.int .i64 1, .pointer (some ⟨gs, 0, none⟩), .pointer (some ⟨ga, 0, none⟩)] w fun e w' => e = .returned (.int .u8 p) ∧ Below w.heap.size w w' := by
  have HC := Lib.hid (fun w => divround_pos v.g ar w h0 h1 h2 (by omega))
  have fw : IntKind.u8.wrap p = p := by rw [IntKind.wrap_u8]; omega
  rw [HP.out] at HC
  clear HP
  go_enter Try.func86, Try.ntmps86
  go_wp2_with fail
  refine wp_region_gob 7 [(0, true), (1, true), (2, true), (3, true), (4, false), (5, true), (6, true)] (by kernel_rfl) (by kernel_rfl) (fun c a d v w h => by cases d <;> exact h) ?_
  repeat (first | (refine wpGo_pure (v := ?_) rfl rfl (fun w' hS => ?_) ?_; rotate_left; (· have kSp : Bk w' (gs) 81 #[.int .i64 v.r, .int .i64 v.g, .int .i64 v.b, .int .i64 v.a] := (by repeat (first | (with_reducible assumption) | ((with_reducible refine Bk.new _ _ _ ?_); first | (with_reducible rfl) | (simp; done)) | (with_reducible refine Bk.alloc ?_ _) | (with_reducible refine Bk.drew ?_) | (with_reducible refine Bk.drewN ?_ _) | ((with_reducible refine Bk.far ?_ ?_ _); rotate_left; focus (first | (simp; done) | (simp; omega))) | (with_reducible refine Bk.below ?_ (by with_reducible assumption)))); obtain ⟨kcSp, kfSp, kaSp, kgSp, klSp⟩ := kSp.rules; have kRp : Bk w' (ga) 3 #[.int .i64 ar] := (by repeat (first | (with_reducible assumption) | ((with_reducible refine Bk.new _ _ _ ?_); first | (with_reducible rfl) | (simp; done)) | (with_reducible refine Bk.alloc ?_ _) | (with_reducible refine Bk.drew ?_) | (with_reducible refine Bk.drewN ?_ _) | ((with_reducible refine Bk.far ?_ ?_ _); rotate_left; focus (first | (simp; done) | (simp; omega))) | (with_reducible refine Bk.below ?_ (by with_reducible assumption)))); obtain ⟨kcRp, kfRp, kaRp, kgRp, klRp⟩ := kRp.rules; go_simp; exact rfl); (try simp only [Act.put, List.setIfInBounds_toArray, List.set_cons_zero, List.set_cons_succ])) | ((refine wpGo_skip rfl rfl ?_); (try simp only [Act.put, List.setIfInBounds_toArray, List.set_cons_zero, List.set_cons_succ])))
  refine wpGo_eff rfl (fun K hK => ?_)
  go_simp
  refine (HC.out _).mono ?_
  rintro e w1 ⟨rfl, hb1⟩
  refine hK.out _ _ (by repeat (first | (with_reducible exact Below.refl _ _) | (with_reducible refine balloc ?_ _) | (with_reducible refine Below.drew ?_) | (with_reducible refine bdrewN ?_ _) | ((with_reducible refine bset ?_ ?_ _); rotate_left; focus (first | (with_reducible exact Nat.le_refl _) | (simp; done) | (simp; omega) | omega)) | (with_reducible refine bstep (by with_reducible assumption) ?_))) (fun hS1 => ?_)
  clear hK K
  repeat (refine wpGo_pure (v := ?_) rfl rfl (fun w' hS => ?_) ?_; rotate_left; (· skip; go_simp; exact rfl); (try simp only [Act.put, List.setIfInBounds_toArray, List.set_cons_zero, List.set_cons_succ]))
  refine wpGo_nil ?_
  simp only [List.drop_succ_cons, List.drop_zero]
  go_wp2
  go_ret
  exact ⟨rfl, (by repeat (first | (with_reducible exact Below.refl _ _) | (with_reducible refine balloc ?_ _) | (with_reducible refine Below.drew ?_) | (with_reducible refine bdrewN ?_ _) | ((with_reducible refine bset ?_ ?_ _); rotate_left; focus (first | (with_reducible exact Nat.le_refl _) | (simp; done) | (simp; omega) | omega)) | (with_reducible refine bstep (by with_reducible assumption) ?_)))⟩

set_option maxHeartbeats 800000 in
theorem mean_2 (v : Px) (ar p : Int) (gs ga : Nat) (w : World) (hS : Bk w gs 81 #[.int .i64 v.r, .int .i64 v.g, .int .i64 v.b, .int .i64 v.a]) (hA : Bk w ga 3 #[.int .i64 ar]) (h0 : 0 ≤ v.b) (h1 : v.b ≤ 4294967295) (h2 : 1 ≤ ar) (h3 : ar ≤ 1089) (HP : Hid (rndP v.b ar = p)) (p0 : 0 ≤ p) (p1 : p ≤ 255) :
    Calls Try.prog 86 #[.int .i64 2, .pointer (some ⟨gs, 0, none⟩), .pointer (some ⟨ga, 0, none⟩)] w fun e w' => e = .returned (.int .u8 p) ∧ Below w.heap.size w w' := by
  have HC := Lib.hid (fun w => divround_pos v.b ar w h0 h1 h2 (by omega))
  have fw : IntKind.u8.wrap p = p := by rw [IntKind.wrap_u8]; omega
  rw [HP.out] at HC
  clear HP
  go_enter Try.func86, Try.ntmps86
  go_wp2_with fail
  refine wp_region_gob 7 [(0, true), (1, true), (2, true), (3, true), (4, false), (5, true), (6, true)] (by kernel_rfl) (by kernel_rfl) (fun c a d v w h => by cases d <;> exact h) ?_
  repeat (first | (refine wpGo_pure (v := ?_) rfl rfl (fun w' hS => ?_) ?_; rotate_left; (· have kSp : Bk w' (gs) 81 #[.int .i64 v.r, .int .i64 v.g, .int .i64 v.b, .int .i64 v.a] := (by repeat (first | (with_reducible assumption) | ((with_reducible refine Bk.new _ _ _ ?_); first | (with_reducible rfl) | (simp; done)) | (with_reducible refine Bk.alloc ?_ _) | (with_reducible refine Bk.drew ?_) | (with_reducible refine Bk.drewN ?_ _) | ((with_reducible refine Bk.far ?_ ?_ _); rotate_left; focus (first | (simp; done) | (simp; omega))) | (with_reducible refine Bk.below ?_ (by with_reducible assumption)))); obtain ⟨kcSp, kfSp, kaSp, kgSp, klSp⟩ := kSp.rules; have kRp : Bk w' (ga) 3 #[.int .i64 ar] := (by repeat (first | (with_reducible assumption) | ((with_reducible refine Bk.new _ _ _ ?_); first | (with_reducible rfl) | (simp; done)) | (with_reducible refine Bk.alloc ?_ _) | (with_reducible refine Bk.drew ?_) | (with_reducible refine Bk.drewN ?_ _) | ((with_reducible refine Bk.far ?_ ?_ _); rotate_left; focus (first | (simp; done) | (simp; omega))) | (with_reducible refine Bk.below ?_ (by with_reducible assumption)))); obtain ⟨kcRp, kfRp, kaRp, kgRp, klRp⟩ := kRp.rules; go_simp; exact rfl); (try simp only [Act.put, List.setIfInBounds_toArray, List.set_cons_zero, List.set_cons_succ])) | ((refine wpGo_skip rfl rfl ?_); (try simp only [Act.put, List.setIfInBounds_toArray, List.set_cons_zero, List.set_cons_succ])))
  refine wpGo_eff rfl (fun K hK => ?_)
  go_simp
  refine (HC.out _).mono ?_
  rintro e w1 ⟨rfl, hb1⟩
  refine hK.out _ _ (by repeat (first | (with_reducible exact Below.refl _ _) | (with_reducible refine balloc ?_ _) | (with_reducible refine Below.drew ?_) | (with_reducible refine bdrewN ?_ _) | ((with_reducible refine bset ?_ ?_ _); rotate_left; focus (first | (with_reducible exact Nat.le_refl _) | (simp; done) | (simp; omega) | omega)) | (with_reducible refine bstep (by with_reducible assumption) ?_))) (fun hS1 => ?_)
  clear hK K
  repeat (refine wpGo_pure (v := ?_) rfl rfl (fun w' hS => ?_) ?_; rotate_left; (· skip; go_simp; exact rfl); (try simp only [Act.put, List.setIfInBounds_toArray, List.set_cons_zero, List.set_cons_succ]))
  refine wpGo_nil ?_
  simp only [List.drop_succ_cons, List.drop_zero]
  go_wp2
  go_ret
  exact ⟨rfl, (by repeat (first | (with_reducible exact Below.refl _ _) | (with_reducible refine balloc ?_ _) | (with_reducible refine Below.drew ?_) | (with_reducible refine bdrewN ?_ _) | ((with_reducible refine bset ?_ ?_ _); rotate_left; focus (first | (with_reducible exact Nat.le_refl _) | (simp; done) | (simp; omega) | omega)) | (with_reducible refine bstep (by with_reducible assumption) ?_)))⟩

set_option maxHeartbeats 800000 in
theorem mean_3 (v : Px) (ar p : Int) (gs ga : Nat) (w : World) (hS : Bk w gs 81 #[.int .i64 v.r, .int .i64 v.g, .int .i64 v.b, .int .i64 v.a]) (hA : Bk w ga 3 #[.int .i64 ar]) (h0 : 0 ≤ v.a) (h1 : v.a ≤ 4294967295) (h2 : 1 ≤ ar) (h3 : ar ≤ 1089) (HP : Hid (rndP v.a ar = p)) (p0 : 0 ≤ p) (p1 : p ≤ 255) :
    Calls Try.prog 86 #[.int .i64 3, .pointer (some ⟨gs, 0, none⟩), .pointer (some ⟨ga, 0, none⟩)] w fun e w' => e = .returned (.int .u8 p) ∧ Below w.heap.size w w' := by
  have HC := Lib.hid (fun w => divround_pos v.a ar w h0 h1 h2 (by omega))
  have fw : IntKind.u8.wrap p = p := by rw [IntKind.wrap_u8]; omega
  rw [HP.out] at HC
  clear HP
  go_enter Try.func86, Try.ntmps86
  go_wp2_with fail
  refine wp_region_gob 7 [(0, true), (1, true), (2, true), (3, true), (4, false), (5, true), (6, true)] (by kernel_rfl) (by kernel_rfl) (fun c a d v w h => by cases d <;> exact h) ?_
  repeat (first | (refine wpGo_pure (v := ?_) rfl rfl (fun w' hS => ?_) ?_; rotate_left; (· have kSp : Bk w' (gs) 81 #[.int .i64 v.r, .int .i64 v.g, .int .i64 v.b, .int .i64 v.a] := (by repeat (first | (with_reducible assumption) | ((with_reducible refine Bk.new _ _ _ ?_); first | (with_reducible rfl) | (simp; done)) | (with_reducible refine Bk.alloc ?_ _) | (with_reducible refine Bk.drew ?_) | (with_reducible refine Bk.drewN ?_ _) | ((with_reducible refine Bk.far ?_ ?_ _); rotate_left; focus (first | (simp; done) | (simp; omega))) | (with_reducible refine Bk.below ?_ (by with_reducible assumption)))); obtain ⟨kcSp, kfSp, kaSp, kgSp, klSp⟩ := kSp.rules; have kRp : Bk w' (ga) 3 #[.int .i64 ar] := (by repeat (first | (with_reducible assumption) | ((with_reducible refine Bk.new _ _ _ ?_); first | (with_reducible rfl) | (simp; done)) | (with_reducible refine Bk.alloc ?_ _) | (with_reducible refine Bk.drew ?_) | (with_reducible refine Bk.drewN ?_ _) | ((with_reducible refine Bk.far ?_ ?_ _); rotate_left; focus (first | (simp; done) | (simp; omega))) | (with_reducible refine Bk.below ?_ (by with_reducible assumption)))); obtain ⟨kcRp, kfRp, kaRp, kgRp, klRp⟩ := kRp.rules; go_simp; exact rfl); (try simp only [Act.put, List.setIfInBounds_toArray, List.set_cons_zero, List.set_cons_succ])) | ((refine wpGo_skip rfl rfl ?_); (try simp only [Act.put, List.setIfInBounds_toArray, List.set_cons_zero, List.set_cons_succ])))
  refine wpGo_eff rfl (fun K hK => ?_)
  go_simp
  refine (HC.out _).mono ?_
  rintro e w1 ⟨rfl, hb1⟩
  refine hK.out _ _ (by repeat (first | (with_reducible exact Below.refl _ _) | (with_reducible refine balloc ?_ _) | (with_reducible refine Below.drew ?_) | (with_reducible refine bdrewN ?_ _) | ((with_reducible refine bset ?_ ?_ _); rotate_left; focus (first | (with_reducible exact Nat.le_refl _) | (simp; done) | (simp; omega) | omega)) | (with_reducible refine bstep (by with_reducible assumption) ?_))) (fun hS1 => ?_)
  clear hK K
  repeat (refine wpGo_pure (v := ?_) rfl rfl (fun w' hS => ?_) ?_; rotate_left; (· skip; go_simp; exact rfl); (try simp only [Act.put, List.setIfInBounds_toArray, List.set_cons_zero, List.set_cons_succ]))
  refine wpGo_nil ?_
  simp only [List.drop_succ_cons, List.drop_zero]
  go_wp2
  go_ret
  exact ⟨rfl, (by repeat (first | (with_reducible exact Below.refl _ _) | (with_reducible refine balloc ?_ _) | (with_reducible refine Below.drew ?_) | (with_reducible refine bdrewN ?_ _) | ((with_reducible refine bset ?_ ?_ _); rotate_left; focus (first | (with_reducible exact Nat.le_refl _) | (simp; done) | (simp; omega) | omega)) | (with_reducible refine bstep (by with_reducible assumption) ?_)))⟩

set_option maxHeartbeats 3200000 in
theorem blur1_any (x y : Int) (c0 c1 c2 c3 : Nat) (b : Bm) (wd ht n : Nat) (A : Option Addr) (N c : Nat) (lt : List Px) (w0 w : World) (hw : Below w0.heap.size w0 w) (HL : Hid (∀ p ∈ b.l, p.byte)) (HR : Hid (RdL encI 4 w0 A lt)) (hnn : Hid (lt.length = N)) (HT : Hid (TabOk b.l wd ht lt)) (hn : n ≤ 16) (h1 : wd ≤ 8192) (h2 : ht ≤ 8192) (X Y : Nat) (hX : x - b.r.x0 = (X : Int)) (hY : y - b.r.y0 = (Y : Int)) (hXw : X < wd) (hYh : Y < ht)
    (kT : Bk w c0 98 #[.int .i64 (wd : Int), .int .i64 (ht : Int), .slice A N c]) (kS : Bk w c1 28 #[.int .i64 b.r.x0, .int .i64 b.r.y0, .int .i64 b.r.x1, .int .i64 b.r.y1, .slice b.A b.n b.c]) (kN : Bk w c2 3 #[.int .i64 (n : Int)]) (kA : Bk w c3 3 #[.int .i64 (areaN n)]) (p : Px) (Hp : Hid (blurN b.l wd ht n X Y = p)) :
    Calls Try.prog 84 #[.int .i64 x, .int .i64 y, .pointer (some ⟨c0, 0, none⟩), .pointer (some ⟨c1, 0, none⟩), .pointer (some ⟨c2, 0, none⟩), .pointer (some ⟨c3, 0, none⟩)] w fun e w' => e = .returned (.agg #[.int .u8 p.r, .int .u8 p.g, .int .u8 p.b, .int .u8 p.a]) ∧ Below w.heap.size w w' := by
  have HW := Lib.hid hw
  clear hw
  obtain ⟨v, Hv⟩ : ∃ v, Hid (win4 b.l wd ht X Y n = v) := ⟨_, rfl⟩
  obtain ⟨ar, Har⟩ : ∃ a, Hid (areaN n = a) := ⟨_, rfl⟩
  have ha1 := area_pos n
  have ha2 := area_le hn
  have hb0 := blurN_byte HL.out wd ht n X Y
  rw [Hp.out] at hb0
  have hs := fun c => winS_byte HL.out wd ht c X Y n
  rw [Har.out] at ha1 ha2 hs kA
  have hp : p = ⟨rndP v.r ar, rndP v.g ar, rndP v.b ar, rndP v.a ar⟩ := by rw [← Hp.out, ← Hv.out, ← Har.out]; rfl
  have v0 : 0 ≤ v.r ∧ v.r ≤ ar * 255 := by rw [← Hv.out]; exact hs 0
  have v1 : 0 ≤ v.g ∧ v.g ≤ ar * 255 := by rw [← Hv.out]; exact hs 1
  have v2 : 0 ≤ v.b ∧ v.b ≤ ar * 255 := by rw [← Hv.out]; exact hs 2
  have v3 : 0 ≤ v.a ∧ v.a ≤ ar * 255 := by rw [← Hv.out]; exact hs 3
  have HM0 : Hid (∀ gs w, Bk w gs 81 #[.int .i64 v.r, .int .i64 v.g, .int .i64 v.b, .int .i64 v.a] → Bk w c3 3 #[.int .i64 ar] → Calls Try.prog 86 #[.int .i64 0, .pointer (some ⟨gs, 0, none⟩), .pointer (some ⟨c3, 0, none⟩)] w fun e w' => e = .returned (.int .u8 p.r) ∧ Below w.heap.size w w') := fun gs w hS hA => mean_0 v ar p.r gs c3 w hS hA v0.1 (by omega) ha1 ha2 (by unfold Hid; rw [hp]) hb0.r0 hb0.r1
  have HM1 : Hid (∀ gs w, Bk w gs 81 #[.int .i64 v.r, .int .i64 v.g, .int .i64 v.b, .int .i64 v.a] → Bk w c3 3 #[.int .i64 ar] → Calls Try.prog 86 #[.int .i64 1, .pointer (some ⟨gs, 0, none⟩), .pointer (some ⟨c3, 0, none⟩)] w fun e w' => e = .returned (.int .u8 p.g) ∧ Below w.heap.size w w') := fun gs w hS hA => mean_1 v ar p.g gs c3 w hS hA v1.1 (by omega) ha1 ha2 (by unfold Hid; rw [hp]) hb0.g0 hb0.g1
  have HM2 : Hid (∀ gs w, Bk w gs 81 #[.int .i64 v.r, .int .i64 v.g, .int .i64 v.b, .int .i64 v.a] → Bk w c3 3 #[.int .i64 ar] → Calls Try.prog 86 #[.int .i64 2, .pointer (some ⟨gs, 0, none⟩), .pointer (some ⟨c3, 0, none⟩)] w fun e w' => e = .returned (.int .u8 p.b) ∧ Below w.heap.size w w') := fun gs w hS hA => mean_2 v ar p.b gs c3 w hS hA v2.1 (by omega) ha1 ha2 (by unfold Hid; rw [hp]) hb0.b0 hb0.b1
  have HM3 : Hid (∀ gs w, Bk w gs 81 #[.int .i64 v.r, .int .i64 v.g, .int .i64 v.b, .int .i64 v.a] → Bk w c3 3 #[.int .i64 ar] → Calls Try.prog 86 #[.int .i64 3, .pointer (some ⟨gs, 0, none⟩), .pointer (some ⟨c3, 0, none⟩)] w fun e w' => e = .returned (.int .u8 p.a) ∧ Below w.heap.size w w') := fun gs w hS hA => mean_3 v ar p.a gs c3 w hS hA v3.1 (by omega) ha1 ha2 (by unfold Hid; rw [hp]) hb0.a0 hb0.a1
  clear hp v0 v1 v2 v3 hs hb0 ha1 ha2 Hp Har
  obtain ⟨kc, kf, ka, kg, kl⟩ := kT.rules
  obtain ⟨kc', kf', ka', kg', kl'⟩ := kS.rules
  obtain ⟨kc2, kf2, ka2, kg2, kl2⟩ := kN.rules
  go_enter Try.func84, Try.ntmps84
  go_wp2_with fail
  refine (window_any b.l HL.out wd ht A N c lt X Y n _ (HR.out.below (bstep (by show Below w.heap.size w _; exact (by repeat (first | (with_reducible exact Below.refl _ _) | (with_reducible refine balloc ?_ _) | (with_reducible refine Below.drew ?_) | (with_reducible refine bdrewN ?_ _) | ((with_reducible refine bset ?_ ?_ _); rotate_left; focus (first | (with_reducible exact Nat.le_refl _) | (simp; done) | (simp; omega) | omega)) | (with_reducible refine bstep (by with_reducible assumption) ?_)))) HW.out)) hXw hYh hn h1 h2 hnn.out HT.out v Hv).mono ?_
  rintro e w1 ⟨rfl, hb1⟩
  have kO1 : Bk w1 (w.heap.size) 25 #[.int .u8 0, .int .u8 0, .int .u8 0, .int .u8 0] := (by repeat (first | (with_reducible assumption) | ((with_reducible refine Bk.new _ _ _ ?_); first | (with_reducible rfl) | (simp; done)) | (with_reducible refine Bk.alloc ?_ _) | (with_reducible refine Bk.drew ?_) | (with_reducible refine Bk.drewN ?_ _) | ((with_reducible refine Bk.far ?_ ?_ _); rotate_left; focus (first | (simp; done) | (simp; omega))) | (with_reducible refine Bk.below ?_ (by with_reducible assumption))))
  have hB1 : Below w.heap.size w w1 := (by repeat (first | (with_reducible exact Below.refl _ _) | (with_reducible refine balloc ?_ _) | (with_reducible refine Below.drew ?_) | (with_reducible refine bdrewN ?_ _) | ((with_reducible refine bset ?_ ?_ _); rotate_left; focus (first | (with_reducible exact Nat.le_refl _) | (simp; done) | (simp; omega) | omega)) | (with_reducible refine bstep (by with_reducible assumption) ?_)))
  have kA1 := kA.below hB1
  clear kc kf ka kg kl kc' kf' ka' kg' kl' kc2 kf2 ka2 kg2 kl2 hb1
  have kV2 := Bk.new w1 81 #[.int .i64 v.r, .int .i64 v.g, .int .i64 v.b, .int .i64 v.a] (g := w1.heap.size) rfl
  have kA2 := kA1.alloc (.cells #[.int .i64 v.r, .int .i64 v.g, .int .i64 v.b, .int .i64 v.a] 81)
  have kO2 := kO1.alloc (.cells #[.int .i64 v.r, .int .i64 v.g, .int .i64 v.b, .int .i64 v.a] 81)
  have hB2 := balloc hB1 (.cells #[.int .i64 v.r, .int .i64 v.g, .int .i64 v.b, .int .i64 v.a] 81)
  go_wp2_with fail
  refine (HM0.out _ _ kV2 kA2).mono ?_
  rintro e w3 ⟨rfl, hb3⟩
  have kV3 := kV2.below hb3
  have kA3 := kA2.below hb3
  go_wp2_with fail
  refine (HM1.out _ _ kV3 kA3).mono ?_
  rintro e w4 ⟨rfl, hb4⟩
  have kV4 := kV3.below hb4
  have kA4 := kA3.below hb4
  go_wp2_with fail
  refine (HM2.out _ _ kV4 kA4).mono ?_
  rintro e w5 ⟨rfl, hb5⟩
  have kV5 := kV4.below hb5
  have kA5 := kA4.below hb5
  go_wp2_with fail
  refine (HM3.out _ _ kV5 kA5).mono ?_
  rintro e w6 ⟨rfl, hb6⟩
  have kO6 := (((kO2.below hb3).below hb4).below hb5).below hb6
  have hB6 := bstep hb6 (bstep hb5 (bstep hb4 (bstep hb3 hB2)))
  clear hB1 hB2 hb3 hb4 hb5 hb6
  obtain ⟨kc, kf, ka, kg, kl⟩ := kO6.rules
  go_wp2
  refine bodyPost_ret (v := _) ?_ rfl ⟨rfl, (by repeat (first | (with_reducible exact Below.refl _ _) | (with_reducible refine balloc ?_ _) | (with_reducible refine Below.drew ?_) | (with_reducible refine bdrewN ?_ _) | ((with_reducible refine bset ?_ ?_ _); rotate_left; focus (first | (with_reducible exact Nat.le_refl _) | (simp; done) | (simp; omega) | omega)) | (with_reducible refine bstep (by with_reducible assumption) ?_)))⟩
  simp [results, Try.results84, go_sem, kc]
/-- A blurred bitmap. -/
def bbN (n : Int) : Bool := decide (0 ≤ n) && decide (n ≤ 16)
def bbV (b : Bm) (n : Int) : Bool := vBm b && bbN n
def bbR (b : Bm) (n : Int) : Rc := if bbV b n then b.r else ⟨0, 0, 0, 0⟩
def bbL (b : Bm) (n : Int) : List Px := if bbV b n then pixL (blurG b.l b.r n.toNat) b.r else []
def bbE (b : Bm) (n : Int) : Int := if vBm b then (if bbN n then 0 else 6) else 15
theorem bm_dim {b : Bm} (h : vBm b = true) : b.l.length = (b.r.x1 - b.r.x0).toNat * (b.r.y1 - b.r.y0).toNat ∧ b.r.x1 - b.r.x0 = (((b.r.x1 - b.r.x0).toNat : Nat) : Int) ∧ b.r.y1 - b.r.y0 = (((b.r.y1 - b.r.y0).toNat : Nat) : Int) ∧ (b.r.x1 - b.r.x0).toNat ≤ 8192 ∧ (b.r.y1 - b.r.y0).toNat ≤ 8192 := by
  obtain ⟨hc, hl, _⟩ := valid_cn h
  have hb := canon_bd b.r
  rw [hc] at hb
  refine ⟨?_, by omega, by omega, by omega, by omega⟩
  have e : (((b.r.x1 - b.r.x0).toNat * (b.r.y1 - b.r.y0).toNat : Nat) : Int) = areaR b.r := by
    unfold areaR
    rw [hc, Int.natCast_mul, Int.toNat_of_nonneg (by omega), Int.toNat_of_nonneg (by omega)]
  omega

set_option maxHeartbeats 6400000 in
theorem bb_any (b : Bm) (n : Int) (w : World) (hb : b.ok w) (hnb : b.n ≤ 4000000000) :
    Calls Try.prog 42 #[.agg #[.int .i64 b.r.x0, .int .i64 b.r.y0, .int .i64 b.r.x1, .int .i64 b.r.y1, .slice b.A b.n b.c], .int .i64 n] w (RetBE (bbR b n) (bbL b n) (bbE b n) w) := by
  have HS := Lib.hid hb
  clear hb
  cases h1 : vBm b with
  | false =>
    have hv : bbV b n = false := by unfold bbV; rw [h1]; rfl
    have e1 : bbR b n = ⟨0, 0, 0, 0⟩ := by unfold bbR; rw [hv]; rfl
    have e2 : bbL b n = [] := by unfold bbL; rw [hv]; rfl
    have e3 : bbE b n = 15 := by unfold bbE; rw [h1]; rfl
    have Hvb : Hid (bmValid b.r b.l = false) := h1
    rw [e1, e2, e3]
    clear e1 e2 e3 hv h1
    go_enter Try.func42, Try.ntmps42
    go_wp2_with fail
    refine (bvalid_any b.r b.A b.n b.c b.l _ (HS.out.rd.below (by repeat (first | (with_reducible exact Below.refl _ _) | (with_reducible refine balloc ?_ _) | (with_reducible refine Below.drew ?_) | (with_reducible refine bdrewN ?_ _) | ((with_reducible refine bset ?_ ?_ _); rotate_left; focus (first | (with_reducible exact Nat.le_refl _) | (simp; done) | (simp; omega) | omega)) | (with_reducible refine bstep (by with_reducible assumption) ?_)))) HS.out.ln hnb false Hvb).mono ?_
    rintro e w1 ⟨rfl, hb1⟩
    have kO1 : Bk w1 (w.heap.size + 1 + 1) 28 #[.int .i64 0, .int .i64 0, .int .i64 0, .int .i64 0, .slice none 0 0] := (by repeat (first | (with_reducible assumption) | ((with_reducible refine Bk.new _ _ _ ?_); first | (with_reducible rfl) | (simp; done)) | (with_reducible refine Bk.alloc ?_ _) | (with_reducible refine Bk.drew ?_) | (with_reducible refine Bk.drewN ?_ _) | ((with_reducible refine Bk.far ?_ ?_ _); rotate_left; focus (first | (simp; done) | (simp; omega))) | (with_reducible refine Bk.below ?_ (by with_reducible assumption)))); obtain ⟨kcO1, kfO1, kaO1, kgO1, klO1⟩ := kO1.rules
    go_wp2
    refine bodyPost_ret (v := _) ?_ rfl (RetBE.no 15 (by repeat (first | (with_reducible exact Below.refl _ _) | (with_reducible refine balloc ?_ _) | (with_reducible refine Below.drew ?_) | (with_reducible refine bdrewN ?_ _) | ((with_reducible refine bset ?_ ?_ _); rotate_left; focus (first | (with_reducible exact Nat.le_refl _) | (simp; done) | (simp; omega) | omega)) | (with_reducible refine bstep (by with_reducible assumption) ?_))))
    simp [results, Try.results42, go_sem, kcO1]
  | true =>
    have Hvb : Hid (bmValid b.r b.l = true) := h1
    cases h2 : bbN n with
    | false =>
      have hv : bbV b n = false := by unfold bbV; rw [h1, h2]; rfl
      have e1 : bbR b n = ⟨0, 0, 0, 0⟩ := by unfold bbR; rw [hv]; rfl
      have e2 : bbL b n = [] := by unfold bbL; rw [hv]; rfl
      have e3 : bbE b n = 6 := by unfold bbE; rw [h1, h2]; rfl
      have hn : n < 0 ∨ 16 < n := by simp [bbN] at h2; omega
      rw [e1, e2, e3]
      clear e1 e2 e3 hv h1 h2
      rcases hn with hn | hn
      · go_enter Try.func42, Try.ntmps42
        go_wp2_with fail
        refine (bvalid_any b.r b.A b.n b.c b.l _ (HS.out.rd.below (by repeat (first | (with_reducible exact Below.refl _ _) | (with_reducible refine balloc ?_ _) | (with_reducible refine Below.drew ?_) | (with_reducible refine bdrewN ?_ _) | ((with_reducible refine bset ?_ ?_ _); rotate_left; focus (first | (with_reducible exact Nat.le_refl _) | (simp; done) | (simp; omega) | omega)) | (with_reducible refine bstep (by with_reducible assumption) ?_)))) HS.out.ln hnb true Hvb).mono ?_
        rintro e w1 ⟨rfl, hb1⟩
        have kN1 : Bk w1 (w.heap.size + 1) 3 #[.int .i64 n] := (by repeat (first | (with_reducible assumption) | ((with_reducible refine Bk.new _ _ _ ?_); first | (with_reducible rfl) | (simp; done)) | (with_reducible refine Bk.alloc ?_ _) | (with_reducible refine Bk.drew ?_) | (with_reducible refine Bk.drewN ?_ _) | ((with_reducible refine Bk.far ?_ ?_ _); rotate_left; focus (first | (simp; done) | (simp; omega))) | (with_reducible refine Bk.below ?_ (by with_reducible assumption)))); obtain ⟨kcN1, kfN1, kaN1, kgN1, klN1⟩ := kN1.rules; have kO1 : Bk w1 (w.heap.size + 1 + 1) 28 #[.int .i64 0, .int .i64 0, .int .i64 0, .int .i64 0, .slice none 0 0] := (by repeat (first | (with_reducible assumption) | ((with_reducible refine Bk.new _ _ _ ?_); first | (with_reducible rfl) | (simp; done)) | (with_reducible refine Bk.alloc ?_ _) | (with_reducible refine Bk.drew ?_) | (with_reducible refine Bk.drewN ?_ _) | ((with_reducible refine Bk.far ?_ ?_ _); rotate_left; focus (first | (simp; done) | (simp; omega))) | (with_reducible refine Bk.below ?_ (by with_reducible assumption)))); obtain ⟨kcO1, kfO1, kaO1, kgO1, klO1⟩ := kO1.rules
        go_wp2
        refine bodyPost_ret (v := _) ?_ rfl (RetBE.no 6 (by repeat (first | (with_reducible exact Below.refl _ _) | (with_reducible refine balloc ?_ _) | (with_reducible refine Below.drew ?_) | (with_reducible refine bdrewN ?_ _) | ((with_reducible refine bset ?_ ?_ _); rotate_left; focus (first | (with_reducible exact Nat.le_refl _) | (simp; done) | (simp; omega) | omega)) | (with_reducible refine bstep (by with_reducible assumption) ?_))))
        simp [results, Try.results42, go_sem, kcO1]
      · have hn0 : ¬ n < 0 := by omega
        go_enter Try.func42, Try.ntmps42
        go_wp2_with fail
        refine (bvalid_any b.r b.A b.n b.c b.l _ (HS.out.rd.below (by repeat (first | (with_reducible exact Below.refl _ _) | (with_reducible refine balloc ?_ _) | (with_reducible refine Below.drew ?_) | (with_reducible refine bdrewN ?_ _) | ((with_reducible refine bset ?_ ?_ _); rotate_left; focus (first | (with_reducible exact Nat.le_refl _) | (simp; done) | (simp; omega) | omega)) | (with_reducible refine bstep (by with_reducible assumption) ?_)))) HS.out.ln hnb true Hvb).mono ?_
        rintro e w1 ⟨rfl, hb1⟩
        have kN1 : Bk w1 (w.heap.size + 1) 3 #[.int .i64 n] := (by repeat (first | (with_reducible assumption) | ((with_reducible refine Bk.new _ _ _ ?_); first | (with_reducible rfl) | (simp; done)) | (with_reducible refine Bk.alloc ?_ _) | (with_reducible refine Bk.drew ?_) | (with_reducible refine Bk.drewN ?_ _) | ((with_reducible refine Bk.far ?_ ?_ _); rotate_left; focus (first | (simp; done) | (simp; omega))) | (with_reducible refine Bk.below ?_ (by with_reducible assumption)))); obtain ⟨kcN1, kfN1, kaN1, kgN1, klN1⟩ := kN1.rules; have kO1 : Bk w1 (w.heap.size + 1 + 1) 28 #[.int .i64 0, .int .i64 0, .int .i64 0, .int .i64 0, .slice none 0 0] := (by repeat (first | (with_reducible assumption) | ((with_reducible refine Bk.new _ _ _ ?_); first | (with_reducible rfl) | (simp; done)) | (with_reducible refine Bk.alloc ?_ _) | (with_reducible refine Bk.drew ?_) | (with_reducible refine Bk.drewN ?_ _) | ((with_reducible refine Bk.far ?_ ?_ _); rotate_left; focus (first | (simp; done) | (simp; omega))) | (with_reducible refine Bk.below ?_ (by with_reducible assumption)))); obtain ⟨kcO1, kfO1, kaO1, kgO1, klO1⟩ := kO1.rules
        go_wp2
        refine bodyPost_ret (v := _) ?_ rfl (RetBE.no 6 (by repeat (first | (with_reducible exact Below.refl _ _) | (with_reducible refine balloc ?_ _) | (with_reducible refine Below.drew ?_) | (with_reducible refine bdrewN ?_ _) | ((with_reducible refine bset ?_ ?_ _); rotate_left; focus (first | (with_reducible exact Nat.le_refl _) | (simp; done) | (simp; omega) | omega)) | (with_reducible refine bstep (by with_reducible assumption) ?_))))
        simp [results, Try.results42, go_sem, kcO1]
    | true =>
      have hv : bbV b n = true := by unfold bbV; rw [h1, h2]; rfl
      have e1 : bbR b n = b.r := by unfold bbR; rw [hv]; rfl
      have e2 : bbL b n = pixL (blurG b.l b.r n.toNat) b.r := by unfold bbL; rw [hv]; rfl
      have e3 : bbE b n = 0 := by unfold bbE; rw [h1, h2]; rfl
      have hn : 0 ≤ n ∧ n ≤ 16 := by simp [bbN] at h2; omega
      obtain ⟨k, rfl⟩ : ∃ k : Nat, n = (k : Int) := ⟨n.toNat, by omega⟩
      rw [Int.toNat_natCast] at e2
      rw [e1, e2, e3]
      obtain ⟨hlen, hwd, hht, hw1, hh1⟩ := bm_dim h1
      have hdb := canon_bd b.r
      rw [(valid_cn h1).1] at hdb
      have HDC : Hid (canonR b.r = b.r) := (valid_cn h1).1
      obtain ⟨g, Hg⟩ : ∃ g, Hid (blurG b.l b.r k = g) := ⟨_, rfl⟩
      rw [Hg.out]
      have hk : k ≤ 16 := by omega
      have hG : ∀ (x y : Int) (X Y : Nat), x - b.r.x0 = (X : Int) → y - b.r.y0 = (Y : Int) → blurN b.l (b.r.x1 - b.r.x0).toNat (b.r.y1 - b.r.y0).toNat k X Y = g x y := fun x y X Y hx hy => by
        rw [← Hg.out]; unfold blurG; rw [hx, hy, Int.toNat_natCast, Int.toNat_natCast]
      have HG := Lib.hid hG
      generalize (b.r.x1 - b.r.x0).toNat = wd at *
      generalize (b.r.y1 - b.r.y0).toNat = ht at *
      have hln : b.n = wd * ht := by rw [← HS.out.ln]; exact hlen
      have HDM := Lib.hid (And.intro hwd (And.intro hht hln))
      have a1 : 0 ≤ (2 * (k : Int) + 1) * (2 * (k : Int) + 1) ∧ (2 * (k : Int) + 1) * (2 * (k : Int) + 1) ≤ 1089 := by
        have h3 := area_le hk; have h4 := area_pos k; unfold areaN at h3 h4; omega
      have a2 : (2 * (k : Int) + 1) * (2 * (k : Int) + 1) = areaN k := rfl
      clear e1 e2 e3 hv h1 h2 hwd hht hlen hln hn hG
      go_enter Try.func42, Try.ntmps42
      go_wp2_with fail
      refine (bvalid_any b.r b.A b.n b.c b.l _ (HS.out.rd.below (by repeat (first | (with_reducible exact Below.refl _ _) | (with_reducible refine balloc ?_ _) | (with_reducible refine Below.drew ?_) | (with_reducible refine bdrewN ?_ _) | ((with_reducible refine bset ?_ ?_ _); rotate_left; focus (first | (with_reducible exact Nat.le_refl _) | (simp; done) | (simp; omega) | omega)) | (with_reducible refine bstep (by with_reducible assumption) ?_)))) HS.out.ln hnb true Hvb).mono ?_
      rintro e w1 ⟨rfl, hb1⟩
      have kS1 : Bk w1 (w.heap.size) 28 #[.int .i64 b.r.x0, .int .i64 b.r.y0, .int .i64 b.r.x1, .int .i64 b.r.y1, .slice b.A b.n b.c] := (by repeat (first | (with_reducible assumption) | ((with_reducible refine Bk.new _ _ _ ?_); first | (with_reducible rfl) | (simp; done)) | (with_reducible refine Bk.alloc ?_ _) | (with_reducible refine Bk.drew ?_) | (with_reducible refine Bk.drewN ?_ _) | ((with_reducible refine Bk.far ?_ ?_ _); rotate_left; focus (first | (simp; done) | (simp; omega))) | (with_reducible refine Bk.below ?_ (by with_reducible assumption)))); obtain ⟨kcS1, kfS1, kaS1, kgS1, klS1⟩ := kS1.rules; have kN1 : Bk w1 (w.heap.size + 1) 3 #[.int .i64 (k : Int)] := (by repeat (first | (with_reducible assumption) | ((with_reducible refine Bk.new _ _ _ ?_); first | (with_reducible rfl) | (simp; done)) | (with_reducible refine Bk.alloc ?_ _) | (with_reducible refine Bk.drew ?_) | (with_reducible refine Bk.drewN ?_ _) | ((with_reducible refine Bk.far ?_ ?_ _); rotate_left; focus (first | (simp; done) | (simp; omega))) | (with_reducible refine Bk.below ?_ (by with_reducible assumption)))); obtain ⟨kcN1, kfN1, kaN1, kgN1, klN1⟩ := kN1.rules; have kO1 : Bk w1 (w.heap.size + 1 + 1) 28 #[.int .i64 0, .int .i64 0, .int .i64 0, .int .i64 0, .slice none 0 0] := (by repeat (first | (with_reducible assumption) | ((with_reducible refine Bk.new _ _ _ ?_); first | (with_reducible rfl) | (simp; done)) | (with_reducible refine Bk.alloc ?_ _) | (with_reducible refine Bk.drew ?_) | (with_reducible refine Bk.drewN ?_ _) | ((with_reducible refine Bk.far ?_ ?_ _); rotate_left; focus (first | (simp; done) | (simp; omega))) | (with_reducible refine Bk.below ?_ (by with_reducible assumption)))); obtain ⟨kcO1, kfO1, kaO1, kgO1, klO1⟩ := kO1.rules
      have hB1 : Below w.heap.size w w1 := (by repeat (first | (with_reducible exact Below.refl _ _) | (with_reducible refine balloc ?_ _) | (with_reducible refine Below.drew ?_) | (with_reducible refine bdrewN ?_ _) | ((with_reducible refine bset ?_ ?_ _); rotate_left; focus (first | (with_reducible exact Nat.le_refl _) | (simp; done) | (simp; omega) | omega)) | (with_reducible refine bstep (by with_reducible assumption) ?_)))
      go_wp2_with fail
      refine (sumsof_any b wd ht _ (HS.out.below hB1) HDM.out.2.2 hnb HDM.out.1 HDM.out.2.1 hw1 hh1).mono ?_
      rintro e w2 ⟨A, N, c, lt, rfl, hr, hnn, htab, hb2⟩
      clear kcS1 kfS1 kaS1 kgS1 kcN1 kfN1 kaN1 kgN1 kcO1 kfO1 kaO1 kgO1 klS1 klN1 klO1
      have HR := Lib.hid hr
      have HT := Lib.hid htab
      have HNN := Lib.hid hnn
      have jS := (kS1.below hb2).alloc (.cells #[.int .i64 (wd : Int), .int .i64 (ht : Int), .slice A N c] 98)
      have jN := (kN1.below hb2).alloc (.cells #[.int .i64 (wd : Int), .int .i64 (ht : Int), .slice A N c] 98)
      have jO := (kO1.below hb2).alloc (.cells #[.int .i64 (wd : Int), .int .i64 (ht : Int), .slice A N c] 98)
      have jT := Bk.new w2 98 #[.int .i64 (wd : Int), .int .i64 (ht : Int), .slice A N c] (g := w2.heap.size) rfl
      have hB2 := balloc (bstep hb2 hB1) (.cells #[.int .i64 (wd : Int), .int .i64 (ht : Int), .slice A N c] 98)
      have HR2 : Hid (RdL encI 4 (w2.alloc (.cells #[.int .i64 (wd : Int), .int .i64 (ht : Int), .slice A N c] 98)) A lt) := HR.out.below ((Below.refl _ _).alloc (Nat.le_refl _) _)
      clear hr htab hnn HR hb1 hb2 hB1 kS1 kN1 kO1
      obtain ⟨kc, kf, ka, kg, kl⟩ := jN.rules
      obtain ⟨kc', kf', ka', kg', kl'⟩ := jS.rules
      obtain ⟨gT, hgT⟩ : ∃ g, w2.heap.size = g := ⟨_, rfl⟩
      go_wp2_with fail
      rw [hgT] at jT
      have iT := jT.alloc (.cells #[.int .i64 (areaN k)] 3)
      have iS := jS.alloc (.cells #[.int .i64 (areaN k)] 3)
      have iN := jN.alloc (.cells #[.int .i64 (areaN k)] 3)
      have iO := jO.alloc (.cells #[.int .i64 (areaN k)] 3)
      have iA := Bk.new (w2.alloc (.cells #[.int .i64 (wd : Int), .int .i64 (ht : Int), .slice A N c] 98)) 3 #[.int .i64 (areaN k)] (g := gT + 1) (by simp [hgT])
      have hB5 := balloc hB2 (.cells #[.int .i64 (areaN k)] 3)
      have HR5 : Hid (RdL encI 4 ((w2.alloc (.cells #[.int .i64 (wd : Int), .int .i64 (ht : Int), .slice A N c] 98)).alloc (.cells #[.int .i64 (areaN k)] 3)) A lt) := HR2.out.below ((Below.refl _ _).alloc (Nat.le_refl _) _)
      clear kc kf ka kg kl kc' kf' ka' kg' kl' jT jS jN jO hB2 HR2
      generalize (w2.alloc (.cells #[.int .i64 (wd : Int), .int .i64 (ht : Int), .slice A N c] 98)).alloc (.cells #[.int .i64 (areaN k)] 3) = w5 at *
      refine (made_Blur b.r gT (w.heap.size) (w.heap.size + 1) (gT + 1) g _ b.r HDC (fun x y w' hx0 hx1 hy0 hy1 hb => blur1_any x y _ _ _ _ b wd ht k A N c lt w5 w' hb HS.out.byte HR5 HNN HT hk hw1 hh1 (x - b.r.x0).toNat (y - b.r.y0).toNat (by omega) (by omega) (by have := HDM.out.1; omega) (by have := HDM.out.2.1; omega) (iT.below hb) (iS.below hb) (iN.below hb) (iA.below hb) (g x y) (HG.out x y _ _ (by omega) (by omega)))).mono ?_
      rintro e w4 ⟨v4, rfl, ho4, hb4⟩
      have kO4 := iO.below hb4
      have hB4 : Below w.heap.size w w4 := bstep hb4 hB5
      have ho := ho4.mono hB5.size
      obtain ⟨A0, c0', hv0, _, _⟩ := ho.form encP_len
      generalize (pixL g b.r).length = n0 at hv0
      subst hv0
      obtain ⟨kc', kf', ka', kg', kl'⟩ := kO4.rules
      have o1 := ho.setFar kO4 (by decide) 0 (.int .i64 b.r.x0)
      have m1 := kO4.set 0 (.int .i64 b.r.x0)
      have o2 := o1.setFar m1 (by decide) 1 (.int .i64 b.r.y0)
      have m2 := m1.set 1 (.int .i64 b.r.y0)
      have o3 := o2.setFar m2 (by decide) 2 (.int .i64 b.r.x1)
      have m3 := m2.set 2 (.int .i64 b.r.x1)
      have o4 := o3.setFar m3 (by decide) 3 (.int .i64 b.r.y1)
      have m4 := m3.set 3 (.int .i64 b.r.y1)
      have o5 := o4.setFar m4 (by decide) 4 (.slice A0 n0 c0')
      clear o1 o2 o3 o4 m1 m2 m3 m4
      go_wp2
      refine bodyPost_ret (v := _) ?_ rfl ⟨_, rfl, o5, (by repeat (first | (with_reducible exact Below.refl _ _) | (with_reducible refine balloc ?_ _) | (with_reducible refine Below.drew ?_) | (with_reducible refine bdrewN ?_ _) | ((with_reducible refine bset ?_ ?_ _); rotate_left; focus (first | (with_reducible exact Nat.le_refl _) | (simp; done) | (simp; omega) | omega)) | (with_reducible refine bstep (by with_reducible assumption) ?_)))⟩
      simp [results, Try.results42, go_sem, kc']
end Go.Proofs.Ytnefnnhnjmmebaa
