/-
  The walks of package intmath that the blends use: rounded division of numbers below 2^32.
-/
import Derived.Test.YtnefnnhnjmmebaaBase
import Derived.Test.YtnefnnhnjmmebaaPlA
import Derived.Test.YtnefnnhnjmmebaaRows
import Derived.IntWalk
import Derived.Test.YtnefnnhnjmmebaaGo
namespace Go.Proofs.Ytnefnnhnjmmebaa
open Go.RowKit
set_option linter.unusedSimpArgs false
set_option linter.unusedVariables false

theorem and_mask (x : Int) (h0 : 0 ≤ x) (h1 : x ≤ 4294967295) : bits .and .u64 x 4294967295 = x := by
  have h2 : (BitVec.ofInt 64 x).toNat = x.toNat := by
    rw [BitVec.toNat_ofInt, Int.emod_eq_of_lt h0 (by simp; omega)]
  have h3 : (BitVec.ofInt 64 4294967295).toNat = 4294967295 := rfl
  show IntKind.u64.wrap ((BitVec.ofInt 64 x &&& BitVec.ofInt 64 4294967295).toNat : Int) = x
  rw [BitVec.toNat_and, h2, h3, show (4294967295 : Nat) = 2 ^ 32 - 1 from rfl, Nat.and_two_pow_sub_one_eq_mod, Nat.mod_eq_of_lt (by omega)]
  rw [IntWalk.u64_in _ (by omega)]
  omega
theorem shr_none (x : Int) (h0 : 0 ≤ x) (h1 : x ≤ 4294967295) : x / 4294967296 = 0 := by omega

set_option maxHeartbeats 400000 in
theorem mul64_one (x : Int) (w : World) (h0 : 0 ≤ x) (h1 : x ≤ 4294967295) :
    Calls Try.prog 124 #[.int .u64 x, .int .u64 1] w fun e w' => e = .returned (.tuple #[.int .u64 0, .int .u64 x]) ∧ w = w' := by
  have ha := and_mask x h0 h1
  have ha1 := and_mask 1 (by omega) (by omega)
  have ha0 := and_mask 0 (by omega) (by omega)
  have hs := shr_none x h0 h1
  go_enter Try.func124, Try.ntmps124
  go_wp2_with fail
  go_ret2
  exact ⟨rfl, rfl⟩

set_option maxHeartbeats 400000 in
theorem div64_low (x y : Int) (w : World) (h0 : 0 ≤ x) (h1 : x ≤ 4294967295) (h2 : 1 ≤ y) (h3 : y ≤ 4294967295) :
    Calls Try.prog 133 #[.int .u64 0, .int .u64 x, .int .u64 y] w fun e w' => e = .returned (.tuple #[.int .u64 (x / y), .int .u64 (x % y)]) ∧ Below w.heap.size w w' := by
  have hy : (y == 0) = false := by simp; omega
  go_enter Try.func133, Try.ntmps133
  go_wp2_with fail
  have hy0 : ¬ y = 0 := by omega
  have b1 : x / y ≤ x := Int.ediv_le_self _ h0
  have b2 := Int.ediv_nonneg h0 (show 0 ≤ y by omega)
  have b3 := Int.emod_nonneg x hy0
  have b4 := Int.emod_lt_of_pos x (show 0 < y by omega)
  have e1 : IntKind.u64.wrap (x.tdiv y) = x / y := by rw [Int.tdiv_eq_ediv_of_nonneg h0]; exact IntWalk.u64_in _ (by omega)
  have e2 : x.tmod y = x % y := Int.tmod_eq_emod_of_nonneg h0
  clear b1 b2 b3 b4
  refine wp_region_gob 8 [(0, true), (1, true), (2, true), (3, true), (4, true), (5, true), (6, true), (7, true)] (by kernel_rfl) (by kernel_rfl) (fun c a d v w h => by cases d <;> exact h) ?_
  repeat (refine wpGo_pure (v := ?_) rfl rfl (fun w' hS => ?_) ?_; rotate_left; (· skip; go_simp; exact rfl); (try simp only [Act.put, List.setIfInBounds_toArray, List.set_cons_zero, List.set_cons_succ]))
  refine wpGo_nil ?_
  simp only [List.drop_succ_cons, List.drop_zero]
  go_wp2_with fail
  go_ret2
  exact ⟨rfl, (by repeat (first | (with_reducible exact Below.refl _ _) | (with_reducible refine balloc ?_ _) | (with_reducible refine Below.drew ?_) | (with_reducible refine bdrewN ?_ _) | ((with_reducible refine bset ?_ ?_ _); rotate_left; focus (first | (with_reducible exact Nat.le_refl _) | (simp; done) | (simp; omega) | omega)) | (with_reducible refine bstep (by with_reducible assumption) ?_)))⟩

set_option maxHeartbeats 400000 in
theorem size_pos (x : Int) (w : World) (h0 : 0 ≤ x) (h1 : x ≤ 4294967295) :
    Calls Try.prog 125 #[.int .i64 x] w fun e w' => e = .returned (.int .u64 x) ∧ w = w' := by
  go_enter Try.func125, Try.ntmps125
  go_wp2_with fail
  go_ret
  exact ⟨rfl, rfl⟩

theorem rnd_low {x y : Int} (h0 : 0 ≤ x) (h1 : x ≤ 4294967295) (h2 : 1 ≤ y) (h3 : y ≤ 4294967295) : 0 ≤ x / y ∧ x / y ≤ 4294967295 ∧ 0 ≤ x % y ∧ x % y < y ∧
    rndP x y = if y - x % y ≤ x % y then x / y + 1 else x / y := by
  have a1 := Int.ediv_nonneg h0 (show 0 ≤ y by omega)
  have a2 : x / y ≤ x := Int.ediv_le_self _ h0
  have a3 := Int.emod_nonneg x (show y ≠ 0 by omega)
  have a4 := Int.emod_lt_of_pos x (show 0 < y by omega)
  refine ⟨a1, by omega, a3, a4, ?_⟩
  have e := Int.mul_ediv_add_emod x y
  unfold rndP
  generalize x / y = q at *
  generalize x % y = r at *
  have e2 : 2 * x + y = (2 * r + y) + q * (2 * y) := by
    have e3 : q * (2 * y) = 2 * (y * q) := by rw [Int.mul_comm q, Int.mul_assoc]
    omega
  rw [e2, Int.add_mul_ediv_right _ _ (by omega)]
  split
  · have : (2 * r + y) / (2 * y) = 1 := by
      rw [show 2 * r + y = (2 * r - y) + 1 * (2 * y) by omega, Int.add_mul_ediv_right _ _ (by omega), Int.ediv_eq_zero_of_lt (by omega) (by omega)]; omega
    omega
  · have : (2 * r + y) / (2 * y) = 0 := Int.ediv_eq_zero_of_lt (by omega) (by omega)
    omega


set_option maxHeartbeats 400000 in
theorem near_low (x y : Int) (w : World) (h0 : 0 ≤ x) (h1 : x ≤ 4294967295) (h2 : 1 ≤ y) (h3 : y ≤ 4294967295) :
    Calls Try.prog 127 #[.agg #[.int .u64 0, .int .u64 x, .int .u64 y]] w fun e w' => e = .returned (.tuple #[.int .u64 (rndP x y), .bool true]) ∧ Below w.heap.size w w' := by
  obtain ⟨a1, a2, a3, a4, He⟩ := rnd_low h0 h1 h2 h3
  have HE := Lib.hid He
  clear He
  obtain ⟨q, Hq⟩ : ∃ q, Hid (x / y = q) := ⟨_, rfl⟩
  obtain ⟨r, Hr⟩ : ∃ r, Hid (x % y = r) := ⟨_, rfl⟩
  have HD : ∀ w, Calls Try.prog 133 #[.int .u64 0, .int .u64 x, .int .u64 y] w fun e w' => e = .returned (.tuple #[.int .u64 q, .int .u64 r]) ∧ Below w.heap.size w w' := fun w => by
    rw [← Hq.out, ← Hr.out]; exact div64_low x y w h0 h1 h2 h3
  have HD := Lib.hid HD
  rw [Hq.out] at a1 a2
  rw [Hr.out] at a3 a4
  have HE' : Hid (rndP x y = if y - r ≤ r then q + 1 else q) := by have := HE.out; rw [Hq.out, Hr.out] at this; exact this
  clear HE Hq Hr
  by_cases hc : y - r ≤ r
  · have hq0 : (q + 1 != 0) = true := by simp; omega
    rw [HE'.out, if_pos hc]
    clear HE'
    go_enter Try.func127, Try.ntmps127
    go_wp2_with fail
    refine (HD.out _).mono ?_
    rintro e w1 ⟨rfl, hb1⟩
    have kP1 : Bk w1 (w.heap.size) 131 #[.int .u64 0, .int .u64 x, .int .u64 y] := (by repeat (first | (with_reducible assumption) | ((with_reducible refine Bk.new _ _ _ ?_); first | (with_reducible rfl) | (simp; done)) | (with_reducible refine Bk.alloc ?_ _) | (with_reducible refine Bk.drew ?_) | (with_reducible refine Bk.drewN ?_ _) | ((with_reducible refine Bk.far ?_ ?_ _); rotate_left; focus (first | (simp; done) | (simp; omega))) | (with_reducible refine Bk.below ?_ (by with_reducible assumption)))); obtain ⟨kcP1, kfP1, kaP1, kgP1, klP1⟩ := kP1.rules
    go_wp2_with fail
    go_ret2
    exact ⟨rfl, (by repeat (first | (with_reducible exact Below.refl _ _) | (with_reducible refine balloc ?_ _) | (with_reducible refine Below.drew ?_) | (with_reducible refine bdrewN ?_ _) | ((with_reducible refine bset ?_ ?_ _); rotate_left; focus (first | (with_reducible exact Nat.le_refl _) | (simp; done) | (simp; omega) | omega)) | (with_reducible refine bstep (by with_reducible assumption) ?_)))⟩
  · rw [HE'.out, if_neg hc]
    clear HE'
    go_enter Try.func127, Try.ntmps127
    go_wp2_with fail
    refine (HD.out _).mono ?_
    rintro e w1 ⟨rfl, hb1⟩
    have kP1 : Bk w1 (w.heap.size) 131 #[.int .u64 0, .int .u64 x, .int .u64 y] := (by repeat (first | (with_reducible assumption) | ((with_reducible refine Bk.new _ _ _ ?_); first | (with_reducible rfl) | (simp; done)) | (with_reducible refine Bk.alloc ?_ _) | (with_reducible refine Bk.drew ?_) | (with_reducible refine Bk.drewN ?_ _) | ((with_reducible refine Bk.far ?_ ?_ _); rotate_left; focus (first | (simp; done) | (simp; omega))) | (with_reducible refine Bk.below ?_ (by with_reducible assumption)))); obtain ⟨kcP1, kfP1, kaP1, kgP1, klP1⟩ := kP1.rules
    go_wp2_with fail
    go_ret2
    exact ⟨rfl, (by repeat (first | (with_reducible exact Below.refl _ _) | (with_reducible refine balloc ?_ _) | (with_reducible refine Below.drew ?_) | (with_reducible refine bdrewN ?_ _) | ((with_reducible refine bset ?_ ?_ _); rotate_left; focus (first | (with_reducible exact Nat.le_refl _) | (simp; done) | (simp; omega) | omega)) | (with_reducible refine bstep (by with_reducible assumption) ?_)))⟩
theorem rnd_bd {x y : Int} (h0 : 0 ≤ x) (h1 : x ≤ 4294967295) (h2 : 1 ≤ y) (h3 : y ≤ 4294967295) : 0 ≤ rndP x y ∧ rndP x y ≤ 4294967296 := by
  obtain ⟨a1, a2, a3, a4, e⟩ := rnd_low h0 h1 h2 h3
  rw [e]; split <;> omega

set_option maxHeartbeats 400000 in
theorem signed_pos (x y : Int) (w : World) (h0 : 0 ≤ x) (h1 : x ≤ 4294967295) (h2 : 1 ≤ y) (h3 : y ≤ 4294967295) :
    Calls Try.prog 126 #[.bool false, .func (.func 127) #[.agg #[.int .u64 0, .int .u64 x, .int .u64 y]] #[]] w fun e w' => e = .returned (.tuple #[.int .i64 (rndP x y), .bool true]) ∧ Below w.heap.size w w' := by
  obtain ⟨n, Hn⟩ : ∃ n, Hid (rndP x y = n) := ⟨_, rfl⟩
  have hn := rnd_bd h0 h1 h2 h3
  have HC := Lib.hid (fun w => near_low x y w h0 h1 h2 h3)
  rw [Hn.out] at hn HC ⊢
  have h4 : (n == 9223372036854775808) = false := by simp; omega
  go_enter Try.func126, Try.ntmps126
  go_wp2_with fail
  refine (HC.out _).mono ?_
  rintro e w1 ⟨rfl, hb1⟩
  go_wp2_with fail
  go_ret2
  exact ⟨rfl, (by repeat (first | (with_reducible exact Below.refl _ _) | (with_reducible refine balloc ?_ _) | (with_reducible refine Below.drew ?_) | (with_reducible refine bdrewN ?_ _) | ((with_reducible refine bset ?_ ?_ _); rotate_left; focus (first | (with_reducible exact Nat.le_refl _) | (simp; done) | (simp; omega) | omega)) | (with_reducible refine bstep (by with_reducible assumption) ?_)))⟩

set_option maxHeartbeats 400000 in
theorem muldiv_pos (x y : Int) (w : World) (h0 : 0 ≤ x) (h1 : x ≤ 4294967295) (h2 : 1 ≤ y) (h3 : y ≤ 4294967295) :
    Calls Try.prog 114 #[.int .i64 x, .int .i64 1, .int .i64 y] w fun e w' => e = .returned (.tuple #[.int .i64 (rndP x y), .bool true]) ∧ Below w.heap.size w w' := by
  have h4 : (y == 0) = false := by simp; omega
  have h5 : decide (x < 0) = false := by simp; omega
  have h6 : decide (y < 0) = false := by simp; omega
  go_enter Try.func114, Try.ntmps114
  go_wp2_with fail
  refine (size_pos x _ h0 h1).mono ?_
  rintro e w' ⟨rfl, rfl⟩
  go_wp2_with fail
  refine (size_pos 1 _ (by omega) (by omega)).mono ?_
  rintro e w' ⟨rfl, rfl⟩
  go_wp2_with fail
  refine (mul64_one x _ h0 h1).mono ?_
  rintro e w' ⟨rfl, rfl⟩
  go_wp2_with fail
  refine (size_pos y _ (by omega) h3).mono ?_
  rintro e w' ⟨rfl, rfl⟩
  go_wp2_with fail
  refine (signed_pos x y _ h0 h1 h2 h3).mono ?_
  rintro e w1 ⟨rfl, hb1⟩
  go_wp2_with fail
  go_ret2
  exact ⟨rfl, (by repeat (first | (with_reducible exact Below.refl _ _) | (with_reducible refine balloc ?_ _) | (with_reducible refine Below.drew ?_) | (with_reducible refine bdrewN ?_ _) | ((with_reducible refine bset ?_ ?_ _); rotate_left; focus (first | (with_reducible exact Nat.le_refl _) | (simp; done) | (simp; omega) | omega)) | (with_reducible refine bstep (by with_reducible assumption) ?_)))⟩

set_option maxHeartbeats 400000 in
theorem divround_pos (x y : Int) (w : World) (h0 : 0 ≤ x) (h1 : x ≤ 4294967295) (h2 : 1 ≤ y) (h3 : y ≤ 4294967295) :
    Calls Try.prog 87 #[.int .i64 x, .int .i64 y] w fun e w' => e = .returned (.int .i64 (rndP x y)) ∧ Below w.heap.size w w' := by
  go_enter Try.func87, Try.ntmps87
  go_wp2_with fail
  refine (muldiv_pos x y _ h0 h1 h2 h3).mono ?_
  rintro e w1 ⟨rfl, hb1⟩
  go_wp2_with fail
  go_ret
  exact ⟨rfl, (by repeat (first | (with_reducible exact Below.refl _ _) | (with_reducible refine balloc ?_ _) | (with_reducible refine Below.drew ?_) | (with_reducible refine bdrewN ?_ _) | ((with_reducible refine bset ?_ ?_ _); rotate_left; focus (first | (with_reducible exact Nat.le_refl _) | (simp; done) | (simp; omega) | omega)) | (with_reducible refine bstep (by with_reducible assumption) ?_)))⟩

theorem dn8_rnd {x : Int} (h0 : 0 ≤ x) (h1 : x ≤ 4294967295) : dn8 x = if 255 < rndP x 255 then 255 else rndP x 255 := by
  unfold dn8 rndP; split <;> split <;> (try split) <;> omega

set_option maxHeartbeats 400000 in
theorem divnorm_any (x : Int) (w : World) (h0 : 0 ≤ x) (h1 : x ≤ 4294967295) :
    Calls Try.prog 105 #[.int .i64 x] w fun e w' => e = .returned (.int .u8 (dn8 x)) ∧ Below w.heap.size w w' := by
  obtain ⟨n, Hn⟩ : ∃ n, Hid (rndP x 255 = n) := ⟨_, rfl⟩
  have hn := rnd_bd h0 h1 (y := 255) (by omega) (by omega)
  have HC := Lib.hid (fun w => divround_pos x 255 w h0 h1 (by omega) (by omega))
  have HE := Lib.hid (dn8_rnd h0 h1)
  rw [Hn.out] at hn HC HE
  rw [HE.out]
  clear HE Hn
  by_cases hc : 255 < n
  · rw [if_pos hc]
    go_enter Try.func105, Try.ntmps105
    go_wp2_with fail
    refine (HC.out _).mono ?_
    rintro e w1 ⟨rfl, hb1⟩
    go_wp2
    go_ret
    exact ⟨rfl, (by repeat (first | (with_reducible exact Below.refl _ _) | (with_reducible refine balloc ?_ _) | (with_reducible refine Below.drew ?_) | (with_reducible refine bdrewN ?_ _) | ((with_reducible refine bset ?_ ?_ _); rotate_left; focus (first | (with_reducible exact Nat.le_refl _) | (simp; done) | (simp; omega) | omega)) | (with_reducible refine bstep (by with_reducible assumption) ?_)))⟩
  · rw [if_neg hc]
    go_enter Try.func105, Try.ntmps105
    go_wp2_with fail
    refine (HC.out _).mono ?_
    rintro e w1 ⟨rfl, hb1⟩
    go_wp2
    go_ret
    exact ⟨rfl, (by repeat (first | (with_reducible exact Below.refl _ _) | (with_reducible refine balloc ?_ _) | (with_reducible refine Below.drew ?_) | (with_reducible refine bdrewN ?_ _) | ((with_reducible refine bset ?_ ?_ _); rotate_left; focus (first | (with_reducible exact Nat.le_refl _) | (simp; done) | (simp; omega) | omega)) | (with_reducible refine bstep (by with_reducible assumption) ?_)))⟩

set_option maxHeartbeats 400000 in
theorem rdivnorm_any (x : Int) (w : World) (h0 : -4294967295 ≤ x) (h1 : x ≤ 4294967295) :
    Calls Try.prog 111 #[.int .i64 x] w fun e w' => e = .returned (.int .u8 (dn8 x)) ∧ w = w' := by
  go_enter Try.func111, Try.ntmps111
  go_wp2
  all_goals
    go_ret
    exact ⟨ret_int (by unfold dn8; split <;> (try split) <;> omega), rfl⟩
end Go.Proofs.Ytnefnnhnjmmebaa
