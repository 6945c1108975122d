/-
  The closures of extreme.
-/
import Derived.Test.YtndablijjkchjaaExtP
import Derived.Test.YtndablijjkchjaaMkClone
import Derived.Test.YtndablijjkchjaaMkP
namespace Go.Proofs.Ytndablijjkchjaa
open Go.RowKit
set_option linter.unusedSimpArgs false
set_option linter.unusedVariables false

set_option maxHeartbeats 800000 in
theorem rowat_any (cR g o cnt c' i : Nat) (v : Int) (w : World) (hb : Bk w cR 27 #[.slice (some ⟨g, o, none⟩) cnt c']) (hi : i < cnt) (hcnt : cnt ≤ 67108864) (hc : w.cell? ⟨g, o + i, none⟩ = some (.int .u8 v)) :
    Calls Try.prog 93 #[.int .i64 (i : Int), .pointer (some ⟨cR, 0, none⟩)] w fun e w' => e = .returned (.int .u8 v) ∧ Below w.heap.size w w' := by
  obtain ⟨kc, kf, ka, kg, kl⟩ := hb.rules
  have i0 : (0 : Int) ≤ (i : Int) := by omega
  have i1 : (i : Int) < (cnt : Int) := by omega
  go_enter Try.func93, Try.ntmps93
  go_wp2
  go_ret
  exact ⟨rfl, (by repeat (first | (with_reducible exact Below.refl _ _) | (with_reducible refine balloc ?_ _) | (with_reducible refine Below.drew ?_) | (with_reducible refine bdrewN ?_ _) | ((with_reducible refine bset ?_ ?_ _); rotate_left; focus (first | (with_reducible exact Nat.le_refl _) | (simp; done) | (simp; omega) | omega)) | (with_reducible refine bstep (by with_reducible assumption) ?_)))⟩
set_option maxHeartbeats 800000 in
theorem colat_any (cG cX g wd ht n c i x : Nat) (v : Int) (w : World) (hb : Bk w cG 70 #[.int .i64 (wd : Int), .int .i64 (ht : Int), .slice (some ⟨g, 0, none⟩) n c]) (hx : Bk w cX 3 #[.int .i64 (x : Int)]) (hi : i * wd + x < n) (hn : n ≤ 67108864) (hc : w.cell? ⟨g, i * wd + x, none⟩ = some (.int .u8 v)) :
    Calls Try.prog 94 #[.int .i64 (i : Int), .pointer (some ⟨cG, 0, none⟩), .pointer (some ⟨cX, 0, none⟩)] w fun e w' => e = .returned (.int .u8 v) ∧ Below w.heap.size w w' := by
  obtain ⟨kc, kf, ka, kg, kl⟩ := hb.rules
  obtain ⟨kc2, kf2, ka2, kg2, kl2⟩ := hx.rules
  have f1 : (i : Int) * (wd : Int) + (x : Int) = ((i * wd + x : Nat) : Int) := by simp
  have b1 : 0 ≤ (i : Int) * (wd : Int) := Int.mul_nonneg (by omega) (by omega)
  generalize i * wd + x = k at *
  have i0 : (0 : Int) ≤ (k : Int) := by omega
  have i1 : (k : Int) < (n : Int) := by omega
  go_enter Try.func94, Try.ntmps94
  go_wp2
  go_ret
  exact ⟨rfl, (by repeat (first | (with_reducible exact Below.refl _ _) | (with_reducible refine balloc ?_ _) | (with_reducible refine Below.drew ?_) | (with_reducible refine bdrewN ?_ _) | ((with_reducible refine bset ?_ ?_ _); rotate_left; focus (first | (with_reducible exact Nat.le_refl _) | (simp; done) | (simp; omega) | omega)) | (with_reducible refine bstep (by with_reducible assumption) ?_)))⟩
theorem gF_at {wd ht : Nat} {m : List Int} (hm : m.length = ht * wd) {i y : Nat} (hi : i < wd) (hy : y < ht) : m[y * wd + i]? = some (gF wd m i y) := by
  have := idx_lt hi hy
  unfold gF; rw [List.getD_eq_getElem?_getD, List.getElem?_eq_getElem (by omega)]; rfl
theorem own_cell {w : World} {base g n c k : Nat} {v : Int} {m : List Int} (h : OwnL encB 5 1 w base (.slice (some ⟨g, 0, none⟩) n c) m) (hk : m[k]? = some v) : w.cell? ⟨g, k, none⟩ = some (.int .u8 v) := by
  obtain ⟨hlt, he⟩ := List.getElem?_eq_some_iff.1 hk
  obtain ⟨A, c0, hv, hr, _⟩ := h.form encB_len
  injection hv with h1 h2 h3
  obtain ⟨g', o', hA, _, hc⟩ := rd1 hr hlt
  rw [← h1] at hA
  injection hA with hA
  injection hA with e1 e2
  subst e1 e2
  rw [Nat.zero_add, he] at hc
  exact hc
theorem own_lt {w : World} {base g n c : Nat} {m : List Int} (h : OwnL encB 5 1 w base (.slice (some ⟨g, 0, none⟩) n c) m) (hm : m ≠ []) : base ≤ g ∧ g < w.heap.size ∧ m.length = n ∧ n ≤ c ∧ c ≤ maxLen ∧ ∀ o, w.frozen? ⟨g, o, none⟩ = false := by
  obtain ⟨g', cap, cur, hv, h1, h2, h3, h4, _⟩ := h.block hm
  injection hv with e1 e2 e3
  injection e1 with e1
  injection e1 with e1
  subst e1 e3
  exact ⟨h1, h2.lt, e2.symm, by omega, h4, h2.rules.2.1⟩
end Go.Proofs.Ytndablijjkchjaa
