/-
  grisaillelaw09.containing counts the rectangles that contain a pixel.
-/
import Derived.Test.YtiaeaegocfmjhaaEx09
namespace Go.Proofs.Ytiaeaegocfmjhaa
open Go.RowKit
set_option linter.unusedSimpArgs false
set_option linter.unusedVariables false
def countC (l : List Rc) (x y : Int) : Nat := l.countP fun r => containsB r x y
theorem countC_len (l : List Rc) (x y : Int) : countC l x y ≤ l.length := List.countP_le_length
theorem countC_succ (l : List Rc) (x y : Int) {k : Nat} (hk : k < l.length) : countC (l.take (k + 1)) x y = countC (l.take k) x y + if containsB l[k] x y = true then 1 else 0 := by
  unfold countC
  rw [List.take_succ_eq_append_getElem hk, List.countP_append, List.countP_singleton]
set_option maxHeartbeats 800000 in
theorem containing_any (A : Option Addr) (n c : Nat) (l : List Rc) (x y : Int) (hl : l.length = n) (hn : n ≤ 67108864) (w : World) (hr : RdL encR 4 w A l) :
    Calls Try.prog 39 #[.slice A n c, .int .i64 x, .int .i64 y] w fun e w' => e = .returned (.int .i64 (countC l x y : Int)) ∧ Below w.heap.size w w' := by
  have HA := Lib.hid hr
  have HL := Lib.hid hl
  clear hr hl
  obtain ⟨C, HC⟩ : ∃ C : Nat, Hid (countC l x y = C) := ⟨_, rfl⟩
  rw [HC.out]
  go_enter Try.func39, Try.ntmps39
  go_wp2
  go_loopw [7, 8, 11] (fun m u i wr => ∃ k : Nat, k ≤ n ∧ i = .int .i64 k ∧ m = .int .i64 (countC (l.take k) x y : Int) ∧ Below w.heap.size w wr) (fun _ _ i _ => n - (intOf i).toNat)
  case atStart => exact ⟨0, Nat.zero_le _, rfl, rfl, Below.refl _ _⟩
  case round =>
    obtain ⟨k, hk, rfl, rfl, hbw⟩ := hrel
    by_cases hlt : k < n
    · have hkl : k < l.length := by have := HL.out; omega
      obtain ⟨g, o, rfl, hg, hc⟩ := rd4 (HA.out.below hbw) hkl
      have HS := Lib.hid (countC_succ l x y hkl)
      obtain ⟨p, Hp⟩ : ∃ p, Hid (l[k] = p) := ⟨l[k], rfl⟩
      rw [Hp.out] at hc HS
      obtain ⟨c0, c1, c2, c3⟩ := hc
      obtain ⟨v, Hv⟩ : ∃ v, Hid (containsB ⟨p.x0, p.y0, p.x1, p.y1⟩ x y = v) := ⟨_, rfl⟩
      have hcl : countC (l.take k) x y ≤ k := Nat.le_trans (countC_len _ _ _) (List.length_take_le _ _)
      obtain ⟨C1, HC1⟩ : ∃ C1, Hid (countC (l.take k) x y = C1) := ⟨_, rfl⟩
      rw [HC1.out] at hcl HS ⊢
      have i0 : (0 : Int) ≤ (k : Int) := by omega
      clear hkl Hp
      go_wp2_with fail
      refine (contains_q _ _ _ _ _ _ v Hv _).mono ?_
      rintro e w4 ⟨rfl, hb4⟩
      cases v
      · have HS' : Hid (countC (l.take (k + 1)) x y = C1) := by unfold Hid; rw [HS.out, if_neg (by rw [show containsB p x y = false from Hv.out]; simp)]; rfl
        clear HS Hv
        go_wp2
        go_roundw
        case rel => exact ⟨k + 1, by omega, by go_num, by rw [HS'.out], (by repeat (first | (with_reducible exact Below.refl _ _) | (with_reducible refine balloc ?_ _) | (with_reducible refine Below.drew ?_) | (with_reducible refine bdrewN ?_ _) | ((with_reducible refine bset ?_ ?_ _); rotate_left; focus (first | (with_reducible exact Nat.le_refl _) | (simp; done) | (simp; omega) | omega)) | (with_reducible refine bstep (by with_reducible assumption) ?_)))⟩
        case measure => simp [intOf]; omega
      · have HS' : Hid (countC (l.take (k + 1)) x y = C1 + 1) := by unfold Hid; rw [HS.out, if_pos (show containsB p x y = true from Hv.out)]
        clear HS Hv
        go_wp2
        go_roundw
        case rel => exact ⟨k + 1, by omega, by go_num, by rw [HS'.out]; go_num, (by repeat (first | (with_reducible exact Below.refl _ _) | (with_reducible refine balloc ?_ _) | (with_reducible refine Below.drew ?_) | (with_reducible refine bdrewN ?_ _) | ((with_reducible refine bset ?_ ?_ _); rotate_left; focus (first | (with_reducible exact Nat.le_refl _) | (simp; done) | (simp; omega) | omega)) | (with_reducible refine bstep (by with_reducible assumption) ?_)))⟩
        case measure => simp [intOf]; omega
    · have HE : Hid (l.take k = l) := List.take_of_length_le (by have := HL.out; omega)
      rw [HE.out, HC.out]
      go_wp2
      go_ret
      exact ⟨rfl, hbw⟩
end Go.Proofs.Ytiaeaegocfmjhaa
