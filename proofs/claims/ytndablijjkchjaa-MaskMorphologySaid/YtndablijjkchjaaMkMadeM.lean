/-
  The walk of mask.made with the function grisaille/mask.Multiply$1.
-/
import Derived.Test.YtndablijjkchjaaMkMade0
namespace Go.Proofs.Ytndablijjkchjaa
open Go.RowKit
set_option linter.unusedSimpArgs false
set_option linter.unusedVariables false

set_option maxHeartbeats 4000000 in
theorem mmade_M (r : Rc) (c0 : Nat) (g : Int → Int → Int) (w : World) (q : Rc) (Hq : Hid (canonR r = q))
    (hf : ∀ x y w', q.x0 ≤ x → x < q.x1 → q.y0 ≤ y → y < q.y1 → Below w.heap.size w w' → Calls Try.prog 50 #[.int .i64 x, .int .i64 y, .pointer (some ⟨c0, 0, none⟩)] w' fun e w'' => e = .returned (.int .u8 (g x y)) ∧ Below w'.heap.size w' w'') :
    Calls Try.prog 49 #[.agg #[.int .i64 r.x0, .int .i64 r.y0, .int .i64 r.x1, .int .i64 r.y1], .func (.func 50) #[] #[.pointer (some ⟨c0, 0, none⟩)]] w (RetM q (pixL g q) w) := by
  have HF := Lib.hid hf
  clear hf
  have hcb := canon_bd r
  rw [Hq.out] at hcb
  obtain ⟨⟨bx0, bx1, bx2⟩, ⟨by0, by1, by2⟩⟩ := hcb
  obtain ⟨wd, hwd⟩ : ∃ n : Nat, q.x1 - q.x0 = (n : Int) := ⟨(q.x1 - q.x0).toNat, by omega⟩
  obtain ⟨ht, hht⟩ : ∃ n : Nat, q.y1 - q.y0 = (n : Int) := ⟨(q.y1 - q.y0).toNat, by omega⟩
  have hw1 : q.x1 ≤ q.x0 + wd ∧ q.x0 + wd ≤ q.x1 := by omega
  have hh1 : q.y1 ≤ q.y0 + ht ∧ q.y0 + ht ≤ q.y1 := by omega
  have hPL : pixL g q = madeL g q.x0 q.y0 wd ht := by unfold pixL; rw [hwd, hht, Int.toNat_natCast, Int.toNat_natCast]
  rw [hPL]
  have hwl : wd ≤ 8192 := by omega
  have hhl : ht ≤ 8192 := by omega
  clear hwd hht hPL
  go_enter Try.func49, Try.ntmps49
  go_wp2_with fail
  refine (canon_q _ _ _ _ q Hq _).mono ?_
  rintro e w1 ⟨rfl, hb1⟩
  have kO1 : Bk w1 (w.heap.size + 1) 29 #[.int .i64 0, .int .i64 0, .int .i64 0, .int .i64 0, .slice none 0 0] := (by repeat (first | (with_reducible assumption) | ((with_reducible refine Bk.new _ _ _ ?_); first | (with_reducible rfl) | (simp; done)) | (with_reducible refine Bk.alloc ?_ _) | (with_reducible refine Bk.drew ?_) | (with_reducible refine Bk.drewN ?_ _) | ((with_reducible refine Bk.far ?_ ?_ _); rotate_left; focus (first | (simp; done) | (simp; omega))) | (with_reducible refine Bk.below ?_ (by with_reducible assumption))))
  have hB1 : Below w.heap.size w w1 := (by repeat (first | (with_reducible exact Below.refl _ _) | (with_reducible refine balloc ?_ _) | (with_reducible refine Below.drew ?_) | (with_reducible refine bdrewN ?_ _) | ((with_reducible refine bset ?_ ?_ _); rotate_left; focus (first | (with_reducible exact Nat.le_refl _) | (simp; done) | (simp; omega) | omega)) | (with_reducible refine bstep (by with_reducible assumption) ?_)))
  have hs1 : w.heap.size + 2 ≤ w1.heap.size := by have := kO1.lt; have h2 := hb1.size; simp at h2; omega
  clear hb1
  go_wp2_with fail
  go_loopw [6] (fun i wr => ∃ (j : Nat) (v : Value), j ≤ ht ∧ i = .int .i64 (q.y0 + j) ∧ Bk wr (w.heap.size + 1) 29 #[.int .i64 0, .int .i64 0, .int .i64 0, .int .i64 0, .slice none 0 0] ∧ Bk wr (w1.heap.size) 29 #[.int .i64 q.x0, .int .i64 q.y0, .int .i64 q.x1, .int .i64 q.y1, v] ∧ OwnL encB 5 1 wr (w.heap.size) v (madeL g q.x0 q.y0 wd j) ∧ Below w.heap.size w wr) (fun i _ => (q.y1 - intOf i).toNat)
  case atStart => exact ⟨0, _, Nat.zero_le _, by simp, kO1.alloc _, Bk.new _ _ _ rfl, OwnL.nil _ _, (by repeat (first | (with_reducible exact Below.refl _ _) | (with_reducible refine balloc ?_ _) | (with_reducible refine Below.drew ?_) | (with_reducible refine bdrewN ?_ _) | ((with_reducible refine bset ?_ ?_ _); rotate_left; focus (first | (with_reducible exact Nat.le_refl _) | (simp; done) | (simp; omega) | omega)) | (with_reducible refine bstep (by with_reducible assumption) ?_)))⟩
  case round =>
    obtain ⟨j, v, hj, rfl, jO, jB, ho, hbw⟩ := hrel
    obtain ⟨kcO, kfO, kaO, kgO, klO⟩ := jO.rules
    obtain ⟨kcB, kfB, kaB, kgB, klB⟩ := jB.rules
    by_cases hlt : q.y0 + j < q.y1
    · go_wp2_with fail
      clear kcO kfO kaO kgO kcB kfB kaB kgB
      go_loopw [7] (fun i wr => ∃ (k : Nat) (u : Value), k ≤ wd ∧ i = .int .i64 (q.x0 + k) ∧ Bk wr (w.heap.size + 1) 29 #[.int .i64 0, .int .i64 0, .int .i64 0, .int .i64 0, .slice none 0 0] ∧ Bk wr (w1.heap.size) 29 #[.int .i64 q.x0, .int .i64 q.y0, .int .i64 q.x1, .int .i64 q.y1, u] ∧ OwnL encB 5 1 wr (w.heap.size) u (madeL g q.x0 q.y0 wd j ++ rowL g q.x0 (q.y0 + j) k) ∧ Below w.heap.size w wr) (fun i _ => (q.x1 - intOf i).toNat)
      case atStart => exact ⟨0, v, Nat.zero_le _, by simp, jO, jB, by simpa [rowL] using ho, hbw⟩
      case round =>
        obtain ⟨k, u, hk, rfl, q0O, q0B, qu0, qB0⟩ := hrel
        obtain ⟨kcO, kfO, kaO, kgO, klO⟩ := q0O.rules
        obtain ⟨kcB, kfB, kaB, kgB, klB⟩ := q0B.rules
        by_cases hlx : q.x0 + k < q.x1
        · obtain ⟨p, Hp⟩ : ∃ p, Hid (g (q.x0 + k) (q.y0 + j) = p) := ⟨_, rfl⟩
          have hlen : (madeL g q.x0 q.y0 wd j ++ rowL g q.x0 (q.y0 + j) k).length ≤ 4294967296 := by
            rw [List.length_append, madeL_len, rowL_len]
            have : j * wd ≤ 8192 * 8192 := Nat.mul_le_mul (by omega) hwl
            omega
          have HC := Lib.hid (HF.out (q.x0 + k) (q.y0 + j) wr.drew (by omega) hlx (by omega) hlt qB0.drew)
          rw [Hp.out] at HC
          go_wp2_with fail
          clear kcO kfO kaO kgO kcB kfB kaB kgB
          have q1O := q0O.drew
          have q1B := q0B.drew
          have qu1 := qu0.drew
          have qB1 := qB0.drew
          refine wp_region_go 9 [(0, true), (1, true), (2, true), (3, true), (4, true), (5, false), (6, false), (7, false), (8, true)] (fun w' => Bk w' (w.heap.size + 1) 29 #[.int .i64 0, .int .i64 0, .int .i64 0, .int .i64 0, .slice none 0 0] ∧ Bk w' (w1.heap.size) 29 #[.int .i64 q.x0, .int .i64 q.y0, .int .i64 q.x1, .int .i64 q.y1, u]) (by kernel_rfl) (by kernel_rfl) (fun c a d v w h => by cases d <;> exact h) ⟨q1O, q1B⟩ ?_
          repeat (first | (refine wpGo_pure (v := ?_) rfl rfl (fun w' hS => ?_) ?_; rotate_left; (· obtain ⟨kc0, kf0, ka0, kg0, kl0⟩ := Bk.rules hS.1; obtain ⟨kc1, kf1, ka1, kg1, kl1⟩ := Bk.rules hS.2; go_simp; exact rfl); (try simp only [Act.put, List.setIfInBounds_toArray, List.set_cons_zero, List.set_cons_succ])) | ((refine wpGo_skip rfl rfl ?_); (try simp only [Act.put, List.setIfInBounds_toArray, List.set_cons_zero, List.set_cons_succ])))
          refine wpGo_eff rfl (fun K hK => ?_)
          go_simp
          refine (HC.out).mono ?_
          rintro e w11 ⟨rfl, hb11⟩
          have q2O := q1O.below hb11
          have q2B := q1B.below hb11
          have qu2 := qu1.below hb11
          have qB2 := bstep hb11 qB1
          refine hK.out _ _ ⟨q2O, q2B⟩ (fun _ => ?_)
          clear hK K
          refine wpGo_eff rfl (fun K hK => ?_)
          go_simp
          have q3O := q2O.alloc (.cells #[.int .u8 p] 5)
          have q3B := q2B.alloc (.cells #[.int .u8 p] 5)
          have qu3 := qu2.alloc (.cells #[.int .u8 p] 5)
          have qB3 := balloc qB2 (.cells #[.int .u8 p] 5)
          refine hK.out _ _ ⟨q3O, q3B⟩ (fun _ => ?_)
          clear hK K
          have hsz := qB3.size
          refine wpGo_effp rfl (fun K hK => ?_)
          refine wp_append_one encB_len encB_one 27 Try.infoU8 rfl (by decide) (by decide) Try.underlying27 _ _ rfl (w.heap.size) u _ rfl qu3 w11.heap.size p rfl (Bk.new _ _ _ rfl) rfl hlen (by simp at hsz ⊢; omega) ?_
          intro v5 w5 ho5 hg5 hv5
          have q4O := q3O.grown hg5 (qu3.neBk q3O (by decide))
          have q4B := q3B.grown hg5 (qu3.neBk q3B (by decide))
          have qu4 := ho5
          have qB4 := below_grown qu3 hg5 qB3 (by first | exact Nat.le_refl _ | omega)
          obtain ⟨g5, c5, hv5, _⟩ := hv5
          refine hK.out _ _ ⟨q4O, q4B⟩ (fun _ => ?_)
          clear hK K
          simp only [Act.put, List.setIfInBounds_toArray, List.set_cons_zero, List.set_cons_succ]
          repeat (first | (refine wpGo_pure (v := ?_) rfl rfl (fun w' hS => ?_) ?_; rotate_left; (· obtain ⟨kc0, kf0, ka0, kg0, kl0⟩ := Bk.rules hS.1; obtain ⟨kc1, kf1, ka1, kg1, kl1⟩ := Bk.rules hS.2; go_simp; exact rfl); (try simp only [Act.put, List.setIfInBounds_toArray, List.set_cons_zero, List.set_cons_succ])) | ((refine wpGo_skip rfl rfl ?_); (try simp only [Act.put, List.setIfInBounds_toArray, List.set_cons_zero, List.set_cons_succ])))
          refine wpGo_nil ?_
          simp only [List.drop_succ_cons, List.drop_zero]
          clear HC
          have HL : Hid (madeL g q.x0 q.y0 wd j ++ rowL g q.x0 (q.y0 + j) k ++ [p] = madeL g q.x0 q.y0 wd j ++ rowL g q.x0 (q.y0 + j) (k + 1)) := by
            unfold Hid; rw [rowL_succ, Hp.out, List.append_assoc]
          rw [HL.out] at qu4
          obtain ⟨kc5, kf5, ka5, kg5, kl5⟩ := q4B.rules
          have mB : Bk _ (w1.heap.size) 29 #[.int .i64 q.x0, .int .i64 q.y0, .int .i64 q.x1, .int .i64 q.y1, v5] := q4B.set 4 v5
          have mO := q4O.far (p := ⟨w1.heap.size, 4, none⟩) (show w.heap.size + 1 ≠ w1.heap.size by omega) v5
          have ho6 := qu4.setFar q4B (by decide) 4 v5
          have hB6 := bset qB4 (p := ⟨w1.heap.size, 4, none⟩) (show w.heap.size ≤ w1.heap.size by omega) v5
          clear HL q1O q1B q2O q2B q3O q3B q4O q4B qu1 qu2 qu3 qB1 qB2 qB3 qB4
          generalize (madeL g q.x0 q.y0 wd j ++ rowL g q.x0 (q.y0 + (j : Int)) k).length + 1 = n5 at hv5
          subst hv5
          go_wp2
          go_roundw
          case rel => exact ⟨k + 1, _, by omega, by rw [show q.x0 + (k : Int) + 1 = q.x0 + ((k + 1 : Nat) : Int) by omega], mO, mB, ho6, hB6⟩
          case measure => simp [intOf]; omega
        · obtain rfl : k = wd := by omega
          have hu' : OwnL encB 5 1 wr (w.heap.size) u (madeL g q.x0 q.y0 k (j + 1)) := by rw [madeL_succ]; exact qu0
          go_wp2
          go_roundw
          case rel => exact ⟨j + 1, u, by omega, by rw [show q.y0 + (j : Int) + 1 = q.y0 + ((j + 1 : Nat) : Int) by omega], q0O, q0B, hu', qB0⟩
          case measure => simp [intOf]; omega
    · obtain rfl : j = ht := by omega
      obtain ⟨kc', kf', ka', kg', kl'⟩ := jO.rules
      obtain ⟨A0, c0', hv0, _, _⟩ := ho.form encB_len
      generalize (madeL g q.x0 q.y0 wd j).length = n0 at hv0
      subst hv0
      have o1 := ho.setFar jO (by decide) 0 (.int .i64 q.x0)
      have m1 := jO.set 0 (.int .i64 q.x0)
      have o2 := o1.setFar m1 (by decide) 1 (.int .i64 q.y0)
      have m2 := m1.set 1 (.int .i64 q.y0)
      have o3 := o2.setFar m2 (by decide) 2 (.int .i64 q.x1)
      have m3 := m2.set 2 (.int .i64 q.x1)
      have o4 := o3.setFar m3 (by decide) 3 (.int .i64 q.y1)
      have m4 := m3.set 3 (.int .i64 q.y1)
      have o5 := o4.setFar m4 (by decide) 4 (.slice A0 n0 c0')
      clear o1 o2 o3 o4 m1 m2 m3 m4
      go_wp2
      refine bodyPost_ret (v := _) ?_ rfl ⟨_, rfl, o5, (by repeat (first | (with_reducible exact Below.refl _ _) | (with_reducible refine balloc ?_ _) | (with_reducible refine Below.drew ?_) | (with_reducible refine bdrewN ?_ _) | ((with_reducible refine bset ?_ ?_ _); rotate_left; focus (first | (with_reducible exact Nat.le_refl _) | (simp; done) | (simp; omega) | omega)) | (with_reducible refine bstep (by with_reducible assumption) ?_)))⟩
      simp [results, Try.results49, go_sem, kc']
end Go.Proofs.Ytndablijjkchjaa
