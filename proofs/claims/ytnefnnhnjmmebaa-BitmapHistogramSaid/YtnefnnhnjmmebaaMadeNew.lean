/-
  The walk of bitmap.made with the function 50.
-/
import Derived.Test.YtnefnnhnjmmebaaMade0
namespace Go.Proofs.Ytnefnnhnjmmebaa
open Go.RowKit
set_option linter.unusedSimpArgs false
set_option linter.unusedVariables false

set_option maxHeartbeats 4000000 in
theorem made_New (r : Rc) (c0 : Nat) (g : Int → Int → Px) (w : World) (q : Rc) (Hq : Hid (canonR r = q))
    (hf : ∀ x y w', q.x0 ≤ x → x < q.x1 → q.y0 ≤ y → y < q.y1 → Below w.heap.size w w' → Calls Try.prog 50 #[.int .i64 x, .int .i64 y, .pointer (some ⟨c0, 0, none⟩)] w' fun e w'' => e = .returned (.agg #[.int .u8 (g x y).r, .int .u8 (g x y).g, .int .u8 (g x y).b, .int .u8 (g x y).a]) ∧ Below w'.heap.size w' w'') :
    Calls Try.prog 49 #[.agg #[.int .i64 r.x0, .int .i64 r.y0, .int .i64 r.x1, .int .i64 r.y1], .func (.func 50) #[] #[.pointer (some ⟨c0, 0, none⟩)]] w (RetB q (pixL g q) w) := by
  have HF := Lib.hid hf
  clear hf
  have hcb := canon_bd r
  rw [Hq.out] at hcb
  obtain ⟨⟨bx0, bx1, bx2⟩, ⟨by0, by1, by2⟩⟩ := hcb
  obtain ⟨wd, hwd⟩ : ∃ n : Nat, q.x1 - q.x0 = (n : Int) := ⟨(q.x1 - q.x0).toNat, by omega⟩
  obtain ⟨ht, hht⟩ : ∃ n : Nat, q.y1 - q.y0 = (n : Int) := ⟨(q.y1 - q.y0).toNat, by omega⟩
  have hw1 : q.x1 ≤ q.x0 + wd ∧ q.x0 + wd ≤ q.x1 := by omega
  have hh1 : q.y1 ≤ q.y0 + ht ∧ q.y0 + ht ≤ q.y1 := by omega
  have hPL : pixL g q = madeL g q.x0 q.y0 wd ht := by unfold pixL; rw [hwd, hht, Int.toNat_natCast, Int.toNat_natCast]
  rw [hPL]
  have hwl : wd ≤ 8192 := by omega
  have hhl : ht ≤ 8192 := by omega
  clear hwd hht hPL
  go_enter Try.func49, Try.ntmps49
  go_wp2_with fail
  refine (canon_q _ _ _ _ q Hq _).mono ?_
  rintro e w1 ⟨rfl, hb1⟩
  have kO1 : Bk w1 (w.heap.size + 1) 28 #[.int .i64 0, .int .i64 0, .int .i64 0, .int .i64 0, .slice none 0 0] := (by repeat (first | (with_reducible assumption) | ((with_reducible refine Bk.new _ _ _ ?_); first | (with_reducible rfl) | (simp; done)) | (with_reducible refine Bk.alloc ?_ _) | (with_reducible refine Bk.drew ?_) | (with_reducible refine Bk.drewN ?_ _) | ((with_reducible refine Bk.far ?_ ?_ _); rotate_left; focus (first | (simp; done) | (simp; omega))) | (with_reducible refine Bk.below ?_ (by with_reducible assumption))))
  have hB1 : Below w.heap.size w w1 := (by repeat (first | (with_reducible exact Below.refl _ _) | (with_reducible refine balloc ?_ _) | (with_reducible refine Below.drew ?_) | (with_reducible refine bdrewN ?_ _) | ((with_reducible refine bset ?_ ?_ _); rotate_left; focus (first | (with_reducible exact Nat.le_refl _) | (simp; done) | (simp; omega) | omega)) | (with_reducible refine bstep (by with_reducible assumption) ?_)))
  have hs1 : w.heap.size + 2 ≤ w1.heap.size := by have := kO1.lt; have h2 := hb1.size; simp at h2; omega
  clear hb1
  go_wp2_with fail
  go_loopw [6] (fun i wr => ∃ (j : Nat) (v : Value), j ≤ ht ∧ i = .int .i64 (q.y0 + j) ∧ Bk wr w1.heap.size 28 #[.int .i64 q.x0, .int .i64 q.y0, .int .i64 q.x1, .int .i64 q.y1, v] ∧ Bk wr (w.heap.size + 1) 28 #[.int .i64 0, .int .i64 0, .int .i64 0, .int .i64 0, .slice none 0 0] ∧ OwnL encP 25 4 wr w.heap.size v (madeL g q.x0 q.y0 wd j) ∧ Below w.heap.size w wr) (fun i _ => (q.y1 - intOf i).toNat)
  case atStart => exact ⟨0, _, Nat.zero_le _, by simp, Bk.new _ _ _ rfl, kO1.alloc _, OwnL.nil _ _, (by repeat (first | (with_reducible exact Below.refl _ _) | (with_reducible refine balloc ?_ _) | (with_reducible refine Below.drew ?_) | (with_reducible refine bdrewN ?_ _) | ((with_reducible refine bset ?_ ?_ _); rotate_left; focus (first | (with_reducible exact Nat.le_refl _) | (simp; done) | (simp; omega) | omega)) | (with_reducible refine bstep (by with_reducible assumption) ?_)))⟩
  case round =>
    obtain ⟨j, v, hj, rfl, kB, kO, ho, hbw⟩ := hrel
    obtain ⟨kc, kf, ka, kg, kl⟩ := kB.rules
    by_cases hlt : q.y0 + j < q.y1
    · obtain ⟨wo, rfl⟩ : ∃ wo : World, wo = wr := ⟨_, rfl⟩
      go_wp2_with fail
      clear kc kf ka kg
      go_loopw [7] (fun i wr => ∃ (k : Nat) (u : Value), k ≤ wd ∧ i = .int .i64 (q.x0 + k) ∧ Bk wr w1.heap.size 28 #[.int .i64 q.x0, .int .i64 q.y0, .int .i64 q.x1, .int .i64 q.y1, u] ∧ Bk wr (w.heap.size + 1) 28 #[.int .i64 0, .int .i64 0, .int .i64 0, .int .i64 0, .slice none 0 0] ∧ OwnL encP 25 4 wr w.heap.size u (madeL g q.x0 q.y0 wd j ++ rowL g q.x0 (q.y0 + j) k) ∧ Below w.heap.size w wr) (fun i _ => (q.x1 - intOf i).toNat)
      case atStart => exact ⟨0, v, Nat.zero_le _, by simp, kB, kO, by simpa [rowL] using ho, hbw⟩
      case round =>
        obtain ⟨k, u, hk, rfl, jB, jO, hu, hbu⟩ := hrel
        obtain ⟨kc, kf, ka, kg, kl3⟩ := jB.rules
        by_cases hlx : q.x0 + k < q.x1
        · obtain ⟨p, Hp⟩ : ∃ p, Hid (g (q.x0 + k) (q.y0 + j) = p) := ⟨_, rfl⟩
          have HC := Lib.hid (HF.out (q.x0 + k) (q.y0 + j) wr.drew (by omega) hlx (by omega) hlt hbu.drew)
          rw [Hp.out] at HC
          have hlen : (madeL g q.x0 q.y0 wd j ++ rowL g q.x0 (q.y0 + j) k).length ≤ 4294967296 := by
            rw [List.length_append, madeL_len, rowL_len]
            have : j * wd ≤ 8192 * 8192 := Nat.mul_le_mul (by omega) hwl
            omega
          go_wp2_with fail
          refine wp_region_go 9 [(0, true), (1, true), (2, true), (3, true), (4, true), (5, false), (6, false), (7, false), (8, true)] (fun w' => Bk w' w1.heap.size 28 #[.int .i64 q.x0, .int .i64 q.y0, .int .i64 q.x1, .int .i64 q.y1, u]) (by kernel_rfl) (by kernel_rfl) (fun c a d v w h => by cases d <;> exact h) jB.drew ?_
          clear kc kf ka kg
          repeat (refine wpGo_pure (v := ?_) rfl rfl (fun w' hS => ?_) ?_; rotate_left; (· obtain ⟨kc, kf, ka, kg, kl⟩ := Bk.rules hS; go_simp; exact rfl); (try simp only [Act.put, List.setIfInBounds_toArray, List.set_cons_zero, List.set_cons_succ]))
          refine wpGo_eff rfl (fun K hK => ?_)
          go_simp
          refine HC.out.mono ?_
          rintro e w2 ⟨rfl, hb2⟩
          refine hK.out _ _ (jB.drew.below hb2) (fun _ => ?_)
          clear hK K
          refine wpGo_eff rfl (fun K hK => ?_)
          go_simp
          refine hK.out _ _ ((jB.drew.below hb2).alloc _) (fun _ => ?_)
          clear hK K
          have hu2 := (hu.drew.below hb2).alloc (.cells #[.int .u8 p.r, .int .u8 p.g, .int .u8 p.b, .int .u8 p.a] 25)
          have jB2 := (jB.drew.below hb2).alloc (.cells #[.int .u8 p.r, .int .u8 p.g, .int .u8 p.b, .int .u8 p.a] 25)
          have jO2 := (jO.drew.below hb2).alloc (.cells #[.int .u8 p.r, .int .u8 p.g, .int .u8 p.b, .int .u8 p.a] 25)
          have hB2 : Below w.heap.size w (w2.alloc (.cells #[.int .u8 p.r, .int .u8 p.g, .int .u8 p.b, .int .u8 p.a] 25)) := (by repeat (first | (with_reducible exact Below.refl _ _) | (with_reducible refine balloc ?_ _) | (with_reducible refine Below.drew ?_) | (with_reducible refine bdrewN ?_ _) | ((with_reducible refine bset ?_ ?_ _); rotate_left; focus (first | (with_reducible exact Nat.le_refl _) | (simp; done) | (simp; omega) | omega)) | (with_reducible refine bstep (by with_reducible assumption) ?_)))
          have hsz2 := hB2.size
          refine wpGo_effp rfl (fun K hK => ?_)
          refine wp_append_one encP_len encP_one 26 Try.infoPx rfl (by decide) (by decide) Try.underlying26 _ _ rfl w.heap.size u _ rfl hu2 w2.heap.size p rfl (Bk.new _ _ _ rfl) rfl hlen (by simp at hsz2 ⊢; omega) ?_
          intro v5 w5 ho5 hg5 hv5
          have jB5 := jB2.grown hg5 (hu2.neBk jB2 (by decide))
          have jO5 := jO2.grown hg5 (hu2.neBk jO2 (by decide))
          have hB5 := below_grown hu2 hg5 hB2 (Nat.le_refl _)
          obtain ⟨g5, c5, hv5, _⟩ := hv5
          refine hK.out _ _ jB5 (fun _ => ?_)
          clear hK K
          simp only [Act.put, List.setIfInBounds_toArray, List.set_cons_zero, List.set_cons_succ]
          repeat (refine wpGo_pure (v := ?_) rfl rfl (fun w' hS => ?_) ?_; rotate_left; (· obtain ⟨kc, kf, ka, kg, kl⟩ := Bk.rules hS; go_simp; exact rfl); (try simp only [Act.put, List.setIfInBounds_toArray, List.set_cons_zero, List.set_cons_succ]))
          refine wpGo_nil ?_
          simp only [List.drop_succ_cons, List.drop_zero]
          have HL : Hid (madeL g q.x0 q.y0 wd j ++ rowL g q.x0 (q.y0 + j) k ++ [p] = madeL g q.x0 q.y0 wd j ++ rowL g q.x0 (q.y0 + j) (k + 1)) := by
            unfold Hid; rw [rowL_succ, Hp.out, List.append_assoc]
          rw [HL.out] at ho5
          obtain ⟨kc5, kf5, ka5, kg5, kl5⟩ := jB5.rules
          have jB6 : Bk _ w1.heap.size 28 #[.int .i64 q.x0, .int .i64 q.y0, .int .i64 q.x1, .int .i64 q.y1, v5] := jB5.set 4 v5
          have jO6 := jO5.far (p := ⟨w1.heap.size, 4, none⟩) (show w.heap.size + 1 ≠ w1.heap.size by omega) v5
          have ho6 := ho5.setFar jB5 (by decide) 4 v5
          have hB6 := bset hB5 (p := ⟨w1.heap.size, 4, none⟩) (show w.heap.size ≤ w1.heap.size by omega) v5
          clear HC HL jB5 jO5 ho5 hB5 jB2 jO2 hu2 hB2 hsz2 hg5 hb2
          generalize (madeL g q.x0 q.y0 wd j ++ rowL g q.x0 (q.y0 + (j : Int)) k).length + 1 = n5 at hv5
          subst hv5
          go_wp2
          go_roundw
          case rel => exact ⟨k + 1, _, by omega, by rw [show q.x0 + (k : Int) + 1 = q.x0 + ((k + 1 : Nat) : Int) by omega], jB6, jO6, ho6, hB6⟩
          case measure => simp [intOf]; omega
        · obtain rfl : k = wd := by omega
          have hu' : OwnL encP 25 4 wr w.heap.size u (madeL g q.x0 q.y0 k (j + 1)) := by rw [madeL_succ]; exact hu
          go_wp2
          go_roundw
          case rel => exact ⟨j + 1, u, by omega, by rw [show q.y0 + (j : Int) + 1 = q.y0 + ((j + 1 : Nat) : Int) by omega], jB, jO, hu', hbu⟩
          case measure => simp [intOf]; omega
    · obtain rfl : j = ht := by omega
      obtain ⟨kc', kf', ka', kg', kl'⟩ := kO.rules
      obtain ⟨A0, c0, hv0, _, _⟩ := ho.form encP_len
      generalize (madeL g q.x0 q.y0 wd j).length = n0 at hv0
      subst hv0
      have nB : w.heap.size + 1 ≠ w1.heap.size := by omega
      have o1 := ho.setFar kO (by decide) 0 (.int .i64 q.x0)
      have m1 := kO.set 0 (.int .i64 q.x0)
      have o2 := o1.setFar m1 (by decide) 1 (.int .i64 q.y0)
      have m2 := m1.set 1 (.int .i64 q.y0)
      have o3 := o2.setFar m2 (by decide) 2 (.int .i64 q.x1)
      have m3 := m2.set 2 (.int .i64 q.x1)
      have o4 := o3.setFar m3 (by decide) 3 (.int .i64 q.y1)
      have m4 := m3.set 3 (.int .i64 q.y1)
      have o5 := o4.setFar m4 (by decide) 4 (.slice A0 n0 c0)
      clear o1 o2 o3 o4 m1 m2 m3 m4
      go_wp2
      refine bodyPost_ret (v := _) ?_ rfl ⟨_, rfl, o5, (by repeat (first | (with_reducible exact Below.refl _ _) | (with_reducible refine balloc ?_ _) | (with_reducible refine Below.drew ?_) | (with_reducible refine bdrewN ?_ _) | ((with_reducible refine bset ?_ ?_ _); rotate_left; focus (first | (with_reducible exact Nat.le_refl _) | (simp; done) | (simp; omega) | omega)) | (with_reducible refine bstep (by with_reducible assumption) ?_)))⟩
      simp [results, Try.results49, go_sem, kc']
end Go.Proofs.Ytnefnnhnjmmebaa
