/-
  The walk of bitmap.Crop.
-/
import Derived.Test.YtnefnnhnjmmebaaRowP
import Derived.Test.YtnefnnhnjmmebaaBm3
namespace Go.Proofs.Ytnefnnhnjmmebaa
open Go.RowKit
set_option linter.unusedSimpArgs false
set_option linter.unusedVariables false


set_option maxHeartbeats 6400000 in
theorem bcrop_any (b : Bm) (r : Rc) (w : World) (hb : b.ok w) (hnb : b.n ≤ 4000000000) :
    Calls Try.prog 41 #[.agg #[.int .i64 b.r.x0, .int .i64 b.r.y0, .int .i64 b.r.x1, .int .i64 b.r.y1, .slice b.A b.n b.c], .agg #[.int .i64 r.x0, .int .i64 r.y0, .int .i64 r.x1, .int .i64 r.y1]] w (RetBE (crR b r) (crL b r) (crE b) w) := by
  have HB := Lib.hid hb
  clear hb
  cases vb : bmValid b.r b.l with
  | false =>
    have Hvb := Lib.hid vb
    have e1 : crR b r = ⟨0, 0, 0, 0⟩ := by unfold crR; rw [vb]; rfl
    have e2 : crL b r = [] := by unfold crL; rw [vb]; rfl
    have e3 : crE b = 15 := by unfold crE; rw [vb]; rfl
    rw [e1, e2, e3]
    clear e1 e2 e3 vb
    go_enter Try.func41, Try.ntmps41
    go_wp2_with fail
    refine (bvalid_any b.r b.A b.n b.c b.l _ (HB.out.rd.below (by repeat (first | (with_reducible exact Below.refl _ _) | (with_reducible refine balloc ?_ _) | (with_reducible refine Below.drew ?_) | (with_reducible refine bdrewN ?_ _) | ((with_reducible refine bset ?_ ?_ _); rotate_left; focus (first | (with_reducible exact Nat.le_refl _) | (simp; done) | (simp; omega) | omega)) | (with_reducible refine bstep (by with_reducible assumption) ?_)))) HB.out.ln hnb false Hvb).mono ?_
    rintro e w1 ⟨rfl, hb1⟩
    have kO1 : Bk w1 (w.heap.size + 1 + 1) 28 #[.int .i64 0, .int .i64 0, .int .i64 0, .int .i64 0, .slice none 0 0] := (by repeat (first | (with_reducible assumption) | ((with_reducible refine Bk.new _ _ _ ?_); first | (with_reducible rfl) | (simp; done)) | (with_reducible refine Bk.alloc ?_ _) | (with_reducible refine Bk.drew ?_) | (with_reducible refine Bk.drewN ?_ _) | ((with_reducible refine Bk.far ?_ ?_ _); rotate_left; focus (first | (simp; done) | (simp; omega))) | (with_reducible refine Bk.below ?_ (by with_reducible assumption)))); obtain ⟨kcO1, kfO1, kaO1, kgO1, klO1⟩ := kO1.rules
    go_wp2
    refine bodyPost_ret (v := _) ?_ rfl (RetBE.no 15 (by repeat (first | (with_reducible exact Below.refl _ _) | (with_reducible refine balloc ?_ _) | (with_reducible refine Below.drew ?_) | (with_reducible refine bdrewN ?_ _) | ((with_reducible refine bset ?_ ?_ _); rotate_left; focus (first | (with_reducible exact Nat.le_refl _) | (simp; done) | (simp; omega) | omega)) | (with_reducible refine bstep (by with_reducible assumption) ?_))))
    simp [results, Try.results41, go_sem, kcO1]
  | true =>
    have Hvb := Lib.hid vb
    obtain ⟨q, Hq⟩ : ∃ q, Hid (interR b.r r = q) := ⟨_, rfl⟩
    obtain ⟨g0, Hg0⟩ : ∃ g, Hid (atL zP b.r b.l = g) := ⟨_, rfl⟩
    have e1 : crR b r = q := by unfold crR; rw [vb]; exact Hq.out
    have e2 : crL b r = pixL g0 q := by unfold crL; rw [vb, Hq.out, Hg0.out]; rfl
    have e3 : crE b = 0 := by unfold crE; rw [vb]; rfl
    rw [e1, e2, e3]
    obtain ⟨hbc, hbl, _, _⟩ := valid_cn vb
    have hcb := canon_bd q
    rw [show canonR q = q by rw [← Hq.out]; exact inter_cn _ _] at hcb
    obtain ⟨⟨bx0, bx1, bx2⟩, ⟨by0, by1, by2⟩⟩ := hcb
    obtain ⟨wd, hwd⟩ : ∃ n : Nat, q.x1 - q.x0 = (n : Int) := ⟨(q.x1 - q.x0).toNat, by omega⟩
    obtain ⟨ht, hht⟩ : ∃ n : Nat, q.y1 - q.y0 = (n : Int) := ⟨(q.y1 - q.y0).toNat, by omega⟩
    have hPL : pixL g0 q = madeL g0 q.x0 q.y0 wd ht := by unfold pixL; rw [hwd, hht, Int.toNat_natCast, Int.toNat_natCast]
    rw [hPL]
    have hwl : wd ≤ 8192 := by omega
    have hhl : ht ≤ 8192 := by omega
    have hw1 : q.x1 ≤ q.x0 + wd ∧ q.x0 + wd ≤ q.x1 := by omega
    have hh1 : q.y1 ≤ q.y0 + ht ∧ q.y0 + ht ≤ q.y1 := by omega
    have hnc := HB.out.le
    have hcm := HB.out.mx
    unfold maxLen at hcm
    have HROW : Hid (∀ j : Nat, j < ht → ∃ k : Nat, pixR b.r q.x0 (q.y0 + j) = (k : Int) ∧ k + wd ≤ b.n ∧ (b.l.drop k).take wd = rowL g0 q.x0 (q.y0 + j) wd ∧ b.l ≠ [] ∧ 0 < wd) := fun j hj => by
      have hqf : emptyB q = false := by
        cases he : emptyB q with
        | false => rfl
        | true =>
          have : q = ⟨0, 0, 0, 0⟩ := by rw [show q = canonR q by rw [← Hq.out]; exact (inter_cn _ _).symm, canon_of_empty he]
          rw [this] at hht; simp at hht; omega
      obtain ⟨i1, i2, i3⟩ := inter_full (show emptyB (interR b.r r) = false by rw [Hq.out]; exact hqf)
      rw [Hq.out] at i3
      have hqq := (emptyB_iff q).1 hqf
      have x0 : q.x0 = max b.r.x0 r.x0 := by rw [i3]
      have x1 : q.x1 = min b.r.x1 r.x1 := by rw [i3]
      have y0 : q.y0 = max b.r.y0 r.y0 := by rw [i3]
      have y1 : q.y1 = min b.r.y1 r.y1 := by rw [i3]
      obtain ⟨k, k1, k2, k3⟩ := row_of (z := zP) hbc hbl hqf (by omega) (by omega) (y := q.y0 + j) (by omega) (by omega) hwd
      have h4 := HB.out.ln
      refine ⟨k, k1, by omega, by rw [k3, Hg0.out], fun h => ?_, by omega⟩
      rw [h] at k2; simp at k2; omega
    clear hht hPL e1 e2 e3 vb hbc hbl
    have Hq' : Hid (interR ⟨b.r.x0, b.r.y0, b.r.x1, b.r.y1⟩ ⟨r.x0, r.y0, r.x1, r.y1⟩ = q) := Hq.out
    go_enter Try.func41, Try.ntmps41
    go_wp2_with fail
    refine (bvalid_any b.r b.A b.n b.c b.l _ (HB.out.rd.below (by repeat (first | (with_reducible exact Below.refl _ _) | (with_reducible refine balloc ?_ _) | (with_reducible refine Below.drew ?_) | (with_reducible refine bdrewN ?_ _) | ((with_reducible refine bset ?_ ?_ _); rotate_left; focus (first | (with_reducible exact Nat.le_refl _) | (simp; done) | (simp; omega) | omega)) | (with_reducible refine bstep (by with_reducible assumption) ?_)))) HB.out.ln hnb true Hvb).mono ?_
    rintro e w1 ⟨rfl, hb1⟩
    have kC1 : Bk w1 (w.heap.size) 28 #[.int .i64 b.r.x0, .int .i64 b.r.y0, .int .i64 b.r.x1, .int .i64 b.r.y1, .slice b.A b.n b.c] := (by repeat (first | (with_reducible assumption) | ((with_reducible refine Bk.new _ _ _ ?_); first | (with_reducible rfl) | (simp; done)) | (with_reducible refine Bk.alloc ?_ _) | (with_reducible refine Bk.drew ?_) | (with_reducible refine Bk.drewN ?_ _) | ((with_reducible refine Bk.far ?_ ?_ _); rotate_left; focus (first | (simp; done) | (simp; omega))) | (with_reducible refine Bk.below ?_ (by with_reducible assumption)))); obtain ⟨kcC1, kfC1, kaC1, kgC1, klC1⟩ := kC1.rules; have kQ1 : Bk w1 (w.heap.size + 1) 23 #[.int .i64 r.x0, .int .i64 r.y0, .int .i64 r.x1, .int .i64 r.y1] := (by repeat (first | (with_reducible assumption) | ((with_reducible refine Bk.new _ _ _ ?_); first | (with_reducible rfl) | (simp; done)) | (with_reducible refine Bk.alloc ?_ _) | (with_reducible refine Bk.drew ?_) | (with_reducible refine Bk.drewN ?_ _) | ((with_reducible refine Bk.far ?_ ?_ _); rotate_left; focus (first | (simp; done) | (simp; omega))) | (with_reducible refine Bk.below ?_ (by with_reducible assumption)))); obtain ⟨kcQ1, kfQ1, kaQ1, kgQ1, klQ1⟩ := kQ1.rules; have kO1 : Bk w1 (w.heap.size + 1 + 1) 28 #[.int .i64 0, .int .i64 0, .int .i64 0, .int .i64 0, .slice none 0 0] := (by repeat (first | (with_reducible assumption) | ((with_reducible refine Bk.new _ _ _ ?_); first | (with_reducible rfl) | (simp; done)) | (with_reducible refine Bk.alloc ?_ _) | (with_reducible refine Bk.drew ?_) | (with_reducible refine Bk.drewN ?_ _) | ((with_reducible refine Bk.far ?_ ?_ _); rotate_left; focus (first | (simp; done) | (simp; omega))) | (with_reducible refine Bk.below ?_ (by with_reducible assumption)))); obtain ⟨kcO1, kfO1, kaO1, kgO1, klO1⟩ := kO1.rules
    have hB1 : Below w.heap.size w w1 := (by repeat (first | (with_reducible exact Below.refl _ _) | (with_reducible refine balloc ?_ _) | (with_reducible refine Below.drew ?_) | (with_reducible refine bdrewN ?_ _) | ((with_reducible refine bset ?_ ?_ _); rotate_left; focus (first | (with_reducible exact Nat.le_refl _) | (simp; done) | (simp; omega) | omega)) | (with_reducible refine bstep (by with_reducible assumption) ?_)))
    go_wp2_with fail
    refine (inter_q _ _ _ _ _ _ _ _ q Hq' _).mono ?_
    rintro e w2 ⟨rfl, hb2⟩
    have kC2 := kC1.below hb2
    have kO2 := kO1.below hb2
    have hB2 : Below w.heap.size w w2 := bstep hb2 hB1
    have sCO : w.heap.size + 1 + 1 < w2.heap.size := kO2.lt
    clear kcC1 kfC1 kaC1 kgC1 kcQ1 kfQ1 kaQ1 kgQ1 kcO1 kfO1 kaO1 kgO1
    go_wp2_with fail
    go_loopw [8] (fun i wr => ∃ (j : Nat) (v : Value), j ≤ ht ∧ i = .int .i64 (q.y0 + j) ∧ Bk wr (w.heap.size) 28 #[.int .i64 b.r.x0, .int .i64 b.r.y0, .int .i64 b.r.x1, .int .i64 b.r.y1, .slice b.A b.n b.c] ∧ Bk wr (w.heap.size + 1 + 1) 28 #[.int .i64 0, .int .i64 0, .int .i64 0, .int .i64 0, .slice none 0 0] ∧ Bk wr (w2.heap.size) 28 #[.int .i64 q.x0, .int .i64 q.y0, .int .i64 q.x1, .int .i64 q.y1, v] ∧ OwnL encP 25 4 wr w.heap.size v (madeL g0 q.x0 q.y0 wd j) ∧ Below w.heap.size w wr) (fun i _ => (q.y1 - intOf i).toNat)
    case atStart => exact ⟨0, _, Nat.zero_le _, by simp, kC2.alloc _, kO2.alloc _, Bk.new _ _ _ rfl, OwnL.nil _ _, balloc hB2 _⟩
    case round =>
      obtain ⟨j, v, hj, rfl, jC, jO, jG, ho, hbw⟩ := hrel
      obtain ⟨kcC, kfC, kaC, kgC, klC⟩ := jC.rules
      obtain ⟨kcG, kfG, kaG, kgG, klG⟩ := jG.rules
      by_cases hlt : q.y0 + j < q.y1
      · obtain ⟨k, hpk, hkn, hrow, hne, hw0⟩ := HROW.out j (by omega)
        have HP := Lib.hid (pix_any b.r.x0 b.r.y0 b.r.x1 b.r.y1 q.x0 (q.y0 + j))
        have hpk' : pixR ⟨b.r.x0, b.r.y0, b.r.x1, b.r.y1⟩ q.x0 (q.y0 + j) = (k : Int) := hpk
        rw [hpk'] at HP
        clear hpk hpk'
        go_wp2_with fail
        refine (HP.out _).mono ?_
        rintro e w3 ⟨rfl, hb3⟩
        have lC := jC.below hb3
        have lO := jO.below hb3
        have lG := jG.below hb3
        have lo := ho.below hb3
        have hB3 : Below w.heap.size w w3 := bstep hb3 hbw
        clear kcC kfC kaC kgC kcG kfG kaG kgG
        obtain ⟨ga, oa, hA, hga, _⟩ := HB.out.rd hne
        have hrd : RdL encP 4 w3 (some ⟨ga, oa + k * 4, none⟩) ((b.l.drop k).take wd) := by
          have h := HB.out.rd.below hB3
          rw [hA] at h
          exact (h.drop k).take wd
        rw [hrow] at hrd
        have HRD := Lib.hid hrd
        have hwk : IntKind.i64.wrap ((k : Int) + (wd : Int)) = (k : Int) + (wd : Int) := IntWalk.i64_in _ (by omega)
        have i0 : (0 : Int) ≤ (k : Int) + (wd : Int) := by omega
        have i1 : max ((k : Int) + (wd : Int)) 0 = (k : Int) + (wd : Int) := by omega
        have i2 : (k : Int) + (wd : Int) ≤ (b.c : Int) := by omega
        have i3 : ((k : Int) + (wd : Int)).toNat = k + wd := by omega
        have i4 : ¬ (wd = 0) := by omega
        clear hrd hrow hne
        have HAA := Lib.hid hA
        rw [hA] at lC
        clear hA
        have hlen : (madeL g0 q.x0 q.y0 wd j).length + wd ≤ 4294967296 := by
          rw [madeL_len]
          have : j * wd ≤ 8192 * 8192 := Nat.mul_le_mul (by omega) hwl
          omega
        have hsz3 := hB3.size
        have lo' := lo.drew
        go_wp2_with fail
        refine wp_region_go 14 [(0, true), (1, true), (2, true), (3, true), (4, true), (5, true), (6, true), (7, true), (8, true), (9, true), (10, true), (11, true), (12, false), (13, true)] (fun w' => Bk w' (w.heap.size) 28 #[.int .i64 b.r.x0, .int .i64 b.r.y0, .int .i64 b.r.x1, .int .i64 b.r.y1, .slice (some ⟨ga, oa, none⟩) b.n b.c] ∧ Bk w' (w2.heap.size) 28 #[.int .i64 q.x0, .int .i64 q.y0, .int .i64 q.x1, .int .i64 q.y1, v] ∧ Below w.heap.size w w') (by kernel_rfl) (by kernel_rfl) (fun c a d v w h => by cases d <;> exact h) ⟨lC.drew, lG.drew, hB3.drew⟩ ?_
        repeat (refine wpGo_pure (v := ?_) rfl rfl (fun w' hS => ?_) ?_; rotate_left; (· obtain ⟨kc0, kf0, ka0, kg0, kl0⟩ := Bk.rules hS.1; obtain ⟨kc1, kf1, ka1, kg1, kl1⟩ := Bk.rules hS.2.1; go_simp; exact rfl); (try simp only [Act.put, List.setIfInBounds_toArray, List.set_cons_zero, List.set_cons_succ]))
        refine wpGo_effp rfl (fun K hK => ?_)
        refine wp_append_rd encP_len encP_one 26 Try.infoPx rfl (by decide) (by decide) Try.underlying26 _ _ rfl w.heap.size v _ rfl lo' (some ⟨ga, oa + k * 4, none⟩) wd wd _ (by first | rfl | simp) (rowL_len _ _ _ _) HRD.out hlen hsz3 ?_
        intro v5 w5 ho5 hg5
        have jC5 := lC.drew.grown hg5 (lo'.neBk lC.drew (by decide))
        have jO5 := lO.drew.grown hg5 (lo'.neBk lO.drew (by decide))
        have jG5 := lG.drew.grown hg5 (lo'.neBk lG.drew (by decide))
        have hB5 := below_grown lo' hg5 hB3.drew (Nat.le_refl _)
        refine hK.out _ _ ⟨jC5, jG5, hB5⟩ (fun _ => ?_)
        clear hK K
        simp only [Act.put, List.setIfInBounds_toArray, List.set_cons_zero, List.set_cons_succ]
        repeat (refine wpGo_pure (v := ?_) rfl rfl (fun w' hS => ?_) ?_; rotate_left; (· obtain ⟨kc0, kf0, ka0, kg0, kl0⟩ := Bk.rules hS.1; obtain ⟨kc1, kf1, ka1, kg1, kl1⟩ := Bk.rules hS.2.1; go_simp; exact rfl); (try simp only [Act.put, List.setIfInBounds_toArray, List.set_cons_zero, List.set_cons_succ]))
        refine wpGo_nil ?_
        simp only [List.drop_succ_cons, List.drop_zero]
        rw [← madeL_succ] at ho5
        obtain ⟨A5, c5, hv5, _, _⟩ := ho5.form encP_len
        generalize (madeL g0 q.x0 q.y0 wd (j + 1)).length = n5 at hv5
        subst hv5
        obtain ⟨kc5, kf5, ka5, kg5, kl5⟩ := jG5.rules
        have jG6 : Bk _ (w2.heap.size) 28 #[.int .i64 q.x0, .int .i64 q.y0, .int .i64 q.x1, .int .i64 q.y1, .slice A5 n5 c5] := jG5.set 4 (.slice A5 n5 c5)
        rw [← HAA.out] at jC5
        have jC6 := jC5.far (p := ⟨w2.heap.size, 4, none⟩) (show w.heap.size ≠ w2.heap.size by omega) (.slice A5 n5 c5)
        have jO6 := jO5.far (p := ⟨w2.heap.size, 4, none⟩) (show w.heap.size + 1 + 1 ≠ w2.heap.size by omega) (.slice A5 n5 c5)
        have ho6 := ho5.setFar jG5 (by decide) 4 (.slice A5 n5 c5)
        have hB6 := bset hB5 (p := ⟨w2.heap.size, 4, none⟩) (show w.heap.size ≤ w2.heap.size by omega) (.slice A5 n5 c5)
        clear hg5 lo' lo jG5 jC5 jO5 hB5 ho5 lC lO lG hsz3 hB3 hwk i1 i3
        go_wp2
        go_roundw
        case rel => exact ⟨j + 1, _, by omega, by rw [show q.y0 + (j : Int) + 1 = q.y0 + ((j + 1 : Nat) : Int) by omega], jC6, jO6, jG6, ho6, hB6⟩
        case measure => simp [intOf]; omega
      · obtain rfl : ht = j := by omega
        obtain ⟨kcO, kfO, kaO, kgO, klO⟩ := jO.rules
        obtain ⟨A0, c0, hv0, _, _⟩ := ho.form encP_len
        generalize (madeL g0 q.x0 q.y0 wd ht).length = n0 at hv0
        subst hv0
        have o1 := ho.setFar jO (by decide) 0 (.int .i64 q.x0)
        have m1 := jO.set 0 (.int .i64 q.x0)
        have o2 := o1.setFar m1 (by decide) 1 (.int .i64 q.y0)
        have m2 := m1.set 1 (.int .i64 q.y0)
        have o3 := o2.setFar m2 (by decide) 2 (.int .i64 q.x1)
        have m3 := m2.set 2 (.int .i64 q.x1)
        have o4 := o3.setFar m3 (by decide) 3 (.int .i64 q.y1)
        have m4 := m3.set 3 (.int .i64 q.y1)
        have o5 := o4.setFar m4 (by decide) 4 (.slice A0 n0 c0)
        clear o1 o2 o3 o4 m1 m2 m3 m4
        go_wp2
        refine bodyPost_ret (v := _) ?_ rfl ⟨_, rfl, o5, (by repeat (first | (with_reducible exact Below.refl _ _) | (with_reducible refine balloc ?_ _) | (with_reducible refine Below.drew ?_) | (with_reducible refine bdrewN ?_ _) | ((with_reducible refine bset ?_ ?_ _); rotate_left; focus (first | (with_reducible exact Nat.le_refl _) | (simp; done) | (simp; omega) | omega)) | (with_reducible refine bstep (by with_reducible assumption) ?_)))⟩
        simp [results, Try.results41, go_sem, kcO]
end Go.Proofs.Ytnefnnhnjmmebaa
