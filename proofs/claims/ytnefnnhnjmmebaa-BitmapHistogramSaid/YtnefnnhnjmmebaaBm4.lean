/-
  The walks of grisailleref30.New and bitmap.Bytes.
-/
import Derived.Test.YtnefnnhnjmmebaaBm3
import Derived.Laws.BytesArg
namespace Go.Proofs.Ytnefnnhnjmmebaa
open Go.RowKit
set_option linter.unusedSimpArgs false
set_option linter.unusedVariables false


theorem area_bd (r : Rc) : 0 ≤ areaR r ∧ areaR r ≤ 67108864 := by
  have hb := canon_bd r
  unfold areaR
  exact mul_bd (by omega) (by omega) (by omega) (by omega)
set_option maxHeartbeats 3200000 in
theorem rnew_any (r : Rc) (p : Px) (w : World) :
    Calls Try.prog 14 #[.agg #[.int .i64 r.x0, .int .i64 r.y0, .int .i64 r.x1, .int .i64 r.y1], .agg #[.int .u8 p.r, .int .u8 p.g, .int .u8 p.b, .int .u8 p.a]] w (RetBE (newR r) (newL r p) (newE r) w) := by
  have HVal := Lib.hid (rvalid_any r.x0 r.y0 r.x1 r.y1)
  have HA := Lib.hid (rarea_any r.x0 r.y0 r.x1 r.y1)
  obtain ⟨v, Hv⟩ : ∃ v, Hid (validB r = v) := ⟨_, rfl⟩
  obtain ⟨a, Ha⟩ : ∃ a, Hid (areaR r = a) := ⟨_, rfl⟩
  have ev : validB ⟨r.x0, r.y0, r.x1, r.y1⟩ = v := Hv.out
  have ea : areaR ⟨r.x0, r.y0, r.x1, r.y1⟩ = a := Ha.out
  have hab := area_bd r
  rw [ev] at HVal
  rw [ea] at HA
  rw [Ha.out] at hab
  clear ev ea
  cases v with
  | false =>
    have e1 : newR r = ⟨0, 0, 0, 0⟩ := by unfold newR; rw [Hv.out]; rfl
    have e2 : newL r p = [] := by unfold newL; rw [Hv.out]; rfl
    have e3 : newE r = 6 := by unfold newE; rw [Hv.out]; rfl
    rw [e1, e2, e3]
    clear e1 e2 e3
    go_enter Try.func14, Try.ntmps14
    go_wp2_with fail
    refine (HVal.out _).mono ?_
    rintro e w1 ⟨rfl, hb1⟩
    have kO1 : Bk w1 (w.heap.size + 1 + 1) 28 #[.int .i64 0, .int .i64 0, .int .i64 0, .int .i64 0, .slice none 0 0] := (by repeat (first | (with_reducible assumption) | ((with_reducible refine Bk.new _ _ _ ?_); first | (with_reducible rfl) | (simp; done)) | (with_reducible refine Bk.alloc ?_ _) | (with_reducible refine Bk.drew ?_) | (with_reducible refine Bk.drewN ?_ _) | ((with_reducible refine Bk.far ?_ ?_ _); rotate_left; focus (first | (simp; done) | (simp; omega))) | (with_reducible refine Bk.below ?_ (by with_reducible assumption)))); obtain ⟨kcO1, kfO1, kaO1, kgO1, klO1⟩ := kO1.rules
    go_wp2
    refine bodyPost_ret (v := _) ?_ rfl (RetBE.no 6 (by repeat (first | (with_reducible exact Below.refl _ _) | (with_reducible refine balloc ?_ _) | (with_reducible refine Below.drew ?_) | (with_reducible refine bdrewN ?_ _) | ((with_reducible refine bset ?_ ?_ _); rotate_left; focus (first | (with_reducible exact Nat.le_refl _) | (simp; done) | (simp; omega) | omega)) | (with_reducible refine bstep (by with_reducible assumption) ?_))))
    simp [results, Try.results14, go_sem, kcO1]
  | true =>
    cases h2 : decide ((65536 : Int) < a) with
    | true =>
      have h2' : decide (areaR r ≤ 65536) = false := by have := of_decide_eq_true h2; rw [Ha.out]; simp; omega
      have e1 : newR r = ⟨0, 0, 0, 0⟩ := by unfold newR; rw [Hv.out, h2']; rfl
      have e2 : newL r p = [] := by unfold newL; rw [Hv.out, h2']; rfl
      have e3 : newE r = 5 := by unfold newE; rw [Hv.out, h2']; rfl
      rw [e1, e2, e3]
      clear e1 e2 e3 h2'
      go_enter Try.func14, Try.ntmps14
      go_wp2_with fail
      refine (HVal.out _).mono ?_
      rintro e w1 ⟨rfl, hb1⟩
      have kR1 : Bk w1 (w.heap.size) 23 #[.int .i64 r.x0, .int .i64 r.y0, .int .i64 r.x1, .int .i64 r.y1] := (by repeat (first | (with_reducible assumption) | ((with_reducible refine Bk.new _ _ _ ?_); first | (with_reducible rfl) | (simp; done)) | (with_reducible refine Bk.alloc ?_ _) | (with_reducible refine Bk.drew ?_) | (with_reducible refine Bk.drewN ?_ _) | ((with_reducible refine Bk.far ?_ ?_ _); rotate_left; focus (first | (simp; done) | (simp; omega))) | (with_reducible refine Bk.below ?_ (by with_reducible assumption)))); obtain ⟨kcR1, kfR1, kaR1, kgR1, klR1⟩ := kR1.rules
      go_wp2_with fail
      refine (HA.out _).mono ?_
      rintro e w2 ⟨rfl, hb2⟩
      clear kcR1 kfR1 kaR1 kgR1
      have kO2 : Bk w2 (w.heap.size + 1 + 1) 28 #[.int .i64 0, .int .i64 0, .int .i64 0, .int .i64 0, .slice none 0 0] := (by repeat (first | (with_reducible assumption) | ((with_reducible refine Bk.new _ _ _ ?_); first | (with_reducible rfl) | (simp; done)) | (with_reducible refine Bk.alloc ?_ _) | (with_reducible refine Bk.drew ?_) | (with_reducible refine Bk.drewN ?_ _) | ((with_reducible refine Bk.far ?_ ?_ _); rotate_left; focus (first | (simp; done) | (simp; omega))) | (with_reducible refine Bk.below ?_ (by with_reducible assumption)))); obtain ⟨kcO2, kfO2, kaO2, kgO2, klO2⟩ := kO2.rules
      go_wp2
      refine bodyPost_ret (v := _) ?_ rfl (RetBE.no 5 (by repeat (first | (with_reducible exact Below.refl _ _) | (with_reducible refine balloc ?_ _) | (with_reducible refine Below.drew ?_) | (with_reducible refine bdrewN ?_ _) | ((with_reducible refine bset ?_ ?_ _); rotate_left; focus (first | (with_reducible exact Nat.le_refl _) | (simp; done) | (simp; omega) | omega)) | (with_reducible refine bstep (by with_reducible assumption) ?_))))
      simp [results, Try.results14, go_sem, kcO2]
    | false =>
      have h2' : decide (areaR r ≤ 65536) = true := by have := of_decide_eq_false h2; rw [Ha.out]; simp; omega
      obtain ⟨q, Hq⟩ : ∃ q, Hid (canonR r = q) := ⟨_, rfl⟩
      obtain ⟨cl, Hcl⟩ : ∃ q, Hid (clampP p = q) := ⟨_, rfl⟩
      obtain ⟨n, hna⟩ : ∃ n : Nat, a = (n : Int) := ⟨a.toNat, by omega⟩
      subst hna
      have e1 : newR r = q := by unfold newR; rw [Hv.out, h2']; exact Hq.out
      have e2 : newL r p = List.replicate n cl := by unfold newL; rw [Hv.out, h2', Hcl.out, Ha.out]; rfl
      have e3 : newE r = 0 := by unfold newE; rw [Hv.out, h2']; rfl
      have hn65 : n ≤ 65536 := by have := of_decide_eq_false h2; omega
      rw [e1, e2, e3]
      clear e1 e2 e3 h2' hab
      go_enter Try.func14, Try.ntmps14
      go_wp2_with fail
      refine (HVal.out _).mono ?_
      rintro e w1 ⟨rfl, hb1⟩
      have kR1 : Bk w1 (w.heap.size) 23 #[.int .i64 r.x0, .int .i64 r.y0, .int .i64 r.x1, .int .i64 r.y1] := (by repeat (first | (with_reducible assumption) | ((with_reducible refine Bk.new _ _ _ ?_); first | (with_reducible rfl) | (simp; done)) | (with_reducible refine Bk.alloc ?_ _) | (with_reducible refine Bk.drew ?_) | (with_reducible refine Bk.drewN ?_ _) | ((with_reducible refine Bk.far ?_ ?_ _); rotate_left; focus (first | (simp; done) | (simp; omega))) | (with_reducible refine Bk.below ?_ (by with_reducible assumption)))); obtain ⟨kcR1, kfR1, kaR1, kgR1, klR1⟩ := kR1.rules
      go_wp2_with fail
      refine (HA.out _).mono ?_
      rintro e w2 ⟨rfl, hb2⟩
      clear kcR1 kfR1 kaR1 kgR1
      have kR2 : Bk w2 (w.heap.size) 23 #[.int .i64 r.x0, .int .i64 r.y0, .int .i64 r.x1, .int .i64 r.y1] := (by repeat (first | (with_reducible assumption) | ((with_reducible refine Bk.new _ _ _ ?_); first | (with_reducible rfl) | (simp; done)) | (with_reducible refine Bk.alloc ?_ _) | (with_reducible refine Bk.drew ?_) | (with_reducible refine Bk.drewN ?_ _) | ((with_reducible refine Bk.far ?_ ?_ _); rotate_left; focus (first | (simp; done) | (simp; omega))) | (with_reducible refine Bk.below ?_ (by with_reducible assumption)))); obtain ⟨kcR2, kfR2, kaR2, kgR2, klR2⟩ := kR2.rules
      go_wp2_with fail
      refine (rcanon_q _ _ _ _ q Hq _).mono ?_
      rintro e w3 ⟨rfl, hb3⟩
      clear kcR2 kfR2 kaR2 kgR2
      have kR3 : Bk w3 w.heap.size 23 #[.int .i64 r.x0, .int .i64 r.y0, .int .i64 r.x1, .int .i64 r.y1] := (by repeat (first | (with_reducible assumption) | ((with_reducible refine Bk.new _ _ _ ?_); first | (with_reducible rfl) | (simp; done)) | (with_reducible refine Bk.alloc ?_ _) | (with_reducible refine Bk.drew ?_) | (with_reducible refine Bk.drewN ?_ _) | ((with_reducible refine Bk.far ?_ ?_ _); rotate_left; focus (first | (simp; done) | (simp; omega))) | (with_reducible refine Bk.below ?_ (by with_reducible assumption))))
      have kP3 : Bk w3 (w.heap.size + 1) 25 #[.int .u8 p.r, .int .u8 p.g, .int .u8 p.b, .int .u8 p.a] := (by repeat (first | (with_reducible assumption) | ((with_reducible refine Bk.new _ _ _ ?_); first | (with_reducible rfl) | (simp; done)) | (with_reducible refine Bk.alloc ?_ _) | (with_reducible refine Bk.drew ?_) | (with_reducible refine Bk.drewN ?_ _) | ((with_reducible refine Bk.far ?_ ?_ _); rotate_left; focus (first | (simp; done) | (simp; omega))) | (with_reducible refine Bk.below ?_ (by with_reducible assumption))))
      have kO3 : Bk w3 (w.heap.size + 1 + 1) 28 #[.int .i64 0, .int .i64 0, .int .i64 0, .int .i64 0, .slice none 0 0] := (by repeat (first | (with_reducible assumption) | ((with_reducible refine Bk.new _ _ _ ?_); first | (with_reducible rfl) | (simp; done)) | (with_reducible refine Bk.alloc ?_ _) | (with_reducible refine Bk.drew ?_) | (with_reducible refine Bk.drewN ?_ _) | ((with_reducible refine Bk.far ?_ ?_ _); rotate_left; focus (first | (simp; done) | (simp; omega))) | (with_reducible refine Bk.below ?_ (by with_reducible assumption))))
      have hB3 : Below w.heap.size w w3 := (by repeat (first | (with_reducible exact Below.refl _ _) | (with_reducible refine balloc ?_ _) | (with_reducible refine Below.drew ?_) | (with_reducible refine bdrewN ?_ _) | ((with_reducible refine bset ?_ ?_ _); rotate_left; focus (first | (with_reducible exact Nat.le_refl _) | (simp; done) | (simp; omega) | omega)) | (with_reducible refine bstep (by with_reducible assumption) ?_)))
      have hs3 := kO3.lt
      clear hb1 hb2 hb3
      go_wp2_with fail
      go_loopw [7] (fun i wr => ∃ (k : Nat) (u : Value), k ≤ n ∧ i = .int .i64 k ∧ Bk wr w3.heap.size 28 #[.int .i64 q.x0, .int .i64 q.y0, .int .i64 q.x1, .int .i64 q.y1, u] ∧ Bk wr w.heap.size 23 #[.int .i64 r.x0, .int .i64 r.y0, .int .i64 r.x1, .int .i64 r.y1] ∧ Bk wr (w.heap.size + 1) 25 #[.int .u8 p.r, .int .u8 p.g, .int .u8 p.b, .int .u8 p.a] ∧ Bk wr (w.heap.size + 1 + 1) 28 #[.int .i64 0, .int .i64 0, .int .i64 0, .int .i64 0, .slice none 0 0] ∧ OwnL encP 25 4 wr w3.heap.size u (List.replicate k cl) ∧ Below w.heap.size w wr) (fun i _ => n - (intOf i).toNat)
      case atStart => exact ⟨0, _, Nat.zero_le _, rfl, Bk.new _ _ _ rfl, kR3.alloc _, kP3.alloc _, kO3.alloc _, OwnL.nil _ _, (by repeat (first | (with_reducible exact Below.refl _ _) | (with_reducible refine balloc ?_ _) | (with_reducible refine Below.drew ?_) | (with_reducible refine bdrewN ?_ _) | ((with_reducible refine bset ?_ ?_ _); rotate_left; focus (first | (with_reducible exact Nat.le_refl _) | (simp; done) | (simp; omega) | omega)) | (with_reducible refine bstep (by with_reducible assumption) ?_)))⟩
      case round =>
        obtain ⟨k, u, hk, rfl, jB, jR, jP, jO, hu, hbu⟩ := hrel
        obtain ⟨kcR, kfR, kaR, kgR, klR⟩ := jR.rules
        go_wp2_with fail
        refine (HA.out _).mono ?_
        rintro e wa ⟨rfl, hba⟩
        have iB := jB.below hba
        have iR := jR.below hba
        have iP := jP.below hba
        have iO := jO.below hba
        have iu := hu.below hba
        have hbA : Below w.heap.size w wa := bstep hba hbu
        clear kcR kfR kaR kgR jB jR jP jO hu hbu hba
        by_cases hlt : k < n
        · have hlen : (List.replicate k cl).length ≤ 4294967296 := by simp; omega
          go_wp2_with fail
          refine wp_region_go 7 [(0, true), (1, true), (2, true), (3, false), (4, false), (5, false), (6, true)] (fun w' => Bk w' w3.heap.size 28 #[.int .i64 q.x0, .int .i64 q.y0, .int .i64 q.x1, .int .i64 q.y1, u] ∧ Bk w' (w.heap.size + 1) 25 #[.int .u8 p.r, .int .u8 p.g, .int .u8 p.b, .int .u8 p.a]) (by kernel_rfl) (by kernel_rfl) (fun c a d v w h => by cases d <;> exact h) ⟨iB.drew, iP.drew⟩ ?_
          repeat (refine wpGo_pure (v := ?_) rfl rfl (fun w' hS => ?_) ?_; rotate_left; (· obtain ⟨kc, kf, ka, kg, kl⟩ := Bk.rules hS.1; obtain ⟨kc', kf', ka', kg', kl'⟩ := Bk.rules hS.2; go_simp; exact rfl); (try simp only [Act.put, List.setIfInBounds_toArray, List.set_cons_zero, List.set_cons_succ]))
          refine wpGo_eff rfl (fun K hK => ?_)
          go_simp
          refine (rclampc_q p.r p.g p.b p.a cl Hcl _).mono ?_
          rintro e w4 ⟨rfl, hb4⟩
          refine hK.out _ _ ⟨iB.drew.below hb4, iP.drew.below hb4⟩ (fun _ => ?_)
          clear hK K
          refine wpGo_eff rfl (fun K hK => ?_)
          go_simp
          refine hK.out _ _ ⟨(iB.drew.below hb4).alloc _, (iP.drew.below hb4).alloc _⟩ (fun _ => ?_)
          clear hK K
          have hu2 := (iu.drew.below hb4).alloc (.cells #[.int .u8 cl.r, .int .u8 cl.g, .int .u8 cl.b, .int .u8 cl.a] 25)
          have jB2 := (iB.drew.below hb4).alloc (.cells #[.int .u8 cl.r, .int .u8 cl.g, .int .u8 cl.b, .int .u8 cl.a] 25)
          have jR2 := (iR.drew.below hb4).alloc (.cells #[.int .u8 cl.r, .int .u8 cl.g, .int .u8 cl.b, .int .u8 cl.a] 25)
          have jO2 := (iO.drew.below hb4).alloc (.cells #[.int .u8 cl.r, .int .u8 cl.g, .int .u8 cl.b, .int .u8 cl.a] 25)
          have jP2 := (iP.drew.below hb4).alloc (.cells #[.int .u8 cl.r, .int .u8 cl.g, .int .u8 cl.b, .int .u8 cl.a] 25)
          have hB2 : Below w.heap.size w (w4.alloc (.cells #[.int .u8 cl.r, .int .u8 cl.g, .int .u8 cl.b, .int .u8 cl.a] 25)) := (by repeat (first | (with_reducible exact Below.refl _ _) | (with_reducible refine balloc ?_ _) | (with_reducible refine Below.drew ?_) | (with_reducible refine bdrewN ?_ _) | ((with_reducible refine bset ?_ ?_ _); rotate_left; focus (first | (with_reducible exact Nat.le_refl _) | (simp; done) | (simp; omega) | omega)) | (with_reducible refine bstep (by with_reducible assumption) ?_)))
          have hsz2 := hB2.size
          have hP2 : some (w.heap.size + 1) ≠ u.ownBlock := hu2.block_ne (by omega)
          have hl2 := jB2.lt
          refine wpGo_effp rfl (fun K hK => ?_)
          refine wp_append_one encP_len encP_one 26 Try.infoPx rfl (by decide) (by decide) Try.underlying26 _ _ rfl w3.heap.size u _ rfl hu2 w4.heap.size cl rfl (Bk.new _ _ _ rfl) rfl hlen (by omega) ?_
          intro v5 w5 ho5 hg5 hv5
          have jB5 := jB2.grown hg5 (hu2.neBk jB2 (by decide))
          have jR5 := jR2.grown hg5 (hu2.neBk jR2 (by decide))
          have jO5 := jO2.grown hg5 (hu2.neBk jO2 (by decide))
          have jP5 := jP2.grown hg5 hP2
          have hB5 := below_grown hu2 hg5 hB2 (by omega)
          obtain ⟨g5, c5, hv5, _⟩ := hv5
          refine hK.out _ _ ⟨jB5, jP5⟩ (fun _ => ?_)
          clear hK K
          simp only [Act.put, List.setIfInBounds_toArray, List.set_cons_zero, List.set_cons_succ]
          repeat (refine wpGo_pure (v := ?_) rfl rfl (fun w' hS => ?_) ?_; rotate_left; (· obtain ⟨kc, kf, ka, kg, kl⟩ := Bk.rules hS.1; go_simp; exact rfl); (try simp only [Act.put, List.setIfInBounds_toArray, List.set_cons_zero, List.set_cons_succ]))
          refine wpGo_nil ?_
          simp only [List.drop_succ_cons, List.drop_zero]
          have HL : Hid (List.replicate k cl ++ [cl] = List.replicate (k + 1) cl) := by unfold Hid; rw [List.replicate_succ']
          rw [HL.out] at ho5
          obtain ⟨kc5, kf5, ka5, kg5, kl5⟩ := jB5.rules
          have jB6 : Bk _ w3.heap.size 28 #[.int .i64 q.x0, .int .i64 q.y0, .int .i64 q.x1, .int .i64 q.y1, v5] := jB5.set 4 v5
          have jR6 := jR5.far (p := ⟨w3.heap.size, 4, none⟩) (show w.heap.size ≠ w3.heap.size by omega) v5
          have jP6 := jP5.far (p := ⟨w3.heap.size, 4, none⟩) (show w.heap.size + 1 ≠ w3.heap.size by omega) v5
          have jO6 := jO5.far (p := ⟨w3.heap.size, 4, none⟩) (show w.heap.size + 1 + 1 ≠ w3.heap.size by omega) v5
          have ho6 := ho5.setFar jB5 (by decide) 4 v5
          have hB6 := bset hB5 (p := ⟨w3.heap.size, 4, none⟩) (show w.heap.size ≤ w3.heap.size by omega) v5
          clear hl2 HL jB5 jO5 jR5 jP5 ho5 hB5 jB2 jO2 jR2 jP2 hu2 hB2 hsz2 hg5 hb4 iB iR iP iO iu hP2
          generalize (List.replicate k cl).length + 1 = n5 at hv5
          subst hv5
          go_wp2
          go_roundw
          case rel => exact ⟨k + 1, _, by omega, by go_num, jB6, jR6, jP6, jO6, ho6, hB6⟩
          case measure => simp [intOf]; omega
        · obtain rfl : k = n := by omega
          obtain ⟨kcB, kfB, kaB, kgB, klB⟩ := iB.rules
          obtain ⟨kcO, kfO, kaO, kgO, klO⟩ := iO.rules
          obtain ⟨A0, c0, hv0, _, _⟩ := iu.form encP_len
          generalize (List.replicate k cl).length = n0 at hv0
          subst hv0
          have o1 := iu.setFar iO (by decide) 0 (.int .i64 q.x0)
          have m1 := iO.set 0 (.int .i64 q.x0)
          have o2 := o1.setFar m1 (by decide) 1 (.int .i64 q.y0)
          have m2 := m1.set 1 (.int .i64 q.y0)
          have o3 := o2.setFar m2 (by decide) 2 (.int .i64 q.x1)
          have m3 := m2.set 2 (.int .i64 q.x1)
          have o4 := o3.setFar m3 (by decide) 3 (.int .i64 q.y1)
          have m4 := m3.set 3 (.int .i64 q.y1)
          have o5 := o4.setFar m4 (by decide) 4 (.slice A0 n0 c0)
          clear o1 o2 o3 o4 m1 m2 m3 m4
          go_wp2
          refine bodyPost_ret (v := _) ?_ rfl ⟨_, rfl, o5.mono (by omega), (by repeat (first | (with_reducible exact Below.refl _ _) | (with_reducible refine balloc ?_ _) | (with_reducible refine Below.drew ?_) | (with_reducible refine bdrewN ?_ _) | ((with_reducible refine bset ?_ ?_ _); rotate_left; focus (first | (with_reducible exact Nat.le_refl _) | (simp; done) | (simp; omega) | omega)) | (with_reducible refine bstep (by with_reducible assumption) ?_)))⟩
          simp [results, Try.results14, go_sem, kcO]
end Go.Proofs.Ytnefnnhnjmmebaa
