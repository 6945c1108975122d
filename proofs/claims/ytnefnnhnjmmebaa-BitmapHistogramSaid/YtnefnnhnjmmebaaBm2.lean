/-
  The walks of bitmap.Valid, grisailleref30.Equal, bitmap.New and grisailleref30.New.
-/
import Derived.Test.YtnefnnhnjmmebaaBm1
import Derived.Test.YtnefnnhnjmmebaaMadeNew
import Derived.Test.YtnefnnhnjmmebaaRcA
namespace Go.Proofs.Ytnefnnhnjmmebaa
open Go.RowKit
set_option linter.unusedSimpArgs false
set_option linter.unusedVariables false


set_option maxHeartbeats 1600000 in
theorem bvalid_any (r : Rc) (A : Option Addr) (n c : Nat) (l : List Px) (w : World) (hr : RdL encP 4 w A l) (hn : l.length = n) (hn2 : n ≤ 4000000000) (v : Bool) (Hv : Hid (bmValid r l = v)) :
    Calls Try.prog 16 #[.agg #[.int .i64 r.x0, .int .i64 r.y0, .int .i64 r.x1, .int .i64 r.y1, .slice A n c]] w fun e w' => e = .returned (.bool v) ∧ Below w.heap.size w w' := by
  have HR := Lib.hid hr
  have Hn := Lib.hid hn
  have HA := Lib.hid (area_any r.x0 r.y0 r.x1 r.y1)
  obtain ⟨a, Ha⟩ : ∃ a, Hid (areaR r = a) := ⟨_, rfl⟩
  have ea : areaR ⟨r.x0, r.y0, r.x1, r.y1⟩ = a := Ha.out
  rw [ea] at HA
  obtain ⟨q, Hq⟩ : ∃ a, Hid (canonR r = a) := ⟨_, rfl⟩
  obtain ⟨b1, H1⟩ : ∃ b, Hid (eqB q r = b) := ⟨_, rfl⟩
  obtain ⟨b4, H4⟩ : ∃ b, Hid (l.all pvB = b) := ⟨_, rfl⟩
  have HV : Hid (v = (b1 && decide (a ≤ 65536) && decide ((n : Int) = a) && b4)) := by
    unfold Hid; rw [← Hv.out]; unfold bmValid; rw [Hq.out, H1.out, Ha.out, H4.out, Hn.out]
  have hneq := fun w => (neq_rect q.x0 q.y0 q.x1 q.y1 r.x0 r.y0 r.x1 r.y1 w).trans (by rw [show eqB ⟨q.x0, q.y0, q.x1, q.y1⟩ ⟨r.x0, r.y0, r.x1, r.y1⟩ = b1 from H1.out])
  rw [HV.out]
  clear hr hn ea HV Hv
  cases b1 with
  | false =>
    go_enter Try.func16, Try.ntmps16
    go_wp2_with fail
    refine (HA.out _).mono ?_
    rintro e w1 ⟨rfl, hb1⟩
    go_wp2_with fail
    refine wp_region_gob 17 [(0, true), (1, true), (3, true), (4, true), (2, false), (5, true), (6, true), (7, true), (8, true), (9, true), (10, true), (11, true), (12, true), (13, true), (14, true), (15, true), (16, true)] (by kernel_rfl) (by kernel_rfl) (fun c a d v w h => by cases d <;> exact h) ?_
    repeat (refine wpGo_pure (v := ?_) rfl rfl (fun w' hS => ?_) ?_; rotate_left; (· have kBp : Bk w' (w.heap.size) 28 #[.int .i64 r.x0, .int .i64 r.y0, .int .i64 r.x1, .int .i64 r.y1, .slice A n c] := (by repeat (first | (with_reducible assumption) | ((with_reducible refine Bk.new _ _ _ ?_); first | (with_reducible rfl) | (simp; done)) | (with_reducible refine Bk.alloc ?_ _) | (with_reducible refine Bk.drew ?_) | (with_reducible refine Bk.drewN ?_ _) | ((with_reducible refine Bk.far ?_ ?_ _); rotate_left; focus (first | (simp; done) | (simp; omega))) | (with_reducible refine Bk.below ?_ (by with_reducible assumption)))); obtain ⟨kcBp, kfBp, kaBp, kgBp, klBp⟩ := kBp.rules; go_simp; exact rfl); (try simp only [Act.put, List.setIfInBounds_toArray, List.set_cons_zero, List.set_cons_succ]))
    refine wpGo_eff rfl (fun K hK => ?_)
    go_simp
    refine (canon_q _ _ _ _ q Hq _).mono ?_
    rintro e w2 ⟨rfl, hb2⟩
    refine hK.out _ _ (by repeat (first | (with_reducible exact Below.refl _ _) | (with_reducible refine balloc ?_ _) | (with_reducible refine Below.drew ?_) | (with_reducible refine bdrewN ?_ _) | ((with_reducible refine bset ?_ ?_ _); rotate_left; focus (first | (with_reducible exact Nat.le_refl _) | (simp; done) | (simp; omega) | omega)) | (with_reducible refine bstep (by with_reducible assumption) ?_))) (fun hS2 => ?_)
    clear hK K
    repeat (first | (refine wpGo_pure (v := ?_) rfl rfl (fun w' hS => ?_) ?_; rotate_left; (· have kBp : Bk w' (w.heap.size) 28 #[.int .i64 r.x0, .int .i64 r.y0, .int .i64 r.x1, .int .i64 r.y1, .slice A n c] := (by repeat (first | (with_reducible assumption) | ((with_reducible refine Bk.new _ _ _ ?_); first | (with_reducible rfl) | (simp; done)) | (with_reducible refine Bk.alloc ?_ _) | (with_reducible refine Bk.drew ?_) | (with_reducible refine Bk.drewN ?_ _) | ((with_reducible refine Bk.far ?_ ?_ _); rotate_left; focus (first | (simp; done) | (simp; omega))) | (with_reducible refine Bk.below ?_ (by with_reducible assumption)))); obtain ⟨kcBp, kfBp, kaBp, kgBp, klBp⟩ := kBp.rules; go_simp; exact rfl); (try simp only [Act.put, List.setIfInBounds_toArray, List.set_cons_zero, List.set_cons_succ])) | ((refine wpGo_skip rfl rfl ?_); (try simp only [Act.put, List.setIfInBounds_toArray, List.set_cons_zero, List.set_cons_succ])))
    refine wpGo_nil ?_
    simp only [List.drop_succ_cons, List.drop_zero]
    go_wp2
    go_ret
    exact ⟨rfl, (by repeat (first | (with_reducible exact Below.refl _ _) | (with_reducible refine balloc ?_ _) | (with_reducible refine Below.drew ?_) | (with_reducible refine bdrewN ?_ _) | ((with_reducible refine bset ?_ ?_ _); rotate_left; focus (first | (with_reducible exact Nat.le_refl _) | (simp; done) | (simp; omega) | omega)) | (with_reducible refine bstep (by with_reducible assumption) ?_)))⟩
  | true =>
    cases h2 : decide ((65536 : Int) < a) with
    | true =>
      have h2' : decide (a ≤ 65536) = false := by have := of_decide_eq_true h2; simp; omega
      rw [h2']
      clear h2'
      go_enter Try.func16, Try.ntmps16
      go_wp2_with fail
      refine (HA.out _).mono ?_
      rintro e w1 ⟨rfl, hb1⟩
      go_wp2_with fail
      refine wp_region_gob 17 [(0, true), (1, true), (3, true), (4, true), (2, false), (5, true), (6, true), (7, true), (8, true), (9, true), (10, true), (11, true), (12, true), (13, true), (14, true), (15, true), (16, true)] (by kernel_rfl) (by kernel_rfl) (fun c a d v w h => by cases d <;> exact h) ?_
      repeat (refine wpGo_pure (v := ?_) rfl rfl (fun w' hS => ?_) ?_; rotate_left; (· have kBp : Bk w' (w.heap.size) 28 #[.int .i64 r.x0, .int .i64 r.y0, .int .i64 r.x1, .int .i64 r.y1, .slice A n c] := (by repeat (first | (with_reducible assumption) | ((with_reducible refine Bk.new _ _ _ ?_); first | (with_reducible rfl) | (simp; done)) | (with_reducible refine Bk.alloc ?_ _) | (with_reducible refine Bk.drew ?_) | (with_reducible refine Bk.drewN ?_ _) | ((with_reducible refine Bk.far ?_ ?_ _); rotate_left; focus (first | (simp; done) | (simp; omega))) | (with_reducible refine Bk.below ?_ (by with_reducible assumption)))); obtain ⟨kcBp, kfBp, kaBp, kgBp, klBp⟩ := kBp.rules; go_simp; exact rfl); (try simp only [Act.put, List.setIfInBounds_toArray, List.set_cons_zero, List.set_cons_succ]))
      refine wpGo_eff rfl (fun K hK => ?_)
      go_simp
      refine (canon_q _ _ _ _ q Hq _).mono ?_
      rintro e w2 ⟨rfl, hb2⟩
      refine hK.out _ _ (by repeat (first | (with_reducible exact Below.refl _ _) | (with_reducible refine balloc ?_ _) | (with_reducible refine Below.drew ?_) | (with_reducible refine bdrewN ?_ _) | ((with_reducible refine bset ?_ ?_ _); rotate_left; focus (first | (with_reducible exact Nat.le_refl _) | (simp; done) | (simp; omega) | omega)) | (with_reducible refine bstep (by with_reducible assumption) ?_))) (fun hS2 => ?_)
      clear hK K
      repeat (first | (refine wpGo_pure (v := ?_) rfl rfl (fun w' hS => ?_) ?_; rotate_left; (· have kBp : Bk w' (w.heap.size) 28 #[.int .i64 r.x0, .int .i64 r.y0, .int .i64 r.x1, .int .i64 r.y1, .slice A n c] := (by repeat (first | (with_reducible assumption) | ((with_reducible refine Bk.new _ _ _ ?_); first | (with_reducible rfl) | (simp; done)) | (with_reducible refine Bk.alloc ?_ _) | (with_reducible refine Bk.drew ?_) | (with_reducible refine Bk.drewN ?_ _) | ((with_reducible refine Bk.far ?_ ?_ _); rotate_left; focus (first | (simp; done) | (simp; omega))) | (with_reducible refine Bk.below ?_ (by with_reducible assumption)))); obtain ⟨kcBp, kfBp, kaBp, kgBp, klBp⟩ := kBp.rules; go_simp; exact rfl); (try simp only [Act.put, List.setIfInBounds_toArray, List.set_cons_zero, List.set_cons_succ])) | ((refine wpGo_skip rfl rfl ?_); (try simp only [Act.put, List.setIfInBounds_toArray, List.set_cons_zero, List.set_cons_succ])))
      refine wpGo_nil ?_
      simp only [List.drop_succ_cons, List.drop_zero]
      go_wp2
      go_ret
      exact ⟨rfl, (by repeat (first | (with_reducible exact Below.refl _ _) | (with_reducible refine balloc ?_ _) | (with_reducible refine Below.drew ?_) | (with_reducible refine bdrewN ?_ _) | ((with_reducible refine bset ?_ ?_ _); rotate_left; focus (first | (with_reducible exact Nat.le_refl _) | (simp; done) | (simp; omega) | omega)) | (with_reducible refine bstep (by with_reducible assumption) ?_)))⟩
    | false =>
      have h2' : decide (a ≤ 65536) = true := by have := of_decide_eq_false h2; simp; omega
      rw [h2']
      clear h2'
      by_cases h3 : (n : Int) = a
      · have h3' : ((n : Int) != a) = false := by simpa using h3
        have h3'' : decide ((n : Int) = a) = true := by simpa using h3
        rw [h3'']
        clear h3 h3''
        go_enter Try.func16, Try.ntmps16
        go_wp2_with fail
        refine (HA.out _).mono ?_
        rintro e w1 ⟨rfl, hb1⟩
        go_wp2_with fail
        refine wp_region_gob 17 [(0, true), (1, true), (3, true), (4, true), (2, false), (5, true), (6, true), (7, true), (8, true), (9, true), (10, true), (11, true), (12, true), (13, true), (14, true), (15, true), (16, true)] (by kernel_rfl) (by kernel_rfl) (fun c a d v w h => by cases d <;> exact h) ?_
        repeat (refine wpGo_pure (v := ?_) rfl rfl (fun w' hS => ?_) ?_; rotate_left; (· have kBp : Bk w' (w.heap.size) 28 #[.int .i64 r.x0, .int .i64 r.y0, .int .i64 r.x1, .int .i64 r.y1, .slice A n c] := (by repeat (first | (with_reducible assumption) | ((with_reducible refine Bk.new _ _ _ ?_); first | (with_reducible rfl) | (simp; done)) | (with_reducible refine Bk.alloc ?_ _) | (with_reducible refine Bk.drew ?_) | (with_reducible refine Bk.drewN ?_ _) | ((with_reducible refine Bk.far ?_ ?_ _); rotate_left; focus (first | (simp; done) | (simp; omega))) | (with_reducible refine Bk.below ?_ (by with_reducible assumption)))); obtain ⟨kcBp, kfBp, kaBp, kgBp, klBp⟩ := kBp.rules; go_simp; exact rfl); (try simp only [Act.put, List.setIfInBounds_toArray, List.set_cons_zero, List.set_cons_succ]))
        refine wpGo_eff rfl (fun K hK => ?_)
        go_simp
        refine (canon_q _ _ _ _ q Hq _).mono ?_
        rintro e w2 ⟨rfl, hb2⟩
        refine hK.out _ _ (by repeat (first | (with_reducible exact Below.refl _ _) | (with_reducible refine balloc ?_ _) | (with_reducible refine Below.drew ?_) | (with_reducible refine bdrewN ?_ _) | ((with_reducible refine bset ?_ ?_ _); rotate_left; focus (first | (with_reducible exact Nat.le_refl _) | (simp; done) | (simp; omega) | omega)) | (with_reducible refine bstep (by with_reducible assumption) ?_))) (fun hS2 => ?_)
        clear hK K
        repeat (first | (refine wpGo_pure (v := ?_) rfl rfl (fun w' hS => ?_) ?_; rotate_left; (· have kBp : Bk w' (w.heap.size) 28 #[.int .i64 r.x0, .int .i64 r.y0, .int .i64 r.x1, .int .i64 r.y1, .slice A n c] := (by repeat (first | (with_reducible assumption) | ((with_reducible refine Bk.new _ _ _ ?_); first | (with_reducible rfl) | (simp; done)) | (with_reducible refine Bk.alloc ?_ _) | (with_reducible refine Bk.drew ?_) | (with_reducible refine Bk.drewN ?_ _) | ((with_reducible refine Bk.far ?_ ?_ _); rotate_left; focus (first | (simp; done) | (simp; omega))) | (with_reducible refine Bk.below ?_ (by with_reducible assumption)))); obtain ⟨kcBp, kfBp, kaBp, kgBp, klBp⟩ := kBp.rules; go_simp; exact rfl); (try simp only [Act.put, List.setIfInBounds_toArray, List.set_cons_zero, List.set_cons_succ])) | ((refine wpGo_skip rfl rfl ?_); (try simp only [Act.put, List.setIfInBounds_toArray, List.set_cons_zero, List.set_cons_succ])))
        refine wpGo_nil ?_
        simp only [List.drop_succ_cons, List.drop_zero]
        have kB2 : Bk w2 (w.heap.size) 28 #[.int .i64 r.x0, .int .i64 r.y0, .int .i64 r.x1, .int .i64 r.y1, .slice A n c] := (by repeat (first | (with_reducible assumption) | ((with_reducible refine Bk.new _ _ _ ?_); first | (with_reducible rfl) | (simp; done)) | (with_reducible refine Bk.alloc ?_ _) | (with_reducible refine Bk.drew ?_) | (with_reducible refine Bk.drewN ?_ _) | ((with_reducible refine Bk.far ?_ ?_ _); rotate_left; focus (first | (simp; done) | (simp; omega))) | (with_reducible refine Bk.below ?_ (by with_reducible assumption)))); obtain ⟨kcB2, kfB2, kaB2, kgB2, klB2⟩ := kB2.rules
        have hB2 : Below w.heap.size w w2 := (by repeat (first | (with_reducible exact Below.refl _ _) | (with_reducible refine balloc ?_ _) | (with_reducible refine Below.drew ?_) | (with_reducible refine bdrewN ?_ _) | ((with_reducible refine bset ?_ ?_ _); rotate_left; focus (first | (with_reducible exact Nat.le_refl _) | (simp; done) | (simp; omega) | omega)) | (with_reducible refine bstep (by with_reducible assumption) ?_)))
        go_wp2_with fail
        refine (contains_px A n c l _ (HR.out.below hB2) Hn.out hn2).mono ?_
        rw [H4.out]
        rintro e w3 ⟨rfl, hb3⟩
        have hB3 : Below w.heap.size w w3 := bstep hb3 hB2
        clear kcB2 kfB2 kaB2 kgB2
        go_wp2
        go_ret
        exact ⟨by cases b4 <;> rfl, hB3⟩
      · have h3' : ((n : Int) != a) = true := by simpa using h3
        have h3'' : decide ((n : Int) = a) = false := by simpa using h3
        rw [h3'']
        clear h3 h3''
        go_enter Try.func16, Try.ntmps16
        go_wp2_with fail
        refine (HA.out _).mono ?_
        rintro e w1 ⟨rfl, hb1⟩
        go_wp2_with fail
        refine wp_region_gob 17 [(0, true), (1, true), (3, true), (4, true), (2, false), (5, true), (6, true), (7, true), (8, true), (9, true), (10, true), (11, true), (12, true), (13, true), (14, true), (15, true), (16, true)] (by kernel_rfl) (by kernel_rfl) (fun c a d v w h => by cases d <;> exact h) ?_
        repeat (refine wpGo_pure (v := ?_) rfl rfl (fun w' hS => ?_) ?_; rotate_left; (· have kBp : Bk w' (w.heap.size) 28 #[.int .i64 r.x0, .int .i64 r.y0, .int .i64 r.x1, .int .i64 r.y1, .slice A n c] := (by repeat (first | (with_reducible assumption) | ((with_reducible refine Bk.new _ _ _ ?_); first | (with_reducible rfl) | (simp; done)) | (with_reducible refine Bk.alloc ?_ _) | (with_reducible refine Bk.drew ?_) | (with_reducible refine Bk.drewN ?_ _) | ((with_reducible refine Bk.far ?_ ?_ _); rotate_left; focus (first | (simp; done) | (simp; omega))) | (with_reducible refine Bk.below ?_ (by with_reducible assumption)))); obtain ⟨kcBp, kfBp, kaBp, kgBp, klBp⟩ := kBp.rules; go_simp; exact rfl); (try simp only [Act.put, List.setIfInBounds_toArray, List.set_cons_zero, List.set_cons_succ]))
        refine wpGo_eff rfl (fun K hK => ?_)
        go_simp
        refine (canon_q _ _ _ _ q Hq _).mono ?_
        rintro e w2 ⟨rfl, hb2⟩
        refine hK.out _ _ (by repeat (first | (with_reducible exact Below.refl _ _) | (with_reducible refine balloc ?_ _) | (with_reducible refine Below.drew ?_) | (with_reducible refine bdrewN ?_ _) | ((with_reducible refine bset ?_ ?_ _); rotate_left; focus (first | (with_reducible exact Nat.le_refl _) | (simp; done) | (simp; omega) | omega)) | (with_reducible refine bstep (by with_reducible assumption) ?_))) (fun hS2 => ?_)
        clear hK K
        repeat (first | (refine wpGo_pure (v := ?_) rfl rfl (fun w' hS => ?_) ?_; rotate_left; (· have kBp : Bk w' (w.heap.size) 28 #[.int .i64 r.x0, .int .i64 r.y0, .int .i64 r.x1, .int .i64 r.y1, .slice A n c] := (by repeat (first | (with_reducible assumption) | ((with_reducible refine Bk.new _ _ _ ?_); first | (with_reducible rfl) | (simp; done)) | (with_reducible refine Bk.alloc ?_ _) | (with_reducible refine Bk.drew ?_) | (with_reducible refine Bk.drewN ?_ _) | ((with_reducible refine Bk.far ?_ ?_ _); rotate_left; focus (first | (simp; done) | (simp; omega))) | (with_reducible refine Bk.below ?_ (by with_reducible assumption)))); obtain ⟨kcBp, kfBp, kaBp, kgBp, klBp⟩ := kBp.rules; go_simp; exact rfl); (try simp only [Act.put, List.setIfInBounds_toArray, List.set_cons_zero, List.set_cons_succ])) | ((refine wpGo_skip rfl rfl ?_); (try simp only [Act.put, List.setIfInBounds_toArray, List.set_cons_zero, List.set_cons_succ])))
        refine wpGo_nil ?_
        simp only [List.drop_succ_cons, List.drop_zero]
        go_wp2
        go_ret
        exact ⟨rfl, (by repeat (first | (with_reducible exact Below.refl _ _) | (with_reducible refine balloc ?_ _) | (with_reducible refine Below.drew ?_) | (with_reducible refine bdrewN ?_ _) | ((with_reducible refine bset ?_ ?_ _); rotate_left; focus (first | (with_reducible exact Nat.le_refl _) | (simp; done) | (simp; omega) | omega)) | (with_reducible refine bstep (by with_reducible assumption) ?_)))⟩



set_option maxHeartbeats 1600000 in
theorem requal_same (r : Rc) (A A' : Option Addr) (n c c' : Nat) (l : List Px) (w : World) (hr : RdL encP 4 w A l) (hr' : RdL encP 4 w A' l) (hn : l.length = n) (hn2 : n ≤ 4000000000) :
    Calls Try.prog 15 #[.agg #[.int .i64 r.x0, .int .i64 r.y0, .int .i64 r.x1, .int .i64 r.y1, .slice A n c], .agg #[.int .i64 r.x0, .int .i64 r.y0, .int .i64 r.x1, .int .i64 r.y1, .slice A' n c']] w fun e w' => e = .returned (.bool true) ∧ Below w.heap.size w w' := by
  have HR := Lib.hid hr
  have HR' := Lib.hid hr'
  have Hn := Lib.hid hn
  have hneq := fun w => (neq_rect r.x0 r.y0 r.x1 r.y1 r.x0 r.y0 r.x1 r.y1 w).trans (by rw [eqB_refl])
  have hnn : ((n : Int) != (n : Int)) = false := by simp
  clear hr hr' hn
  go_enter Try.func15, Try.ntmps15
  go_wp2_with fail
  clear hneq hnn
  go_loopw [5] (fun i wr => ∃ k : Nat, k ≤ n ∧ i = .int .i64 k ∧ Below w.heap.size w wr ∧ Bk wr w.heap.size 28 #[.int .i64 r.x0, .int .i64 r.y0, .int .i64 r.x1, .int .i64 r.y1, .slice A n c] ∧ Bk wr (w.heap.size + 1) 28 #[.int .i64 r.x0, .int .i64 r.y0, .int .i64 r.x1, .int .i64 r.y1, .slice A' n c']) (fun i _ => n - (intOf i).toNat)
  case atStart => exact ⟨0, Nat.zero_le _, rfl, (by repeat (first | (with_reducible exact Below.refl _ _) | (with_reducible refine balloc ?_ _) | (with_reducible refine Below.drew ?_) | (with_reducible refine bdrewN ?_ _) | ((with_reducible refine bset ?_ ?_ _); rotate_left; focus (first | (with_reducible exact Nat.le_refl _) | (simp; done) | (simp; omega) | omega)) | (with_reducible refine bstep (by with_reducible assumption) ?_))), (by repeat (first | (with_reducible assumption) | ((with_reducible refine Bk.new _ _ _ ?_); first | (with_reducible rfl) | (simp; done)) | (with_reducible refine Bk.alloc ?_ _) | (with_reducible refine Bk.drew ?_) | (with_reducible refine Bk.drewN ?_ _) | ((with_reducible refine Bk.far ?_ ?_ _); rotate_left; focus (first | (simp; done) | (simp; omega))) | (with_reducible refine Bk.below ?_ (by with_reducible assumption)))), (by repeat (first | (with_reducible assumption) | ((with_reducible refine Bk.new _ _ _ ?_); first | (with_reducible rfl) | (simp; done)) | (with_reducible refine Bk.alloc ?_ _) | (with_reducible refine Bk.drew ?_) | (with_reducible refine Bk.drewN ?_ _) | ((with_reducible refine Bk.far ?_ ?_ _); rotate_left; focus (first | (simp; done) | (simp; omega))) | (with_reducible refine Bk.below ?_ (by with_reducible assumption))))⟩
  case round =>
    obtain ⟨k, hk, rfl, hbw, kC, kD⟩ := hrel
    obtain ⟨kc, kf, ka, kg, kl⟩ := kC.rules
    by_cases hlt : k < n
    · have hkl : k < l.length := by have := Hn.out; omega
      obtain ⟨gb, ob, rfl, hg, hcA⟩ := rdp (HR.out.below hbw) hkl
      obtain ⟨gb', ob', rfl, hg', hcB⟩ := rdp (HR'.out.below hbw) hkl
      obtain ⟨p, Hp⟩ : ∃ s, Hid (l[k] = s) := ⟨l[k], rfl⟩
      rw [Hp.out] at hcA hcB
      have QA := Lib.hid hcA
      have QB := Lib.hid hcB
      have heq := fun w => (neq_px p p w).trans (by rw [eqP_refl])
      have i0 : (0 : Int) ≤ (k : Int) := by omega
      have i1 : (k : Int) < (n : Int) := by omega
      clear hcA hcB Hp hkl
      go_wp2_with fail
      clear kc kf ka kg
      refine wp_region_gob 11 [(0, true), (1, true), (2, true), (3, true), (4, true), (5, true), (6, true), (7, true), (8, true), (9, true), (10, true)] (by kernel_rfl) (by kernel_rfl) (fun c a d v w h => by cases d <;> exact h) ?_
      repeat (refine wpGo_pure (v := ?_) rfl rfl (fun w' hS => ?_) ?_; rotate_left; (· obtain ⟨q0, q1, q2, q3⟩ := QA.out; have qr0 := (hS.cell (p := ⟨gb, ob + k * 4, none⟩) hg).trans q0; have qr1 := (hS.cell (p := ⟨gb, ob + k * 4 + 1, none⟩) hg).trans q1; have qr2 := (hS.cell (p := ⟨gb, ob + k * 4 + 2, none⟩) hg).trans q2; have qr3 := (hS.cell (p := ⟨gb, ob + k * 4 + 3, none⟩) hg).trans q3; obtain ⟨s0, s1, s2, s3⟩ := QB.out; have sr0 := (hS.cell (p := ⟨gb', ob' + k * 4, none⟩) hg').trans s0; have sr1 := (hS.cell (p := ⟨gb', ob' + k * 4 + 1, none⟩) hg').trans s1; have sr2 := (hS.cell (p := ⟨gb', ob' + k * 4 + 2, none⟩) hg').trans s2; have sr3 := (hS.cell (p := ⟨gb', ob' + k * 4 + 3, none⟩) hg').trans s3; have jC := kC.below hS; have jD := kD.below hS; obtain ⟨kc, kf, ka, kg, kl⟩ := jC.rules; obtain ⟨kc', kf', ka', kg', kl'⟩ := jD.rules; go_simp; exact rfl); (try simp only [Act.put, List.setIfInBounds_toArray, List.set_cons_zero, List.set_cons_succ]))
      refine wpGo_nil ?_
      simp only [List.drop_succ_cons, List.drop_zero]
      go_wp2
      go_roundw
      case rel => exact ⟨k + 1, by omega, by go_num, hbw.drew, kC.drew, kD.drew⟩
      case measure => simp [intOf]; omega
    · go_wp2
      go_ret
      exact ⟨rfl, hbw⟩
end Go.Proofs.Ytnefnnhnjmmebaa
