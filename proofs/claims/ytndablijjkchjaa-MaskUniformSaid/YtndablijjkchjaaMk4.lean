/-
  The walks of mask.Uniform and grisailleref21.Uniform.
-/
import Derived.Test.YtndablijjkchjaaMk1
import Derived.Test.YtndablijjkchjaaMkMadeU
namespace Go.Proofs.Ytndablijjkchjaa
open Go.RowKit
set_option linter.unusedSimpArgs false
set_option linter.unusedVariables false

/-- The mask of one value, or the error. -/
def uniR (r : Rc) : Rc := if validB r && decide (areaR r ≤ 65536) then canonR r else ⟨0, 0, 0, 0⟩
def uniL (r : Rc) (v : Int) : List Int := if validB r && decide (areaR r ≤ 65536) then List.replicate (areaR r).toNat v else []
def uniE (r : Rc) : Int := if validB r then (if decide (areaR r ≤ 65536) then 0 else 5) else 6
set_option maxHeartbeats 400000 in
theorem uni1_any (x y : Int) (c0 : Nat) (v : Int) (w : World) (hC : Bk w c0 5 #[.int .u8 v]) :
    Calls Try.prog 63 #[.int .i64 x, .int .i64 y, .pointer (some ⟨c0, 0, none⟩)] w fun e w' => e = .returned (.int .u8 v) ∧ Below w.heap.size w w' := by
  obtain ⟨kc, kf, ka, kg, kl⟩ := hC.rules
  go_enter Try.func63, Try.ntmps63
  go_wp2
  go_ret
  exact ⟨rfl, (by repeat (first | (with_reducible exact Below.refl _ _) | (with_reducible refine balloc ?_ _) | (with_reducible refine Below.drew ?_) | (with_reducible refine bdrewN ?_ _) | ((with_reducible refine bset ?_ ?_ _); rotate_left; focus (first | (with_reducible exact Nat.le_refl _) | (simp; done) | (simp; omega) | omega)) | (with_reducible refine bstep (by with_reducible assumption) ?_)))⟩

set_option maxHeartbeats 3200000 in
theorem uniform_any (r : Rc) (v : Int) (w : World) :
    Calls Try.prog 25 #[.agg #[.int .i64 r.x0, .int .i64 r.y0, .int .i64 r.x1, .int .i64 r.y1], .int .u8 v] w (RetME (uniR r) (uniL r v) (uniE r) w) := by
  have HVal := Lib.hid (valid_any r.x0 r.y0 r.x1 r.y1)
  have HA := Lib.hid (area_any r.x0 r.y0 r.x1 r.y1)
  obtain ⟨b, Hv⟩ : ∃ v, Hid (validB r = v) := ⟨_, rfl⟩
  obtain ⟨a, Ha⟩ : ∃ a, Hid (areaR r = a) := ⟨_, rfl⟩
  have ev : validB ⟨r.x0, r.y0, r.x1, r.y1⟩ = b := Hv.out
  have ea : areaR ⟨r.x0, r.y0, r.x1, r.y1⟩ = a := Ha.out
  rw [ev] at HVal
  rw [ea] at HA
  have hab := area_bd r
  rw [Ha.out] at hab
  clear ev ea
  cases b with
  | false =>
    have e1 : uniR r = ⟨0, 0, 0, 0⟩ := by unfold uniR; rw [Hv.out]; rfl
    have e2 : uniL r v = [] := by unfold uniL; rw [Hv.out]; rfl
    have e3 : uniE r = 6 := by unfold uniE; rw [Hv.out]; rfl
    rw [e1, e2, e3]
    clear e1 e2 e3
    go_enter Try.func25, Try.ntmps25
    go_wp2_with fail
    refine (HVal.out _).mono ?_
    rintro e w1 ⟨rfl, hb1⟩
    have kO1 : Bk w1 (w.heap.size + 1 + 1) 29 #[.int .i64 0, .int .i64 0, .int .i64 0, .int .i64 0, .slice none 0 0] := (by repeat (first | (with_reducible assumption) | ((with_reducible refine Bk.new _ _ _ ?_); first | (with_reducible rfl) | (simp; done)) | (with_reducible refine Bk.alloc ?_ _) | (with_reducible refine Bk.drew ?_) | (with_reducible refine Bk.drewN ?_ _) | ((with_reducible refine Bk.far ?_ ?_ _); rotate_left; focus (first | (simp; done) | (simp; omega))) | (with_reducible refine Bk.below ?_ (by with_reducible assumption)))); obtain ⟨kcO1, kfO1, kaO1, kgO1, klO1⟩ := kO1.rules
    go_wp2
    refine bodyPost_ret (v := _) ?_ rfl (RetME.no 6 (by repeat (first | (with_reducible exact Below.refl _ _) | (with_reducible refine balloc ?_ _) | (with_reducible refine Below.drew ?_) | (with_reducible refine bdrewN ?_ _) | ((with_reducible refine bset ?_ ?_ _); rotate_left; focus (first | (with_reducible exact Nat.le_refl _) | (simp; done) | (simp; omega) | omega)) | (with_reducible refine bstep (by with_reducible assumption) ?_))))
    simp [results, Try.results25, go_sem, kcO1]
  | true =>
    cases h2 : decide ((65536 : Int) < a) with
    | true =>
      have h2' : decide (areaR r ≤ 65536) = false := by have := of_decide_eq_true h2; rw [Ha.out]; simp; omega
      have e1 : uniR r = ⟨0, 0, 0, 0⟩ := by unfold uniR; rw [Hv.out, h2']; rfl
      have e2 : uniL r v = [] := by unfold uniL; rw [Hv.out, h2']; rfl
      have e3 : uniE r = 5 := by unfold uniE; rw [Hv.out, h2']; rfl
      rw [e1, e2, e3]
      clear e1 e2 e3 h2'
      go_enter Try.func25, Try.ntmps25
      go_wp2_with fail
      refine (HVal.out _).mono ?_
      rintro e w1 ⟨rfl, hb1⟩
      have kR1 : Bk w1 (w.heap.size) 26 #[.int .i64 r.x0, .int .i64 r.y0, .int .i64 r.x1, .int .i64 r.y1] := (by repeat (first | (with_reducible assumption) | ((with_reducible refine Bk.new _ _ _ ?_); first | (with_reducible rfl) | (simp; done)) | (with_reducible refine Bk.alloc ?_ _) | (with_reducible refine Bk.drew ?_) | (with_reducible refine Bk.drewN ?_ _) | ((with_reducible refine Bk.far ?_ ?_ _); rotate_left; focus (first | (simp; done) | (simp; omega))) | (with_reducible refine Bk.below ?_ (by with_reducible assumption)))); obtain ⟨kcR1, kfR1, kaR1, kgR1, klR1⟩ := kR1.rules
      go_wp2_with fail
      refine (HA.out _).mono ?_
      rintro e w2 ⟨rfl, hb2⟩
      clear kcR1 kfR1 kaR1 kgR1
      have kO2 : Bk w2 (w.heap.size + 1 + 1) 29 #[.int .i64 0, .int .i64 0, .int .i64 0, .int .i64 0, .slice none 0 0] := (by repeat (first | (with_reducible assumption) | ((with_reducible refine Bk.new _ _ _ ?_); first | (with_reducible rfl) | (simp; done)) | (with_reducible refine Bk.alloc ?_ _) | (with_reducible refine Bk.drew ?_) | (with_reducible refine Bk.drewN ?_ _) | ((with_reducible refine Bk.far ?_ ?_ _); rotate_left; focus (first | (simp; done) | (simp; omega))) | (with_reducible refine Bk.below ?_ (by with_reducible assumption)))); obtain ⟨kcO2, kfO2, kaO2, kgO2, klO2⟩ := kO2.rules
      go_wp2
      refine bodyPost_ret (v := _) ?_ rfl (RetME.no 5 (by repeat (first | (with_reducible exact Below.refl _ _) | (with_reducible refine balloc ?_ _) | (with_reducible refine Below.drew ?_) | (with_reducible refine bdrewN ?_ _) | ((with_reducible refine bset ?_ ?_ _); rotate_left; focus (first | (with_reducible exact Nat.le_refl _) | (simp; done) | (simp; omega) | omega)) | (with_reducible refine bstep (by with_reducible assumption) ?_))))
      simp [results, Try.results25, go_sem, kcO2]
    | false =>
      have h2' : decide (areaR r ≤ 65536) = true := by have := of_decide_eq_false h2; rw [Ha.out]; simp; omega
      obtain ⟨q, Hq⟩ : ∃ q, Hid (canonR r = q) := ⟨_, rfl⟩
      have e1 : uniR r = q := by unfold uniR; rw [Hv.out, h2']; exact Hq.out
      have e2 : uniL r v = pixL (fun _ _ => v) q := by
        rw [← Hq.out, pix_const]
        unfold uniL; rw [Hv.out, h2']; rfl
      have e3 : uniE r = 0 := by unfold uniE; rw [Hv.out, h2']; rfl
      rw [e1, e2, e3]
      clear e1 e2 e3 h2'
      go_enter Try.func25, Try.ntmps25
      go_wp2_with fail
      refine (HVal.out _).mono ?_
      rintro e w1 ⟨rfl, hb1⟩
      have kR1 : Bk w1 (w.heap.size) 26 #[.int .i64 r.x0, .int .i64 r.y0, .int .i64 r.x1, .int .i64 r.y1] := (by repeat (first | (with_reducible assumption) | ((with_reducible refine Bk.new _ _ _ ?_); first | (with_reducible rfl) | (simp; done)) | (with_reducible refine Bk.alloc ?_ _) | (with_reducible refine Bk.drew ?_) | (with_reducible refine Bk.drewN ?_ _) | ((with_reducible refine Bk.far ?_ ?_ _); rotate_left; focus (first | (simp; done) | (simp; omega))) | (with_reducible refine Bk.below ?_ (by with_reducible assumption)))); obtain ⟨kcR1, kfR1, kaR1, kgR1, klR1⟩ := kR1.rules
      go_wp2_with fail
      refine (HA.out _).mono ?_
      rintro e w2 ⟨rfl, hb2⟩
      clear kcR1 kfR1 kaR1 kgR1
      have kR2 : Bk w2 (w.heap.size) 26 #[.int .i64 r.x0, .int .i64 r.y0, .int .i64 r.x1, .int .i64 r.y1] := (by repeat (first | (with_reducible assumption) | ((with_reducible refine Bk.new _ _ _ ?_); first | (with_reducible rfl) | (simp; done)) | (with_reducible refine Bk.alloc ?_ _) | (with_reducible refine Bk.drew ?_) | (with_reducible refine Bk.drewN ?_ _) | ((with_reducible refine Bk.far ?_ ?_ _); rotate_left; focus (first | (simp; done) | (simp; omega))) | (with_reducible refine Bk.below ?_ (by with_reducible assumption)))); obtain ⟨kcR2, kfR2, kaR2, kgR2, klR2⟩ := kR2.rules; have kP2 : Bk w2 (w.heap.size + 1) 5 #[.int .u8 v] := (by repeat (first | (with_reducible assumption) | ((with_reducible refine Bk.new _ _ _ ?_); first | (with_reducible rfl) | (simp; done)) | (with_reducible refine Bk.alloc ?_ _) | (with_reducible refine Bk.drew ?_) | (with_reducible refine Bk.drewN ?_ _) | ((with_reducible refine Bk.far ?_ ?_ _); rotate_left; focus (first | (simp; done) | (simp; omega))) | (with_reducible refine Bk.below ?_ (by with_reducible assumption)))); obtain ⟨kcP2, kfP2, kaP2, kgP2, klP2⟩ := kP2.rules; have kO2 : Bk w2 (w.heap.size + 1 + 1) 29 #[.int .i64 0, .int .i64 0, .int .i64 0, .int .i64 0, .slice none 0 0] := (by repeat (first | (with_reducible assumption) | ((with_reducible refine Bk.new _ _ _ ?_); first | (with_reducible rfl) | (simp; done)) | (with_reducible refine Bk.alloc ?_ _) | (with_reducible refine Bk.drew ?_) | (with_reducible refine Bk.drewN ?_ _) | ((with_reducible refine Bk.far ?_ ?_ _); rotate_left; focus (first | (simp; done) | (simp; omega))) | (with_reducible refine Bk.below ?_ (by with_reducible assumption)))); obtain ⟨kcO2, kfO2, kaO2, kgO2, klO2⟩ := kO2.rules
      have hB2 : Below w.heap.size w w2 := (by repeat (first | (with_reducible exact Below.refl _ _) | (with_reducible refine balloc ?_ _) | (with_reducible refine Below.drew ?_) | (with_reducible refine bdrewN ?_ _) | ((with_reducible refine bset ?_ ?_ _); rotate_left; focus (first | (with_reducible exact Nat.le_refl _) | (simp; done) | (simp; omega) | omega)) | (with_reducible refine bstep (by with_reducible assumption) ?_)))
      clear kcP2 kfP2 kaP2 kgP2 kcO2 kfO2 kaO2 kgO2
      go_wp2_with fail
      refine (mmade_U r (w.heap.size + 1) (fun _ _ => v) _ q Hq (fun x y w' _ _ _ _ hb => uni1_any x y (w.heap.size + 1) v w' (kP2.below hb))).mono ?_
      rintro e w3 ⟨v3, rfl, ho3, hb3⟩
      clear kcR2 kfR2 kaR2 kgR2
      have kO3 := kO2.below hb3
      have hB3 : Below w.heap.size w w3 := bstep hb3 hB2
      have ho := ho3.mono hB2.size
      obtain ⟨kcO, kfO, kaO, kgO, klO⟩ := kO3.rules
      obtain ⟨kc', kf', ka', kg', kl'⟩ := kO3.rules
      obtain ⟨A0, c0', hv0, _, _⟩ := ho.form encB_len
      generalize (pixL (fun _ _ => v) q).length = n0 at hv0
      subst hv0
      have o1 := ho.setFar kO3 (by decide) 0 (.int .i64 q.x0)
      have m1 := kO3.set 0 (.int .i64 q.x0)
      have o2 := o1.setFar m1 (by decide) 1 (.int .i64 q.y0)
      have m2 := m1.set 1 (.int .i64 q.y0)
      have o3 := o2.setFar m2 (by decide) 2 (.int .i64 q.x1)
      have m3 := m2.set 2 (.int .i64 q.x1)
      have o4 := o3.setFar m3 (by decide) 3 (.int .i64 q.y1)
      have m4 := m3.set 3 (.int .i64 q.y1)
      have o5 := o4.setFar m4 (by decide) 4 (.slice A0 n0 c0')
      clear o1 o2 o3 o4 m1 m2 m3 m4
      go_wp2
      refine bodyPost_ret (v := _) ?_ rfl ⟨_, rfl, o5, (by repeat (first | (with_reducible exact Below.refl _ _) | (with_reducible refine balloc ?_ _) | (with_reducible refine Below.drew ?_) | (with_reducible refine bdrewN ?_ _) | ((with_reducible refine bset ?_ ?_ _); rotate_left; focus (first | (with_reducible exact Nat.le_refl _) | (simp; done) | (simp; omega) | omega)) | (with_reducible refine bstep (by with_reducible assumption) ?_)))⟩
      simp [results, Try.results25, go_sem, kc']

set_option maxHeartbeats 3200000 in
theorem runiform_any (r : Rc) (v : Int) (w : World) :
    Calls Try.prog 26 #[.agg #[.int .i64 r.x0, .int .i64 r.y0, .int .i64 r.x1, .int .i64 r.y1], .int .u8 v] w (RetME (uniR r) (uniL r v) (uniE r) w) := by
  have HVal := Lib.hid (rvalid_any r.x0 r.y0 r.x1 r.y1)
  have HA := Lib.hid (rarea_any r.x0 r.y0 r.x1 r.y1)
  obtain ⟨b, Hv⟩ : ∃ v, Hid (validB r = v) := ⟨_, rfl⟩
  obtain ⟨a, Ha⟩ : ∃ a, Hid (areaR r = a) := ⟨_, rfl⟩
  have ev : validB ⟨r.x0, r.y0, r.x1, r.y1⟩ = b := Hv.out
  have ea : areaR ⟨r.x0, r.y0, r.x1, r.y1⟩ = a := Ha.out
  rw [ev] at HVal
  rw [ea] at HA
  have hab := area_bd r
  rw [Ha.out] at hab
  clear ev ea
  cases b with
  | false =>
    have e1 : uniR r = ⟨0, 0, 0, 0⟩ := by unfold uniR; rw [Hv.out]; rfl
    have e2 : uniL r v = [] := by unfold uniL; rw [Hv.out]; rfl
    have e3 : uniE r = 6 := by unfold uniE; rw [Hv.out]; rfl
    rw [e1, e2, e3]
    clear e1 e2 e3
    go_enter Try.func26, Try.ntmps26
    go_wp2_with fail
    refine (HVal.out _).mono ?_
    rintro e w1 ⟨rfl, hb1⟩
    have kO1 : Bk w1 (w.heap.size + 1) 29 #[.int .i64 0, .int .i64 0, .int .i64 0, .int .i64 0, .slice none 0 0] := (by repeat (first | (with_reducible assumption) | ((with_reducible refine Bk.new _ _ _ ?_); first | (with_reducible rfl) | (simp; done)) | (with_reducible refine Bk.alloc ?_ _) | (with_reducible refine Bk.drew ?_) | (with_reducible refine Bk.drewN ?_ _) | ((with_reducible refine Bk.far ?_ ?_ _); rotate_left; focus (first | (simp; done) | (simp; omega))) | (with_reducible refine Bk.below ?_ (by with_reducible assumption)))); obtain ⟨kcO1, kfO1, kaO1, kgO1, klO1⟩ := kO1.rules
    go_wp2
    refine bodyPost_ret (v := _) ?_ rfl (RetME.no 6 (by repeat (first | (with_reducible exact Below.refl _ _) | (with_reducible refine balloc ?_ _) | (with_reducible refine Below.drew ?_) | (with_reducible refine bdrewN ?_ _) | ((with_reducible refine bset ?_ ?_ _); rotate_left; focus (first | (with_reducible exact Nat.le_refl _) | (simp; done) | (simp; omega) | omega)) | (with_reducible refine bstep (by with_reducible assumption) ?_))))
    simp [results, Try.results26, go_sem, kcO1]
  | true =>
    cases h2 : decide ((65536 : Int) < a) with
    | true =>
      have h2' : decide (areaR r ≤ 65536) = false := by have := of_decide_eq_true h2; rw [Ha.out]; simp; omega
      have e1 : uniR r = ⟨0, 0, 0, 0⟩ := by unfold uniR; rw [Hv.out, h2']; rfl
      have e2 : uniL r v = [] := by unfold uniL; rw [Hv.out, h2']; rfl
      have e3 : uniE r = 5 := by unfold uniE; rw [Hv.out, h2']; rfl
      rw [e1, e2, e3]
      clear e1 e2 e3 h2'
      go_enter Try.func26, Try.ntmps26
      go_wp2_with fail
      refine (HVal.out _).mono ?_
      rintro e w1 ⟨rfl, hb1⟩
      have kR1 : Bk w1 (w.heap.size) 26 #[.int .i64 r.x0, .int .i64 r.y0, .int .i64 r.x1, .int .i64 r.y1] := (by repeat (first | (with_reducible assumption) | ((with_reducible refine Bk.new _ _ _ ?_); first | (with_reducible rfl) | (simp; done)) | (with_reducible refine Bk.alloc ?_ _) | (with_reducible refine Bk.drew ?_) | (with_reducible refine Bk.drewN ?_ _) | ((with_reducible refine Bk.far ?_ ?_ _); rotate_left; focus (first | (simp; done) | (simp; omega))) | (with_reducible refine Bk.below ?_ (by with_reducible assumption)))); obtain ⟨kcR1, kfR1, kaR1, kgR1, klR1⟩ := kR1.rules
      go_wp2_with fail
      refine (HA.out _).mono ?_
      rintro e w2 ⟨rfl, hb2⟩
      clear kcR1 kfR1 kaR1 kgR1
      have kO2 : Bk w2 (w.heap.size + 1) 29 #[.int .i64 0, .int .i64 0, .int .i64 0, .int .i64 0, .slice none 0 0] := (by repeat (first | (with_reducible assumption) | ((with_reducible refine Bk.new _ _ _ ?_); first | (with_reducible rfl) | (simp; done)) | (with_reducible refine Bk.alloc ?_ _) | (with_reducible refine Bk.drew ?_) | (with_reducible refine Bk.drewN ?_ _) | ((with_reducible refine Bk.far ?_ ?_ _); rotate_left; focus (first | (simp; done) | (simp; omega))) | (with_reducible refine Bk.below ?_ (by with_reducible assumption)))); obtain ⟨kcO2, kfO2, kaO2, kgO2, klO2⟩ := kO2.rules
      go_wp2
      refine bodyPost_ret (v := _) ?_ rfl (RetME.no 5 (by repeat (first | (with_reducible exact Below.refl _ _) | (with_reducible refine balloc ?_ _) | (with_reducible refine Below.drew ?_) | (with_reducible refine bdrewN ?_ _) | ((with_reducible refine bset ?_ ?_ _); rotate_left; focus (first | (with_reducible exact Nat.le_refl _) | (simp; done) | (simp; omega) | omega)) | (with_reducible refine bstep (by with_reducible assumption) ?_))))
      simp [results, Try.results26, go_sem, kcO2]
    | false =>
      have h2' : decide (areaR r ≤ 65536) = true := by have := of_decide_eq_false h2; rw [Ha.out]; simp; omega
      obtain ⟨q, Hq⟩ : ∃ q, Hid (canonR r = q) := ⟨_, rfl⟩
      have e1 : uniR r = q := by unfold uniR; rw [Hv.out, h2']; exact Hq.out
      obtain ⟨n, hna⟩ : ∃ n : Nat, a = (n : Int) := ⟨a.toNat, by omega⟩
      subst hna
      have e2 : uniL r v = List.replicate n v := by unfold uniL; rw [Hv.out, h2', Ha.out]; rfl
      have e3 : uniE r = 0 := by unfold uniE; rw [Hv.out, h2']; rfl
      have hn65 : n ≤ 65536 := by have := of_decide_eq_false h2; omega
      rw [e1, e2, e3]
      clear e1 e2 e3 h2' hab
      go_enter Try.func26, Try.ntmps26
      go_wp2_with fail
      refine (HVal.out _).mono ?_
      rintro e w1 ⟨rfl, hb1⟩
      have kR1 : Bk w1 (w.heap.size) 26 #[.int .i64 r.x0, .int .i64 r.y0, .int .i64 r.x1, .int .i64 r.y1] := (by repeat (first | (with_reducible assumption) | ((with_reducible refine Bk.new _ _ _ ?_); first | (with_reducible rfl) | (simp; done)) | (with_reducible refine Bk.alloc ?_ _) | (with_reducible refine Bk.drew ?_) | (with_reducible refine Bk.drewN ?_ _) | ((with_reducible refine Bk.far ?_ ?_ _); rotate_left; focus (first | (simp; done) | (simp; omega))) | (with_reducible refine Bk.below ?_ (by with_reducible assumption)))); obtain ⟨kcR1, kfR1, kaR1, kgR1, klR1⟩ := kR1.rules
      go_wp2_with fail
      refine (HA.out _).mono ?_
      rintro e w2 ⟨rfl, hb2⟩
      clear kcR1 kfR1 kaR1 kgR1
      have kR2 : Bk w2 (w.heap.size) 26 #[.int .i64 r.x0, .int .i64 r.y0, .int .i64 r.x1, .int .i64 r.y1] := (by repeat (first | (with_reducible assumption) | ((with_reducible refine Bk.new _ _ _ ?_); first | (with_reducible rfl) | (simp; done)) | (with_reducible refine Bk.alloc ?_ _) | (with_reducible refine Bk.drew ?_) | (with_reducible refine Bk.drewN ?_ _) | ((with_reducible refine Bk.far ?_ ?_ _); rotate_left; focus (first | (simp; done) | (simp; omega))) | (with_reducible refine Bk.below ?_ (by with_reducible assumption)))); obtain ⟨kcR2, kfR2, kaR2, kgR2, klR2⟩ := kR2.rules
      go_wp2_with fail
      refine (rcanon_q _ _ _ _ q Hq _).mono ?_
      rintro e w3 ⟨rfl, hb3⟩
      clear kcR2 kfR2 kaR2 kgR2
      have kR3 : Bk w3 (w.heap.size) 26 #[.int .i64 r.x0, .int .i64 r.y0, .int .i64 r.x1, .int .i64 r.y1] := (by repeat (first | (with_reducible assumption) | ((with_reducible refine Bk.new _ _ _ ?_); first | (with_reducible rfl) | (simp; done)) | (with_reducible refine Bk.alloc ?_ _) | (with_reducible refine Bk.drew ?_) | (with_reducible refine Bk.drewN ?_ _) | ((with_reducible refine Bk.far ?_ ?_ _); rotate_left; focus (first | (simp; done) | (simp; omega))) | (with_reducible refine Bk.below ?_ (by with_reducible assumption)))); obtain ⟨kcR3, kfR3, kaR3, kgR3, klR3⟩ := kR3.rules; have kO3 : Bk w3 (w.heap.size + 1) 29 #[.int .i64 0, .int .i64 0, .int .i64 0, .int .i64 0, .slice none 0 0] := (by repeat (first | (with_reducible assumption) | ((with_reducible refine Bk.new _ _ _ ?_); first | (with_reducible rfl) | (simp; done)) | (with_reducible refine Bk.alloc ?_ _) | (with_reducible refine Bk.drew ?_) | (with_reducible refine Bk.drewN ?_ _) | ((with_reducible refine Bk.far ?_ ?_ _); rotate_left; focus (first | (simp; done) | (simp; omega))) | (with_reducible refine Bk.below ?_ (by with_reducible assumption)))); obtain ⟨kcO3, kfO3, kaO3, kgO3, klO3⟩ := kO3.rules
      have hB3 : Below w.heap.size w w3 := (by repeat (first | (with_reducible exact Below.refl _ _) | (with_reducible refine balloc ?_ _) | (with_reducible refine Below.drew ?_) | (with_reducible refine bdrewN ?_ _) | ((with_reducible refine bset ?_ ?_ _); rotate_left; focus (first | (with_reducible exact Nat.le_refl _) | (simp; done) | (simp; omega) | omega)) | (with_reducible refine bstep (by with_reducible assumption) ?_)))
      have hs3 := kO3.lt
      clear kcR3 kfR3 kaR3 kgR3 kcO3 kfO3 kaO3 kgO3 hb1 hb2 hb3
      go_wp2_with fail
      go_loopw [7] (fun i wr => ∃ (k : Nat) (u : Value), k ≤ n ∧ i = .int .i64 k ∧ Bk wr w3.heap.size 29 #[.int .i64 q.x0, .int .i64 q.y0, .int .i64 q.x1, .int .i64 q.y1, u] ∧ Bk wr w.heap.size 26 #[.int .i64 r.x0, .int .i64 r.y0, .int .i64 r.x1, .int .i64 r.y1] ∧ Bk wr (w.heap.size + 1) 29 #[.int .i64 0, .int .i64 0, .int .i64 0, .int .i64 0, .slice none 0 0] ∧ OwnL encB 5 1 wr w3.heap.size u (List.replicate k v) ∧ Below w.heap.size w wr) (fun i _ => n - (intOf i).toNat)
      case atStart => exact ⟨0, _, Nat.zero_le _, rfl, Bk.new _ _ _ rfl, kR3.alloc _, kO3.alloc _, OwnL.nil _ _, (by repeat (first | (with_reducible exact Below.refl _ _) | (with_reducible refine balloc ?_ _) | (with_reducible refine Below.drew ?_) | (with_reducible refine bdrewN ?_ _) | ((with_reducible refine bset ?_ ?_ _); rotate_left; focus (first | (with_reducible exact Nat.le_refl _) | (simp; done) | (simp; omega) | omega)) | (with_reducible refine bstep (by with_reducible assumption) ?_)))⟩
      case round =>
        obtain ⟨k, u, hk, rfl, jB, jR, jO, hu, hbu⟩ := hrel
        obtain ⟨kcR, kfR, kaR, kgR, klR⟩ := jR.rules
        go_wp2_with fail
        refine (HA.out _).mono ?_
        rintro e wa ⟨rfl, hba⟩
        have iB := jB.below hba
        have iR := jR.below hba
        have iO := jO.below hba
        have iu := hu.below hba
        have hbA : Below w.heap.size w wa := bstep hba hbu
        clear kcR kfR kaR kgR jB jR jO hu hbu hba
        obtain ⟨kcB, kfB, kaB, kgB, klB⟩ := iB.rules
        by_cases hlt : k < n
        · have hlen : (List.replicate k v).length ≤ 4294967296 := by simp; omega
          have hu2 := iu.alloc (.cells #[.int .u8 v] 5)
          have jB2 := iB.alloc (.cells #[.int .u8 v] 5)
          have jR2 := iR.alloc (.cells #[.int .u8 v] 5)
          have jO2 := iO.alloc (.cells #[.int .u8 v] 5)
          have hB2 := balloc hbA (.cells #[.int .u8 v] 5)
          have hsz2 := hB2.size
          have hl2 := jB2.lt
          go_wp2_with (at_builtin; refine wpList_append_one encB_len encB_one 27 Try.infoU8 rfl (by decide) (by decide) Try.underlying27 rfl _ _ rfl w3.heap.size u _ rfl hu2 wa.heap.size v rfl (Bk.new _ _ _ rfl) rfl hlen (by simp; omega) ?_; intro v5 w5 ho5 hg5 hv5x; obtain ⟨g5, c5, hv5, _⟩ := hv5x; generalize (List.replicate k v).length + 1 = n5 at hv5; subst hv5; have jB5 := jB2.grown hg5 (hu2.neBk jB2 (by decide)); obtain ⟨kc5, kf5, ka5, kg5, kl5⟩ := jB5.rules)
          have jR5 := jR2.grown hg5 (hu2.neBk jR2 (by decide))
          have jO5 := jO2.grown hg5 (hu2.neBk jO2 (by decide))
          have hB5 := below_grown hu2 hg5 hB2 (by omega)
          have HL : Hid (List.replicate k v ++ [v] = List.replicate (k + 1) v) := by unfold Hid; rw [List.replicate_succ']
          rw [HL.out] at ho5
          have jB6 : Bk _ w3.heap.size 29 #[.int .i64 q.x0, .int .i64 q.y0, .int .i64 q.x1, .int .i64 q.y1, .slice (some ⟨g5, 0, none⟩) n5 c5] := jB5.set 4 (.slice (some ⟨g5, 0, none⟩) n5 c5)
          have jR6 := jR5.far (p := ⟨w3.heap.size, 4, none⟩) (show w.heap.size ≠ w3.heap.size by omega) (.slice (some ⟨g5, 0, none⟩) n5 c5)
          have jO6 := jO5.far (p := ⟨w3.heap.size, 4, none⟩) (show w.heap.size + 1 ≠ w3.heap.size by omega) (.slice (some ⟨g5, 0, none⟩) n5 c5)
          have ho6 := ho5.setFar jB5 (by decide) 4 (.slice (some ⟨g5, 0, none⟩) n5 c5)
          have hB6 := bset hB5 (p := ⟨w3.heap.size, 4, none⟩) (show w.heap.size ≤ w3.heap.size by omega) (.slice (some ⟨g5, 0, none⟩) n5 c5)
          clear hl2 HL jB5 jO5 jR5 ho5 hB5 jB2 jO2 jR2 hu2 hB2 hsz2 hg5 iB iR iO iu kcB kfB kaB kgB
          go_wp2
          go_roundw
          case rel => exact ⟨k + 1, _, by omega, by go_num, jB6, jR6, jO6, ho6, hB6⟩
          case measure => simp [intOf]; omega
        · obtain rfl : k = n := by omega
          have ho := iu
          obtain ⟨kc', kf', ka', kg', kl'⟩ := iO.rules
          obtain ⟨A0, c0', hv0, _, _⟩ := ho.form encB_len
          generalize (List.replicate k v).length = n0 at hv0
          subst hv0
          have o1 := ho.setFar iO (by decide) 0 (.int .i64 q.x0)
          have m1 := iO.set 0 (.int .i64 q.x0)
          have o2 := o1.setFar m1 (by decide) 1 (.int .i64 q.y0)
          have m2 := m1.set 1 (.int .i64 q.y0)
          have o3 := o2.setFar m2 (by decide) 2 (.int .i64 q.x1)
          have m3 := m2.set 2 (.int .i64 q.x1)
          have o4 := o3.setFar m3 (by decide) 3 (.int .i64 q.y1)
          have m4 := m3.set 3 (.int .i64 q.y1)
          have o5 := o4.setFar m4 (by decide) 4 (.slice A0 n0 c0')
          clear o1 o2 o3 o4 m1 m2 m3 m4
          go_wp2
          refine bodyPost_ret (v := _) ?_ rfl ⟨_, rfl, o5.mono (by omega), (by repeat (first | (with_reducible exact Below.refl _ _) | (with_reducible refine balloc ?_ _) | (with_reducible refine Below.drew ?_) | (with_reducible refine bdrewN ?_ _) | ((with_reducible refine bset ?_ ?_ _); rotate_left; focus (first | (with_reducible exact Nat.le_refl _) | (simp; done) | (simp; omega) | omega)) | (with_reducible refine bstep (by with_reducible assumption) ?_)))⟩
          simp [results, Try.results26, go_sem, kc']
end Go.Proofs.Ytndablijjkchjaa
