/-
  The walks of bitmap.New and grisailleref30.New.
-/
import Derived.Test.YtnefnnhnjmmebaaBm2
namespace Go.Proofs.Ytnefnnhnjmmebaa
open Go.RowKit
set_option linter.unusedSimpArgs false
set_option linter.unusedVariables false

/-- What a function returns that makes a bitmap or an error. -/
def RetBE (r : Rc) (l : List Px) (er : Int) (w : World) (e : Ending) (w' : World) : Prop :=
  ∃ v, e = .returned (.tuple #[.agg #[.int .i64 r.x0, .int .i64 r.y0, .int .i64 r.x1, .int .i64 r.y1, v], .int .i64 er]) ∧ OwnL encP 25 4 w' w.heap.size v l ∧ Below w.heap.size w w'
theorem RetBE.no {w w' : World} (er : Int) (h : Below w.heap.size w w') : RetBE ⟨0, 0, 0, 0⟩ [] er w (.returned (.tuple #[.agg #[.int .i64 0, .int .i64 0, .int .i64 0, .int .i64 0, .slice none 0 0], .int .i64 er])) w' := ⟨_, rfl, OwnL.nil _ _, h⟩


set_option maxHeartbeats 400000 in
theorem new1_any (x y : Int) (c0 : Nat) (p : Px) (cl : Px) (Hc : Hid (clampP p = cl)) (w : World) (hC : Bk w c0 25 #[.int .u8 p.r, .int .u8 p.g, .int .u8 p.b, .int .u8 p.a]) :
    Calls Try.prog 50 #[.int .i64 x, .int .i64 y, .pointer (some ⟨c0, 0, none⟩)] w fun e w' => e = .returned (.agg #[.int .u8 cl.r, .int .u8 cl.g, .int .u8 cl.b, .int .u8 cl.a]) ∧ Below w.heap.size w w' := by
  obtain ⟨kc, kf, ka, kg, kl⟩ := hC.rules
  have hne : ¬ c0 = w.heap.size := by omega
  go_enter Try.func50, Try.ntmps50
  go_wp2_with fail
  refine (clamp_q p.r p.g p.b p.a cl Hc _).mono ?_
  rintro e w1 ⟨rfl, hb1⟩
  have kO : Bk w1 w.heap.size 25 #[.int .u8 0, .int .u8 0, .int .u8 0, .int .u8 0] := (by repeat (first | (with_reducible assumption) | ((with_reducible refine Bk.new _ _ _ ?_); first | (with_reducible rfl) | (simp; done)) | (with_reducible refine Bk.alloc ?_ _) | (with_reducible refine Bk.drew ?_) | (with_reducible refine Bk.drewN ?_ _) | ((with_reducible refine Bk.far ?_ ?_ _); rotate_left; focus (first | (simp; done) | (simp; omega))) | (with_reducible refine Bk.below ?_ (by with_reducible assumption))))
  obtain ⟨kcO, kfO, kaO, kgO, klO⟩ := kO.rules
  clear kc kf ka kg
  go_wp2
  refine bodyPost_ret (v := _) ?_ rfl ⟨rfl, (by repeat (first | (with_reducible exact Below.refl _ _) | (with_reducible refine balloc ?_ _) | (with_reducible refine Below.drew ?_) | (with_reducible refine bdrewN ?_ _) | ((with_reducible refine bset ?_ ?_ _); rotate_left; focus (first | (with_reducible exact Nat.le_refl _) | (simp; done) | (simp; omega) | omega)) | (with_reducible refine bstep (by with_reducible assumption) ?_)))⟩
  simp [results, Try.results50, go_sem, kcO]

/-- The bitmap of one color, or the error. -/
def newR (r : Rc) : Rc := if validB r && decide (areaR r ≤ 65536) then canonR r else ⟨0, 0, 0, 0⟩
def newL (r : Rc) (p : Px) : List Px := if validB r && decide (areaR r ≤ 65536) then List.replicate (areaR r).toNat (clampP p) else []
def newE (r : Rc) : Int := if validB r then (if decide (areaR r ≤ 65536) then 0 else 5) else 6


set_option maxHeartbeats 1600000 in
theorem new_any (r : Rc) (p : Px) (w : World) :
    Calls Try.prog 13 #[.agg #[.int .i64 r.x0, .int .i64 r.y0, .int .i64 r.x1, .int .i64 r.y1], .agg #[.int .u8 p.r, .int .u8 p.g, .int .u8 p.b, .int .u8 p.a]] w (RetBE (newR r) (newL r p) (newE r) w) := by
  have HVal := Lib.hid (valid_any r.x0 r.y0 r.x1 r.y1)
  have HA := Lib.hid (area_any r.x0 r.y0 r.x1 r.y1)
  obtain ⟨v, Hv⟩ : ∃ v, Hid (validB r = v) := ⟨_, rfl⟩
  obtain ⟨a, Ha⟩ : ∃ a, Hid (areaR r = a) := ⟨_, rfl⟩
  have ev : validB ⟨r.x0, r.y0, r.x1, r.y1⟩ = v := Hv.out
  have ea : areaR ⟨r.x0, r.y0, r.x1, r.y1⟩ = a := Ha.out
  rw [ev] at HVal
  rw [ea] at HA
  clear ev ea
  cases v with
  | false =>
    have e1 : newR r = ⟨0, 0, 0, 0⟩ := by unfold newR; rw [Hv.out]; rfl
    have e2 : newL r p = [] := by unfold newL; rw [Hv.out]; rfl
    have e3 : newE r = 6 := by unfold newE; rw [Hv.out]; rfl
    rw [e1, e2, e3]
    clear e1 e2 e3
    go_enter Try.func13, Try.ntmps13
    go_wp2_with fail
    refine (HVal.out _).mono ?_
    rintro e w1 ⟨rfl, hb1⟩
    have kO1 : Bk w1 (w.heap.size + 1 + 1) 28 #[.int .i64 0, .int .i64 0, .int .i64 0, .int .i64 0, .slice none 0 0] := (by repeat (first | (with_reducible assumption) | ((with_reducible refine Bk.new _ _ _ ?_); first | (with_reducible rfl) | (simp; done)) | (with_reducible refine Bk.alloc ?_ _) | (with_reducible refine Bk.drew ?_) | (with_reducible refine Bk.drewN ?_ _) | ((with_reducible refine Bk.far ?_ ?_ _); rotate_left; focus (first | (simp; done) | (simp; omega))) | (with_reducible refine Bk.below ?_ (by with_reducible assumption)))); obtain ⟨kcO1, kfO1, kaO1, kgO1, klO1⟩ := kO1.rules
    go_wp2
    refine bodyPost_ret (v := _) ?_ rfl (RetBE.no 6 (by repeat (first | (with_reducible exact Below.refl _ _) | (with_reducible refine balloc ?_ _) | (with_reducible refine Below.drew ?_) | (with_reducible refine bdrewN ?_ _) | ((with_reducible refine bset ?_ ?_ _); rotate_left; focus (first | (with_reducible exact Nat.le_refl _) | (simp; done) | (simp; omega) | omega)) | (with_reducible refine bstep (by with_reducible assumption) ?_))))
    simp [results, Try.results13, go_sem, kcO1]
  | true =>
    cases h2 : decide ((65536 : Int) < a) with
    | true =>
      have h2' : decide (areaR r ≤ 65536) = false := by have := of_decide_eq_true h2; rw [Ha.out]; simp; omega
      have e1 : newR r = ⟨0, 0, 0, 0⟩ := by unfold newR; rw [Hv.out, h2']; rfl
      have e2 : newL r p = [] := by unfold newL; rw [Hv.out, h2']; rfl
      have e3 : newE r = 5 := by unfold newE; rw [Hv.out, h2']; rfl
      rw [e1, e2, e3]
      clear e1 e2 e3 h2'
      go_enter Try.func13, Try.ntmps13
      go_wp2_with fail
      refine (HVal.out _).mono ?_
      rintro e w1 ⟨rfl, hb1⟩
      have kR1 : Bk w1 (w.heap.size) 23 #[.int .i64 r.x0, .int .i64 r.y0, .int .i64 r.x1, .int .i64 r.y1] := (by repeat (first | (with_reducible assumption) | ((with_reducible refine Bk.new _ _ _ ?_); first | (with_reducible rfl) | (simp; done)) | (with_reducible refine Bk.alloc ?_ _) | (with_reducible refine Bk.drew ?_) | (with_reducible refine Bk.drewN ?_ _) | ((with_reducible refine Bk.far ?_ ?_ _); rotate_left; focus (first | (simp; done) | (simp; omega))) | (with_reducible refine Bk.below ?_ (by with_reducible assumption)))); obtain ⟨kcR1, kfR1, kaR1, kgR1, klR1⟩ := kR1.rules
      go_wp2_with fail
      refine (HA.out _).mono ?_
      rintro e w2 ⟨rfl, hb2⟩
      clear kcR1 kfR1 kaR1 kgR1
      have kO2 : Bk w2 (w.heap.size + 1 + 1) 28 #[.int .i64 0, .int .i64 0, .int .i64 0, .int .i64 0, .slice none 0 0] := (by repeat (first | (with_reducible assumption) | ((with_reducible refine Bk.new _ _ _ ?_); first | (with_reducible rfl) | (simp; done)) | (with_reducible refine Bk.alloc ?_ _) | (with_reducible refine Bk.drew ?_) | (with_reducible refine Bk.drewN ?_ _) | ((with_reducible refine Bk.far ?_ ?_ _); rotate_left; focus (first | (simp; done) | (simp; omega))) | (with_reducible refine Bk.below ?_ (by with_reducible assumption)))); obtain ⟨kcO2, kfO2, kaO2, kgO2, klO2⟩ := kO2.rules
      go_wp2
      refine bodyPost_ret (v := _) ?_ rfl (RetBE.no 5 (by repeat (first | (with_reducible exact Below.refl _ _) | (with_reducible refine balloc ?_ _) | (with_reducible refine Below.drew ?_) | (with_reducible refine bdrewN ?_ _) | ((with_reducible refine bset ?_ ?_ _); rotate_left; focus (first | (with_reducible exact Nat.le_refl _) | (simp; done) | (simp; omega) | omega)) | (with_reducible refine bstep (by with_reducible assumption) ?_))))
      simp [results, Try.results13, go_sem, kcO2]
    | false =>
      have h2' : decide (areaR r ≤ 65536) = true := by have := of_decide_eq_false h2; rw [Ha.out]; simp; omega
      obtain ⟨q, Hq⟩ : ∃ q, Hid (canonR r = q) := ⟨_, rfl⟩
      obtain ⟨cl, Hcl⟩ : ∃ q, Hid (clampP p = q) := ⟨_, rfl⟩
      have e1 : newR r = q := by unfold newR; rw [Hv.out, h2']; exact Hq.out
      have e2 : newL r p = pixL (fun _ _ => cl) q := by
        rw [← Hq.out, pix_const]
        unfold newL; rw [Hv.out, h2', Hcl.out]; rfl
      have e3 : newE r = 0 := by unfold newE; rw [Hv.out, h2']; rfl
      rw [e1, e2, e3]
      clear e1 e2 e3 h2'
      go_enter Try.func13, Try.ntmps13
      go_wp2_with fail
      refine (HVal.out _).mono ?_
      rintro e w1 ⟨rfl, hb1⟩
      have kR1 : Bk w1 (w.heap.size) 23 #[.int .i64 r.x0, .int .i64 r.y0, .int .i64 r.x1, .int .i64 r.y1] := (by repeat (first | (with_reducible assumption) | ((with_reducible refine Bk.new _ _ _ ?_); first | (with_reducible rfl) | (simp; done)) | (with_reducible refine Bk.alloc ?_ _) | (with_reducible refine Bk.drew ?_) | (with_reducible refine Bk.drewN ?_ _) | ((with_reducible refine Bk.far ?_ ?_ _); rotate_left; focus (first | (simp; done) | (simp; omega))) | (with_reducible refine Bk.below ?_ (by with_reducible assumption)))); obtain ⟨kcR1, kfR1, kaR1, kgR1, klR1⟩ := kR1.rules
      go_wp2_with fail
      refine (HA.out _).mono ?_
      rintro e w2 ⟨rfl, hb2⟩
      clear kcR1 kfR1 kaR1 kgR1
      have kR2 : Bk w2 (w.heap.size) 23 #[.int .i64 r.x0, .int .i64 r.y0, .int .i64 r.x1, .int .i64 r.y1] := (by repeat (first | (with_reducible assumption) | ((with_reducible refine Bk.new _ _ _ ?_); first | (with_reducible rfl) | (simp; done)) | (with_reducible refine Bk.alloc ?_ _) | (with_reducible refine Bk.drew ?_) | (with_reducible refine Bk.drewN ?_ _) | ((with_reducible refine Bk.far ?_ ?_ _); rotate_left; focus (first | (simp; done) | (simp; omega))) | (with_reducible refine Bk.below ?_ (by with_reducible assumption)))); obtain ⟨kcR2, kfR2, kaR2, kgR2, klR2⟩ := kR2.rules
      have kP2 : Bk w2 (w.heap.size + 1) 25 #[.int .u8 p.r, .int .u8 p.g, .int .u8 p.b, .int .u8 p.a] := (by repeat (first | (with_reducible assumption) | ((with_reducible refine Bk.new _ _ _ ?_); first | (with_reducible rfl) | (simp; done)) | (with_reducible refine Bk.alloc ?_ _) | (with_reducible refine Bk.drew ?_) | (with_reducible refine Bk.drewN ?_ _) | ((with_reducible refine Bk.far ?_ ?_ _); rotate_left; focus (first | (simp; done) | (simp; omega))) | (with_reducible refine Bk.below ?_ (by with_reducible assumption))))
      have kO2 : Bk w2 (w.heap.size + 1 + 1) 28 #[.int .i64 0, .int .i64 0, .int .i64 0, .int .i64 0, .slice none 0 0] := (by repeat (first | (with_reducible assumption) | ((with_reducible refine Bk.new _ _ _ ?_); first | (with_reducible rfl) | (simp; done)) | (with_reducible refine Bk.alloc ?_ _) | (with_reducible refine Bk.drew ?_) | (with_reducible refine Bk.drewN ?_ _) | ((with_reducible refine Bk.far ?_ ?_ _); rotate_left; focus (first | (simp; done) | (simp; omega))) | (with_reducible refine Bk.below ?_ (by with_reducible assumption))))
      have hB2 : Below w.heap.size w w2 := (by repeat (first | (with_reducible exact Below.refl _ _) | (with_reducible refine balloc ?_ _) | (with_reducible refine Below.drew ?_) | (with_reducible refine bdrewN ?_ _) | ((with_reducible refine bset ?_ ?_ _); rotate_left; focus (first | (with_reducible exact Nat.le_refl _) | (simp; done) | (simp; omega) | omega)) | (with_reducible refine bstep (by with_reducible assumption) ?_)))
      go_wp2_with fail
      refine (made_New r (w.heap.size + 1) (fun _ _ => cl) _ q Hq (fun x y w' _ _ _ _ hb => new1_any x y (w.heap.size + 1) p cl Hcl w' (kP2.below hb))).mono ?_
      rintro e w3 ⟨v3, rfl, ho3, hb3⟩
      have kO3 := kO2.below hb3
      have hB3 : Below w.heap.size w w3 := bstep hb3 hB2
      have ho3' := ho3.mono hB2.size
      clear kcR2 kfR2 kaR2 kgR2 ho3
      obtain ⟨kcO, kfO, kaO, kgO, klO⟩ := kO3.rules
      obtain ⟨A0, c0, hv0, _, _⟩ := ho3'.form encP_len
      generalize (pixL (fun _ _ => cl) q).length = n0 at hv0
      subst hv0
      have o1 := ho3'.setFar kO3 (by decide) 0 (.int .i64 q.x0)
      have m1 := kO3.set 0 (.int .i64 q.x0)
      have o2 := o1.setFar m1 (by decide) 1 (.int .i64 q.y0)
      have m2 := m1.set 1 (.int .i64 q.y0)
      have o3 := o2.setFar m2 (by decide) 2 (.int .i64 q.x1)
      have m3 := m2.set 2 (.int .i64 q.x1)
      have o4 := o3.setFar m3 (by decide) 3 (.int .i64 q.y1)
      have m4 := m3.set 3 (.int .i64 q.y1)
      have o5 := o4.setFar m4 (by decide) 4 (.slice A0 n0 c0)
      clear o1 o2 o3 o4 m1 m2 m3 m4
      go_wp2
      refine bodyPost_ret (v := _) ?_ rfl ⟨_, rfl, o5, (by repeat (first | (with_reducible exact Below.refl _ _) | (with_reducible refine balloc ?_ _) | (with_reducible refine Below.drew ?_) | (with_reducible refine bdrewN ?_ _) | ((with_reducible refine bset ?_ ?_ _); rotate_left; focus (first | (with_reducible exact Nat.le_refl _) | (simp; done) | (simp; omega) | omega)) | (with_reducible refine bstep (by with_reducible assumption) ?_)))⟩
      simp [results, Try.results13, go_sem, kcO]
end Go.Proofs.Ytnefnnhnjmmebaa
