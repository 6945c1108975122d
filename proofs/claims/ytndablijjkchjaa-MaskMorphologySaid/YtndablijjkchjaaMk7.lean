/-
  The walks of mask.Crop and grisailleref21.Crop.
-/
import Derived.Test.YtndablijjkchjaaMk6
import Derived.Test.YtndablijjkchjaaMkMadeC
namespace Go.Proofs.Ytndablijjkchjaa
open Go.RowKit
set_option linter.unusedSimpArgs false
set_option linter.unusedVariables false

/-- A mask cut to a rectangle, or the error. -/
def crMR (b : Mk) (r : Rc) : Rc := if vMk b then interR b.r r else ⟨0, 0, 0, 0⟩
def crML (b : Mk) (r : Rc) : List Int := if vMk b then pixL (atL 0 b.r b.l) (interR b.r r) else []
def crME (b : Mk) : Int := if vMk b then 0 else 14
set_option maxHeartbeats 800000 in
theorem cr1_any (x y : Int) (c0 : Nat) (b : Mk) (w0 w : World) (hw : Below w0.heap.size w0 w) (HB : Hid (b.ok w0)) (hnb : b.n ≤ 4000000000) (Hb : Hid ((b.n : Int) = areaR b.r)) (hC : Bk w c0 29 #[.int .i64 b.r.x0, .int .i64 b.r.y0, .int .i64 b.r.x1, .int .i64 b.r.y1, .slice b.A b.n b.c]) (p : Int) (Hp : Hid (atL 0 b.r b.l x y = p)) :
    Calls Try.prog 65 #[.int .i64 x, .int .i64 y, .pointer (some ⟨c0, 0, none⟩)] w fun e w' => e = .returned (.int .u8 p) ∧ Below w.heap.size w w' := by
  obtain ⟨kc, kf, ka, kg, kl⟩ := hC.rules
  go_enter Try.func65, Try.ntmps65
  go_wp2_with fail
  refine (mat_any b.r b.A b.n b.c b.l _ _ _ (HB.out.rd.below (bstep (by show Below w.heap.size w _; exact (by repeat (first | (with_reducible exact Below.refl _ _) | (with_reducible refine balloc ?_ _) | (with_reducible refine Below.drew ?_) | (with_reducible refine bdrewN ?_ _) | ((with_reducible refine bset ?_ ?_ _); rotate_left; focus (first | (with_reducible exact Nat.le_refl _) | (simp; done) | (simp; omega) | omega)) | (with_reducible refine bstep (by with_reducible assumption) ?_)))) hw)) HB.out.ln hnb Hb.out p Hp).mono ?_
  rintro e w1 ⟨rfl, hb1⟩
  go_wp2
  go_ret
  exact ⟨rfl, (by repeat (first | (with_reducible exact Below.refl _ _) | (with_reducible refine balloc ?_ _) | (with_reducible refine Below.drew ?_) | (with_reducible refine bdrewN ?_ _) | ((with_reducible refine bset ?_ ?_ _); rotate_left; focus (first | (with_reducible exact Nat.le_refl _) | (simp; done) | (simp; omega) | omega)) | (with_reducible refine bstep (by with_reducible assumption) ?_)))⟩

set_option maxHeartbeats 6400000 in
theorem mcrop_any (b : Mk) (r : Rc) (w : World) (hb : b.ok w) (hnb : b.n ≤ 4000000000) :
    Calls Try.prog 28 #[.agg #[.int .i64 b.r.x0, .int .i64 b.r.y0, .int .i64 b.r.x1, .int .i64 b.r.y1, .slice b.A b.n b.c], .agg #[.int .i64 r.x0, .int .i64 r.y0, .int .i64 r.x1, .int .i64 r.y1]] w (RetME (crMR b r) (crML b r) (crME b) w) := by
  have HB := Lib.hid hb
  obtain ⟨q, Hq⟩ : ∃ u, Hid (interR b.r r = u) := ⟨_, rfl⟩
  have Hq' : Hid (interR ⟨b.r.x0, b.r.y0, b.r.x1, b.r.y1⟩ ⟨r.x0, r.y0, r.x1, r.y1⟩ = q) := Hq.out
  have HQc : Hid (canonR q = q) := by unfold Hid; rw [← Hq.out]; exact inter_cn _ _
  clear hb
  cases vb : vMk b with
  | false =>
    have Hvb := Lib.hid vb
    have e1 : crMR b r = ⟨0, 0, 0, 0⟩ := by unfold crMR; rw [vb]; rfl
    have e2 : crML b r = [] := by unfold crML; rw [vb]; rfl
    have e3 : crME b = 14 := by unfold crME; rw [vb]; rfl
    rw [e1, e2, e3]
    clear e1 e2 e3 vb
    go_enter Try.func28, Try.ntmps28
    go_wp2_with fail
    refine (mvalid_any b.r b.A b.n b.c b.l _ (HB.out.rd.below (by repeat (first | (with_reducible exact Below.refl _ _) | (with_reducible refine balloc ?_ _) | (with_reducible refine Below.drew ?_) | (with_reducible refine bdrewN ?_ _) | ((with_reducible refine bset ?_ ?_ _); rotate_left; focus (first | (with_reducible exact Nat.le_refl _) | (simp; done) | (simp; omega) | omega)) | (with_reducible refine bstep (by with_reducible assumption) ?_)))) HB.out.ln hnb false Hvb).mono ?_
    rintro e w1 ⟨rfl, hb1⟩
    have kO1 : Bk w1 (w.heap.size + 1 + 1) 29 #[.int .i64 0, .int .i64 0, .int .i64 0, .int .i64 0, .slice none 0 0] := (by repeat (first | (with_reducible assumption) | ((with_reducible refine Bk.new _ _ _ ?_); first | (with_reducible rfl) | (simp; done)) | (with_reducible refine Bk.alloc ?_ _) | (with_reducible refine Bk.drew ?_) | (with_reducible refine Bk.drewN ?_ _) | ((with_reducible refine Bk.far ?_ ?_ _); rotate_left; focus (first | (simp; done) | (simp; omega))) | (with_reducible refine Bk.below ?_ (by with_reducible assumption)))); obtain ⟨kcO1, kfO1, kaO1, kgO1, klO1⟩ := kO1.rules
    go_wp2
    refine bodyPost_ret (v := _) ?_ rfl (RetME.no 14 (by repeat (first | (with_reducible exact Below.refl _ _) | (with_reducible refine balloc ?_ _) | (with_reducible refine Below.drew ?_) | (with_reducible refine bdrewN ?_ _) | ((with_reducible refine bset ?_ ?_ _); rotate_left; focus (first | (with_reducible exact Nat.le_refl _) | (simp; done) | (simp; omega) | omega)) | (with_reducible refine bstep (by with_reducible assumption) ?_))))
    simp [results, Try.results28, go_sem, kcO1]
  | true =>
    have Hvb := Lib.hid vb
    have Hnb : Hid ((b.n : Int) = areaR b.r) := by unfold Hid; rw [← HB.out.ln]; exact (mk_cn vb).2.1
    obtain ⟨g, Hg⟩ : ∃ g, Hid (atL 0 b.r b.l = g) := ⟨_, rfl⟩
    have e1 : crMR b r = q := by unfold crMR; rw [vb]; exact Hq.out
    have e2 : crML b r = pixL g q := by unfold crML; rw [vb, Hg.out, Hq.out]; rfl
    have e3 : crME b = 0 := by unfold crME; rw [vb]; rfl
    rw [e1, e2, e3]
    clear e1 e2 e3 vb
    go_enter Try.func28, Try.ntmps28
    go_wp2_with fail
    refine (mvalid_any b.r b.A b.n b.c b.l _ (HB.out.rd.below (by repeat (first | (with_reducible exact Below.refl _ _) | (with_reducible refine balloc ?_ _) | (with_reducible refine Below.drew ?_) | (with_reducible refine bdrewN ?_ _) | ((with_reducible refine bset ?_ ?_ _); rotate_left; focus (first | (with_reducible exact Nat.le_refl _) | (simp; done) | (simp; omega) | omega)) | (with_reducible refine bstep (by with_reducible assumption) ?_)))) HB.out.ln hnb true Hvb).mono ?_
    rintro e w1 ⟨rfl, hb1⟩
    have kC1 : Bk w1 (w.heap.size) 29 #[.int .i64 b.r.x0, .int .i64 b.r.y0, .int .i64 b.r.x1, .int .i64 b.r.y1, .slice b.A b.n b.c] := (by repeat (first | (with_reducible assumption) | ((with_reducible refine Bk.new _ _ _ ?_); first | (with_reducible rfl) | (simp; done)) | (with_reducible refine Bk.alloc ?_ _) | (with_reducible refine Bk.drew ?_) | (with_reducible refine Bk.drewN ?_ _) | ((with_reducible refine Bk.far ?_ ?_ _); rotate_left; focus (first | (simp; done) | (simp; omega))) | (with_reducible refine Bk.below ?_ (by with_reducible assumption)))); obtain ⟨kcC1, kfC1, kaC1, kgC1, klC1⟩ := kC1.rules; have kR1 : Bk w1 (w.heap.size + 1) 26 #[.int .i64 r.x0, .int .i64 r.y0, .int .i64 r.x1, .int .i64 r.y1] := (by repeat (first | (with_reducible assumption) | ((with_reducible refine Bk.new _ _ _ ?_); first | (with_reducible rfl) | (simp; done)) | (with_reducible refine Bk.alloc ?_ _) | (with_reducible refine Bk.drew ?_) | (with_reducible refine Bk.drewN ?_ _) | ((with_reducible refine Bk.far ?_ ?_ _); rotate_left; focus (first | (simp; done) | (simp; omega))) | (with_reducible refine Bk.below ?_ (by with_reducible assumption)))); obtain ⟨kcR1, kfR1, kaR1, kgR1, klR1⟩ := kR1.rules; have kO1 : Bk w1 (w.heap.size + 1 + 1) 29 #[.int .i64 0, .int .i64 0, .int .i64 0, .int .i64 0, .slice none 0 0] := (by repeat (first | (with_reducible assumption) | ((with_reducible refine Bk.new _ _ _ ?_); first | (with_reducible rfl) | (simp; done)) | (with_reducible refine Bk.alloc ?_ _) | (with_reducible refine Bk.drew ?_) | (with_reducible refine Bk.drewN ?_ _) | ((with_reducible refine Bk.far ?_ ?_ _); rotate_left; focus (first | (simp; done) | (simp; omega))) | (with_reducible refine Bk.below ?_ (by with_reducible assumption)))); obtain ⟨kcO1, kfO1, kaO1, kgO1, klO1⟩ := kO1.rules
    clear kcO1 kfO1 kaO1 kgO1
    go_wp2_with fail
    refine (inter_q _ _ _ _ _ _ _ _ q Hq' _).mono ?_
    rintro e w2 ⟨rfl, hb2⟩
    clear kcC1 kfC1 kaC1 kgC1 kcR1 kfR1 kaR1 kgR1
    have kC2 : Bk w2 (w.heap.size) 29 #[.int .i64 b.r.x0, .int .i64 b.r.y0, .int .i64 b.r.x1, .int .i64 b.r.y1, .slice b.A b.n b.c] := (by repeat (first | (with_reducible assumption) | ((with_reducible refine Bk.new _ _ _ ?_); first | (with_reducible rfl) | (simp; done)) | (with_reducible refine Bk.alloc ?_ _) | (with_reducible refine Bk.drew ?_) | (with_reducible refine Bk.drewN ?_ _) | ((with_reducible refine Bk.far ?_ ?_ _); rotate_left; focus (first | (simp; done) | (simp; omega))) | (with_reducible refine Bk.below ?_ (by with_reducible assumption)))); obtain ⟨kcC2, kfC2, kaC2, kgC2, klC2⟩ := kC2.rules; have kO2 : Bk w2 (w.heap.size + 1 + 1) 29 #[.int .i64 0, .int .i64 0, .int .i64 0, .int .i64 0, .slice none 0 0] := (by repeat (first | (with_reducible assumption) | ((with_reducible refine Bk.new _ _ _ ?_); first | (with_reducible rfl) | (simp; done)) | (with_reducible refine Bk.alloc ?_ _) | (with_reducible refine Bk.drew ?_) | (with_reducible refine Bk.drewN ?_ _) | ((with_reducible refine Bk.far ?_ ?_ _); rotate_left; focus (first | (simp; done) | (simp; omega))) | (with_reducible refine Bk.below ?_ (by with_reducible assumption)))); obtain ⟨kcO2, kfO2, kaO2, kgO2, klO2⟩ := kO2.rules
    have hB2 : Below w.heap.size w w2 := (by repeat (first | (with_reducible exact Below.refl _ _) | (with_reducible refine balloc ?_ _) | (with_reducible refine Below.drew ?_) | (with_reducible refine bdrewN ?_ _) | ((with_reducible refine bset ?_ ?_ _); rotate_left; focus (first | (with_reducible exact Nat.le_refl _) | (simp; done) | (simp; omega) | omega)) | (with_reducible refine bstep (by with_reducible assumption) ?_)))
    clear kcC2 kfC2 kaC2 kgC2 kcO2 kfO2 kaO2 kgO2
    go_wp2_with fail
    refine (mmade_C q (w.heap.size) g _ q HQc (fun x y w' _ _ _ _ hb => cr1_any x y _ b w w' (bstep hb hB2) HB hnb Hnb (kC2.below hb) (g x y) (by unfold Hid; rw [Hg.out]))).mono ?_
    rintro e w3 ⟨v3, rfl, ho3, hb3⟩
    have kO3 := kO2.below hb3
    have hB3 : Below w.heap.size w w3 := bstep hb3 hB2
    have ho := ho3.mono hB2.size
    obtain ⟨kc', kf', ka', kg', kl'⟩ := kO3.rules
    obtain ⟨A0, c0', hv0, _, _⟩ := ho.form encB_len
    generalize (pixL g q).length = n0 at hv0
    subst hv0
    have o1 := ho.setFar kO3 (by decide) 0 (.int .i64 q.x0)
    have m1 := kO3.set 0 (.int .i64 q.x0)
    have o2 := o1.setFar m1 (by decide) 1 (.int .i64 q.y0)
    have m2 := m1.set 1 (.int .i64 q.y0)
    have o3 := o2.setFar m2 (by decide) 2 (.int .i64 q.x1)
    have m3 := m2.set 2 (.int .i64 q.x1)
    have o4 := o3.setFar m3 (by decide) 3 (.int .i64 q.y1)
    have m4 := m3.set 3 (.int .i64 q.y1)
    have o5 := o4.setFar m4 (by decide) 4 (.slice A0 n0 c0')
    clear o1 o2 o3 o4 m1 m2 m3 m4
    go_wp2
    refine bodyPost_ret (v := _) ?_ rfl ⟨_, rfl, o5, (by repeat (first | (with_reducible exact Below.refl _ _) | (with_reducible refine balloc ?_ _) | (with_reducible refine Below.drew ?_) | (with_reducible refine bdrewN ?_ _) | ((with_reducible refine bset ?_ ?_ _); rotate_left; focus (first | (with_reducible exact Nat.le_refl _) | (simp; done) | (simp; omega) | omega)) | (with_reducible refine bstep (by with_reducible assumption) ?_)))⟩
    simp [results, Try.results28, go_sem, kc']

set_option maxHeartbeats 6400000 in
theorem rmcrop_any (b : Mk) (r : Rc) (w : World) (hb : b.ok w) (hnb : b.n ≤ 4000000000) :
    Calls Try.prog 36 #[.agg #[.int .i64 b.r.x0, .int .i64 b.r.y0, .int .i64 b.r.x1, .int .i64 b.r.y1, .slice b.A b.n b.c], .agg #[.int .i64 r.x0, .int .i64 r.y0, .int .i64 r.x1, .int .i64 r.y1]] w (RetME (crMR b r) (crML b r) (crME b) w) := by
  have HB := Lib.hid hb
  obtain ⟨q, Hq⟩ : ∃ u, Hid (interR b.r r = u) := ⟨_, rfl⟩
  have Hq' : Hid (interR ⟨b.r.x0, b.r.y0, b.r.x1, b.r.y1⟩ ⟨r.x0, r.y0, r.x1, r.y1⟩ = q) := Hq.out
  have HQc : Hid (canonR q = q) := by unfold Hid; rw [← Hq.out]; exact inter_cn _ _
  clear hb
  cases vb : vMk b with
  | false =>
    have Hvb := Lib.hid vb
    have e1 : crMR b r = ⟨0, 0, 0, 0⟩ := by unfold crMR; rw [vb]; rfl
    have e2 : crML b r = [] := by unfold crML; rw [vb]; rfl
    have e3 : crME b = 14 := by unfold crME; rw [vb]; rfl
    rw [e1, e2, e3]
    clear e1 e2 e3 vb
    go_enter Try.func36, Try.ntmps36
    go_wp2_with fail
    refine (rmvalid_any b.r b.A b.n b.c b.l _ (HB.out.rd.below (by repeat (first | (with_reducible exact Below.refl _ _) | (with_reducible refine balloc ?_ _) | (with_reducible refine Below.drew ?_) | (with_reducible refine bdrewN ?_ _) | ((with_reducible refine bset ?_ ?_ _); rotate_left; focus (first | (with_reducible exact Nat.le_refl _) | (simp; done) | (simp; omega) | omega)) | (with_reducible refine bstep (by with_reducible assumption) ?_)))) HB.out.ln hnb false Hvb).mono ?_
    rintro e w1 ⟨rfl, hb1⟩
    have kO1 : Bk w1 (w.heap.size + 1 + 1) 29 #[.int .i64 0, .int .i64 0, .int .i64 0, .int .i64 0, .slice none 0 0] := (by repeat (first | (with_reducible assumption) | ((with_reducible refine Bk.new _ _ _ ?_); first | (with_reducible rfl) | (simp; done)) | (with_reducible refine Bk.alloc ?_ _) | (with_reducible refine Bk.drew ?_) | (with_reducible refine Bk.drewN ?_ _) | ((with_reducible refine Bk.far ?_ ?_ _); rotate_left; focus (first | (simp; done) | (simp; omega))) | (with_reducible refine Bk.below ?_ (by with_reducible assumption)))); obtain ⟨kcO1, kfO1, kaO1, kgO1, klO1⟩ := kO1.rules
    go_wp2
    refine bodyPost_ret (v := _) ?_ rfl (RetME.no 14 (by repeat (first | (with_reducible exact Below.refl _ _) | (with_reducible refine balloc ?_ _) | (with_reducible refine Below.drew ?_) | (with_reducible refine bdrewN ?_ _) | ((with_reducible refine bset ?_ ?_ _); rotate_left; focus (first | (with_reducible exact Nat.le_refl _) | (simp; done) | (simp; omega) | omega)) | (with_reducible refine bstep (by with_reducible assumption) ?_))))
    simp [results, Try.results36, go_sem, kcO1]
  | true =>
    have Hvb := Lib.hid vb
    have Hnb : Hid ((b.n : Int) = areaR b.r) := by unfold Hid; rw [← HB.out.ln]; exact (mk_cn vb).2.1
    obtain ⟨g, Hg⟩ : ∃ g, Hid (atL 0 b.r b.l = g) := ⟨_, rfl⟩
    have e1 : crMR b r = q := by unfold crMR; rw [vb]; exact Hq.out
    have e2 : crML b r = pixL g q := by unfold crML; rw [vb, Hg.out, Hq.out]; rfl
    have e3 : crME b = 0 := by unfold crME; rw [vb]; rfl
    rw [e1, e2, e3]
    clear e1 e2 e3 vb
    go_enter Try.func36, Try.ntmps36
    go_wp2_with fail
    refine (rmvalid_any b.r b.A b.n b.c b.l _ (HB.out.rd.below (by repeat (first | (with_reducible exact Below.refl _ _) | (with_reducible refine balloc ?_ _) | (with_reducible refine Below.drew ?_) | (with_reducible refine bdrewN ?_ _) | ((with_reducible refine bset ?_ ?_ _); rotate_left; focus (first | (with_reducible exact Nat.le_refl _) | (simp; done) | (simp; omega) | omega)) | (with_reducible refine bstep (by with_reducible assumption) ?_)))) HB.out.ln hnb true Hvb).mono ?_
    rintro e w1 ⟨rfl, hb1⟩
    have kC1 : Bk w1 (w.heap.size) 29 #[.int .i64 b.r.x0, .int .i64 b.r.y0, .int .i64 b.r.x1, .int .i64 b.r.y1, .slice b.A b.n b.c] := (by repeat (first | (with_reducible assumption) | ((with_reducible refine Bk.new _ _ _ ?_); first | (with_reducible rfl) | (simp; done)) | (with_reducible refine Bk.alloc ?_ _) | (with_reducible refine Bk.drew ?_) | (with_reducible refine Bk.drewN ?_ _) | ((with_reducible refine Bk.far ?_ ?_ _); rotate_left; focus (first | (simp; done) | (simp; omega))) | (with_reducible refine Bk.below ?_ (by with_reducible assumption)))); obtain ⟨kcC1, kfC1, kaC1, kgC1, klC1⟩ := kC1.rules; have kR1 : Bk w1 (w.heap.size + 1) 26 #[.int .i64 r.x0, .int .i64 r.y0, .int .i64 r.x1, .int .i64 r.y1] := (by repeat (first | (with_reducible assumption) | ((with_reducible refine Bk.new _ _ _ ?_); first | (with_reducible rfl) | (simp; done)) | (with_reducible refine Bk.alloc ?_ _) | (with_reducible refine Bk.drew ?_) | (with_reducible refine Bk.drewN ?_ _) | ((with_reducible refine Bk.far ?_ ?_ _); rotate_left; focus (first | (simp; done) | (simp; omega))) | (with_reducible refine Bk.below ?_ (by with_reducible assumption)))); obtain ⟨kcR1, kfR1, kaR1, kgR1, klR1⟩ := kR1.rules; have kO1 : Bk w1 (w.heap.size + 1 + 1) 29 #[.int .i64 0, .int .i64 0, .int .i64 0, .int .i64 0, .slice none 0 0] := (by repeat (first | (with_reducible assumption) | ((with_reducible refine Bk.new _ _ _ ?_); first | (with_reducible rfl) | (simp; done)) | (with_reducible refine Bk.alloc ?_ _) | (with_reducible refine Bk.drew ?_) | (with_reducible refine Bk.drewN ?_ _) | ((with_reducible refine Bk.far ?_ ?_ _); rotate_left; focus (first | (simp; done) | (simp; omega))) | (with_reducible refine Bk.below ?_ (by with_reducible assumption)))); obtain ⟨kcO1, kfO1, kaO1, kgO1, klO1⟩ := kO1.rules
    clear kcO1 kfO1 kaO1 kgO1
    go_wp2_with fail
    refine (rinter_q _ _ _ _ _ _ _ _ q Hq' _).mono ?_
    rintro e w2 ⟨rfl, hb2⟩
    clear kcC1 kfC1 kaC1 kgC1 kcR1 kfR1 kaR1 kgR1
    have kC2 : Bk w2 (w.heap.size) 29 #[.int .i64 b.r.x0, .int .i64 b.r.y0, .int .i64 b.r.x1, .int .i64 b.r.y1, .slice b.A b.n b.c] := (by repeat (first | (with_reducible assumption) | ((with_reducible refine Bk.new _ _ _ ?_); first | (with_reducible rfl) | (simp; done)) | (with_reducible refine Bk.alloc ?_ _) | (with_reducible refine Bk.drew ?_) | (with_reducible refine Bk.drewN ?_ _) | ((with_reducible refine Bk.far ?_ ?_ _); rotate_left; focus (first | (simp; done) | (simp; omega))) | (with_reducible refine Bk.below ?_ (by with_reducible assumption)))); obtain ⟨kcC2, kfC2, kaC2, kgC2, klC2⟩ := kC2.rules; have kO2 : Bk w2 (w.heap.size + 1 + 1) 29 #[.int .i64 0, .int .i64 0, .int .i64 0, .int .i64 0, .slice none 0 0] := (by repeat (first | (with_reducible assumption) | ((with_reducible refine Bk.new _ _ _ ?_); first | (with_reducible rfl) | (simp; done)) | (with_reducible refine Bk.alloc ?_ _) | (with_reducible refine Bk.drew ?_) | (with_reducible refine Bk.drewN ?_ _) | ((with_reducible refine Bk.far ?_ ?_ _); rotate_left; focus (first | (simp; done) | (simp; omega))) | (with_reducible refine Bk.below ?_ (by with_reducible assumption)))); obtain ⟨kcO2, kfO2, kaO2, kgO2, klO2⟩ := kO2.rules
    have kR2 : Bk w2 (w.heap.size + 1) 26 #[.int .i64 r.x0, .int .i64 r.y0, .int .i64 r.x1, .int .i64 r.y1] := (by repeat (first | (with_reducible assumption) | ((with_reducible refine Bk.new _ _ _ ?_); first | (with_reducible rfl) | (simp; done)) | (with_reducible refine Bk.alloc ?_ _) | (with_reducible refine Bk.drew ?_) | (with_reducible refine Bk.drewN ?_ _) | ((with_reducible refine Bk.far ?_ ?_ _); rotate_left; focus (first | (simp; done) | (simp; omega))) | (with_reducible refine Bk.below ?_ (by with_reducible assumption))))
    have hB2 : Below w.heap.size w w2 := (by repeat (first | (with_reducible exact Below.refl _ _) | (with_reducible refine balloc ?_ _) | (with_reducible refine Below.drew ?_) | (with_reducible refine bdrewN ?_ _) | ((with_reducible refine bset ?_ ?_ _); rotate_left; focus (first | (with_reducible exact Nat.le_refl _) | (simp; done) | (simp; omega) | omega)) | (with_reducible refine bstep (by with_reducible assumption) ?_)))
    have sz2 := kO2.lt
    clear kcC2 kfC2 kaC2 kgC2 kcO2 kfO2 kaO2 kgO2 hb1 hb2
    have hcb := canon_bd q
    rw [HQc.out] at hcb
    obtain ⟨⟨bx0, bx1, bx2⟩, ⟨by0, by1, by2⟩⟩ := hcb
    obtain ⟨wd, hwd⟩ : ∃ n : Nat, q.x1 - q.x0 = (n : Int) := ⟨(q.x1 - q.x0).toNat, by omega⟩
    obtain ⟨ht, hht⟩ : ∃ n : Nat, q.y1 - q.y0 = (n : Int) := ⟨(q.y1 - q.y0).toNat, by omega⟩
    have hw1 : q.x1 ≤ q.x0 + wd ∧ q.x0 + wd ≤ q.x1 := by omega
    have hh1 : q.y1 ≤ q.y0 + ht ∧ q.y0 + ht ≤ q.y1 := by omega
    have hPL : pixL g q = madeL g q.x0 q.y0 wd ht := by unfold pixL; rw [hwd, hht, Int.toNat_natCast, Int.toNat_natCast]
    have HPL := Lib.hid hPL
    have hwl : wd ≤ 8192 := by omega
    have hhl : ht ≤ 8192 := by omega
    clear hwd hht hPL
    go_wp2_with fail
    go_loopw [7] (fun i wr => ∃ (j : Nat) (v : Value), j ≤ ht ∧ i = .int .i64 (q.y0 + j) ∧ Bk wr (w.heap.size) 29 #[.int .i64 b.r.x0, .int .i64 b.r.y0, .int .i64 b.r.x1, .int .i64 b.r.y1, .slice b.A b.n b.c] ∧ Bk wr (w.heap.size + 1 + 1) 29 #[.int .i64 0, .int .i64 0, .int .i64 0, .int .i64 0, .slice none 0 0] ∧ Bk wr (w2.heap.size) 29 #[.int .i64 q.x0, .int .i64 q.y0, .int .i64 q.x1, .int .i64 q.y1, v] ∧ OwnL encB 5 1 wr (w2.heap.size) v (madeL g q.x0 q.y0 wd j) ∧ Below w.heap.size w wr) (fun i _ => (q.y1 - intOf i).toNat)
    case atStart => exact ⟨0, _, Nat.zero_le _, by simp, kC2.alloc _, kO2.alloc _, Bk.new _ _ _ rfl, OwnL.nil _ _, (by repeat (first | (with_reducible exact Below.refl _ _) | (with_reducible refine balloc ?_ _) | (with_reducible refine Below.drew ?_) | (with_reducible refine bdrewN ?_ _) | ((with_reducible refine bset ?_ ?_ _); rotate_left; focus (first | (with_reducible exact Nat.le_refl _) | (simp; done) | (simp; omega) | omega)) | (with_reducible refine bstep (by with_reducible assumption) ?_)))⟩
    case round =>
      obtain ⟨j, v, hj, rfl, jC, jO, jB, ho, hbw⟩ := hrel
      obtain ⟨kcC, kfC, kaC, kgC, klC⟩ := jC.rules
      obtain ⟨kcO, kfO, kaO, kgO, klO⟩ := jO.rules
      obtain ⟨kcB, kfB, kaB, kgB, klB⟩ := jB.rules
      by_cases hlt : q.y0 + j < q.y1
      · go_wp2_with fail
        clear kcC kfC kaC kgC kcO kfO kaO kgO kcB kfB kaB kgB
        go_loopw [8] (fun i wr => ∃ (k : Nat) (u : Value), k ≤ wd ∧ i = .int .i64 (q.x0 + k) ∧ Bk wr (w.heap.size) 29 #[.int .i64 b.r.x0, .int .i64 b.r.y0, .int .i64 b.r.x1, .int .i64 b.r.y1, .slice b.A b.n b.c] ∧ Bk wr (w.heap.size + 1 + 1) 29 #[.int .i64 0, .int .i64 0, .int .i64 0, .int .i64 0, .slice none 0 0] ∧ Bk wr (w2.heap.size) 29 #[.int .i64 q.x0, .int .i64 q.y0, .int .i64 q.x1, .int .i64 q.y1, u] ∧ OwnL encB 5 1 wr (w2.heap.size) u (madeL g q.x0 q.y0 wd j ++ rowL g q.x0 (q.y0 + j) k) ∧ Below w.heap.size w wr) (fun i _ => (q.x1 - intOf i).toNat)
        case atStart => exact ⟨0, v, Nat.zero_le _, by simp, jC, jO, jB, by simpa [rowL] using ho, hbw⟩
        case round =>
          obtain ⟨k, u, hk, rfl, q0C, q0O, q0B, qu0, qB0⟩ := hrel
          obtain ⟨kcC, kfC, kaC, kgC, klC⟩ := q0C.rules
          obtain ⟨kcO, kfO, kaO, kgO, klO⟩ := q0O.rules
          obtain ⟨kcB, kfB, kaB, kgB, klB⟩ := q0B.rules
          by_cases hlx : q.x0 + k < q.x1
          · obtain ⟨p, Hp⟩ : ∃ p, Hid (g (q.x0 + k) (q.y0 + j) = p) := ⟨_, rfl⟩
            have hlen : (madeL g q.x0 q.y0 wd j ++ rowL g q.x0 (q.y0 + j) k).length ≤ 4294967296 := by
              rw [List.length_append, madeL_len, rowL_len]
              have : j * wd ≤ 8192 * 8192 := Nat.mul_le_mul (by omega) hwl
              omega
            have Hp0 : Hid (atL 0 b.r b.l (q.x0 + k) (q.y0 + j) = p) := by unfold Hid; rw [← Hp.out, ← Hg.out]
            go_wp2_with fail
            clear kcC kfC kaC kgC kcO kfO kaO kgO kcB kfB kaB kgB
            have q1C := q0C.drew
            have q1O := q0O.drew
            have q1B := q0B.drew
            have qu1 := qu0.drew
            have qB1 := qB0.drew
            refine wp_region_go 9 [(0, true), (1, true), (2, true), (3, true), (4, true), (5, false), (6, false), (7, false), (8, true)] (fun w' => Bk w' (w.heap.size) 29 #[.int .i64 b.r.x0, .int .i64 b.r.y0, .int .i64 b.r.x1, .int .i64 b.r.y1, .slice b.A b.n b.c] ∧ Bk w' (w.heap.size + 1 + 1) 29 #[.int .i64 0, .int .i64 0, .int .i64 0, .int .i64 0, .slice none 0 0] ∧ Bk w' (w2.heap.size) 29 #[.int .i64 q.x0, .int .i64 q.y0, .int .i64 q.x1, .int .i64 q.y1, u] ∧ Below w.heap.size w w') (by kernel_rfl) (by kernel_rfl) (fun c a d v w h => by cases d <;> exact h) ⟨q1C, q1O, q1B, qB1⟩ ?_
            repeat (first | (refine wpGo_pure (v := ?_) rfl rfl (fun w' hS => ?_) ?_; rotate_left; (· obtain ⟨kc0, kf0, ka0, kg0, kl0⟩ := Bk.rules hS.1; obtain ⟨kc1, kf1, ka1, kg1, kl1⟩ := Bk.rules hS.2.1; obtain ⟨kc2, kf2, ka2, kg2, kl2⟩ := Bk.rules hS.2.2.1; have hSB := hS.2.2.2; go_simp; exact rfl); (try simp only [Act.put, List.setIfInBounds_toArray, List.set_cons_zero, List.set_cons_succ])) | ((refine wpGo_skip rfl rfl ?_); (try simp only [Act.put, List.setIfInBounds_toArray, List.set_cons_zero, List.set_cons_succ])))
            refine wpGo_eff rfl (fun K hK => ?_)
            go_simp
            refine (mva_any b.r b.A b.n b.c b.l _ _ _ (HB.out.rd.below qB1) HB.out.ln hnb Hnb.out p Hp0).mono ?_
            rintro e w11 ⟨rfl, hb11⟩
            have q2C := q1C.below hb11
            have q2O := q1O.below hb11
            have q2B := q1B.below hb11
            have qu2 := qu1.below hb11
            have qB2 := bstep hb11 qB1
            refine hK.out _ _ ⟨q2C, q2O, q2B, qB2⟩ (fun _ => ?_)
            clear hK K
            refine wpGo_eff rfl (fun K hK => ?_)
            go_simp
            have q3C := q2C.alloc (.cells #[.int .u8 p] 5)
            have q3O := q2O.alloc (.cells #[.int .u8 p] 5)
            have q3B := q2B.alloc (.cells #[.int .u8 p] 5)
            have qu3 := qu2.alloc (.cells #[.int .u8 p] 5)
            have qB3 := balloc qB2 (.cells #[.int .u8 p] 5)
            refine hK.out _ _ ⟨q3C, q3O, q3B, qB3⟩ (fun _ => ?_)
            clear hK K
            have hsz := qB3.size
            refine wpGo_effp rfl (fun K hK => ?_)
            refine wp_append_one encB_len encB_one 27 Try.infoU8 rfl (by decide) (by decide) Try.underlying27 _ _ rfl (w2.heap.size) u _ rfl qu3 w11.heap.size p rfl (Bk.new _ _ _ (by first | rfl | simp)) rfl hlen (by first | (simp at hsz ⊢; omega) | (have h1 := q3B.lt; simp at hsz h1 ⊢; omega) | (have h1 := q3B.lt; simp at hsz ⊢; omega)) ?_
            intro v5 w5 ho5 hg5 hv5
            have q4C := q3C.grown hg5 (qu3.neBk q3C (by decide))
            have q4O := q3O.grown hg5 (qu3.neBk q3O (by decide))
            have q4B := q3B.grown hg5 (qu3.neBk q3B (by decide))
            have qu4 := ho5
            have qB4 := below_grown qu3 hg5 qB3 (by first | exact Nat.le_refl _ | omega)
            obtain ⟨g5, c5, hv5, _⟩ := hv5
            refine hK.out _ _ ⟨q4C, q4O, q4B, qB4⟩ (fun _ => ?_)
            clear hK K
            simp only [Act.put, List.setIfInBounds_toArray, List.set_cons_zero, List.set_cons_succ]
            repeat (first | (refine wpGo_pure (v := ?_) rfl rfl (fun w' hS => ?_) ?_; rotate_left; (· obtain ⟨kc0, kf0, ka0, kg0, kl0⟩ := Bk.rules hS.1; obtain ⟨kc1, kf1, ka1, kg1, kl1⟩ := Bk.rules hS.2.1; obtain ⟨kc2, kf2, ka2, kg2, kl2⟩ := Bk.rules hS.2.2.1; have hSB := hS.2.2.2; go_simp; exact rfl); (try simp only [Act.put, List.setIfInBounds_toArray, List.set_cons_zero, List.set_cons_succ])) | ((refine wpGo_skip rfl rfl ?_); (try simp only [Act.put, List.setIfInBounds_toArray, List.set_cons_zero, List.set_cons_succ])))
            refine wpGo_nil ?_
            simp only [List.drop_succ_cons, List.drop_zero]
            clear Hp0
            have HL : Hid (madeL g q.x0 q.y0 wd j ++ rowL g q.x0 (q.y0 + j) k ++ [p] = madeL g q.x0 q.y0 wd j ++ rowL g q.x0 (q.y0 + j) (k + 1)) := by
              unfold Hid; rw [rowL_succ, Hp.out, List.append_assoc]
            rw [HL.out] at qu4
            obtain ⟨kc5, kf5, ka5, kg5, kl5⟩ := q4B.rules
            have mB : Bk _ (w2.heap.size) 29 #[.int .i64 q.x0, .int .i64 q.y0, .int .i64 q.x1, .int .i64 q.y1, v5] := q4B.set 4 v5
            have mC := q4C.far (p := ⟨w2.heap.size, 4, none⟩) (show w.heap.size ≠ w2.heap.size by omega) v5
            have mO := q4O.far (p := ⟨w2.heap.size, 4, none⟩) (show w.heap.size + 1 + 1 ≠ w2.heap.size by omega) v5
            have ho6 := qu4.setFar q4B (by decide) 4 v5
            have hB6 := bset qB4 (p := ⟨w2.heap.size, 4, none⟩) (show w.heap.size ≤ w2.heap.size by omega) v5
            clear HL q1C q1O q1B q2C q2O q2B q3C q3O q3B q4C q4O q4B qu1 qu2 qu3 qB1 qB2 qB3 qB4
            generalize (madeL g q.x0 q.y0 wd j ++ rowL g q.x0 (q.y0 + (j : Int)) k).length + 1 = n5 at hv5
            subst hv5
            go_wp2
            go_roundw
            case rel => exact ⟨k + 1, _, by omega, by rw [show q.x0 + (k : Int) + 1 = q.x0 + ((k + 1 : Nat) : Int) by omega], mC, mO, mB, ho6, hB6⟩
            case measure => simp [intOf]; omega
          · obtain rfl : k = wd := by omega
            have hu' : OwnL encB 5 1 wr (w2.heap.size) u (madeL g q.x0 q.y0 k (j + 1)) := by rw [madeL_succ]; exact qu0
            go_wp2
            go_roundw
            case rel => exact ⟨j + 1, u, by omega, by rw [show q.y0 + (j : Int) + 1 = q.y0 + ((j + 1 : Nat) : Int) by omega], q0C, q0O, q0B, hu', qB0⟩
            case measure => simp [intOf]; omega
      · obtain rfl : j = ht := by omega
        have ho := ho.mono (show w.heap.size ≤ w2.heap.size by omega)
        obtain ⟨kc', kf', ka', kg', kl'⟩ := jO.rules
        obtain ⟨A0, c0', hv0, _, _⟩ := ho.form encB_len
        generalize (madeL g q.x0 q.y0 wd j).length = n0 at hv0
        subst hv0
        have o1 := ho.setFar jO (by decide) 0 (.int .i64 q.x0)
        have m1 := jO.set 0 (.int .i64 q.x0)
        have o2 := o1.setFar m1 (by decide) 1 (.int .i64 q.y0)
        have m2 := m1.set 1 (.int .i64 q.y0)
        have o3 := o2.setFar m2 (by decide) 2 (.int .i64 q.x1)
        have m3 := m2.set 2 (.int .i64 q.x1)
        have o4 := o3.setFar m3 (by decide) 3 (.int .i64 q.y1)
        have m4 := m3.set 3 (.int .i64 q.y1)
        have o5 := o4.setFar m4 (by decide) 4 (.slice A0 n0 c0')
        clear o1 o2 o3 o4 m1 m2 m3 m4
        rw [← HPL.out] at o5
        go_wp2
        refine bodyPost_ret (v := _) ?_ rfl ⟨_, rfl, o5, (by repeat (first | (with_reducible exact Below.refl _ _) | (with_reducible refine balloc ?_ _) | (with_reducible refine Below.drew ?_) | (with_reducible refine bdrewN ?_ _) | ((with_reducible refine bset ?_ ?_ _); rotate_left; focus (first | (with_reducible exact Nat.le_refl _) | (simp; done) | (simp; omega) | omega)) | (with_reducible refine bstep (by with_reducible assumption) ?_)))⟩
        simp [results, Try.results36, go_sem, kc']
end Go.Proofs.Ytndablijjkchjaa
