/-
  Texts put together: Mor0, MorD, MorE.
-/
import Derived.Test.YtndablijjkchjaaExtP
import Derived.Test.YtndablijjkchjaaDt3
import Derived.Test.YtndablijjkchjaaExA
namespace Go.Proofs.Ytndablijjkchjaa
open Go.RowKit
set_option linter.unusedSimpArgs false
set_option linter.unusedVariables false

/-- A mask dilated (sg = 1) or eroded (sg = -1), or the error. -/
def exV (b : Mk) (n : Int) : Bool := vMk b && (decide (0 ≤ n) && decide (n ≤ 64))
def exR (b : Mk) (n : Int) : Rc := if exV b n then b.r else ⟨0, 0, 0, 0⟩
def exM (sg : Int) (b : Mk) (n : Int) : List Int := if exV b n then exL sg (wdB b) (htB b) n.toNat b.l else []
def exE (b : Mk) (n : Int) : Int := if vMk b then (if exV b n then 0 else 6) else 14
theorem grid_pos {b : Mk} (h : vMk b = true) : (0 < wdB b → 0 < htB b) ∧ (0 < htB b → 0 < wdB b) := by
  obtain ⟨hc, _, _⟩ := mk_cn h
  unfold wdB htB
  cases he : emptyB b.r with
  | true =>
    have h0 : b.r = ⟨0, 0, 0, 0⟩ := by rw [← hc, canon_of_empty he]
    rw [h0]; simp
  | false => have := (emptyB_iff b.r).1 he; omega
theorem exM_len (sg : Int) (b : Mk) (n : Int) : (exM sg b n).length ≤ b.l.length := by
  unfold exM
  split
  · next h =>
    have hv : vMk b = true := by unfold exV at h; simp at h; exact h.1
    rw [exL_len, (grid_dim hv).1, Nat.mul_comm]; exact Nat.le_refl _
  · simp
theorem exM_byte {sg : Int} (hs : sg = 1 ∨ sg = -1) {b : Mk} (hb : bytesB b.l) (n : Int) : bytesB (exM sg b n) := by
  unfold exM
  split
  · exact exL_byte hs hb
  · intro x hx; simp at hx
end Go.Proofs.Ytndablijjkchjaa

namespace Go.Proofs.Ytndablijjkchjaa
open Go.RowKit
set_option linter.unusedSimpArgs false
set_option linter.unusedVariables false


set_option maxHeartbeats 12800000 in
theorem morph_D (b : Mk) (n : Int) (w : World) (hb : b.ok w) (hnb : b.n ≤ 4000000000) :
    Calls Try.prog 74 #[.agg #[.int .i64 b.r.x0, .int .i64 b.r.y0, .int .i64 b.r.x1, .int .i64 b.r.y1, .slice b.A b.n b.c], .int .i64 n, .func (.func 75) #[] #[]] w (RetME (exR b n) (exM 1 b n) (exE b n) w) := by
  have HB := Lib.hid hb
  clear hb
  cases vb : vMk b with
  | false =>
    have Hvb := Lib.hid vb
    have e1 : exR b n = ⟨0, 0, 0, 0⟩ := by unfold exR exV; rw [vb]; rfl
    have e2 : exM 1 b n = [] := by unfold exM exV; rw [vb]; rfl
    have e3 : exE b n = 14 := by unfold exE exV; rw [vb]; rfl
    rw [e1, e2, e3]
    clear e1 e2 e3
    clear vb
    go_enter Try.func74, Try.ntmps74
    go_wp2_with fail
    refine (mvalid_any b.r b.A b.n b.c b.l _ (HB.out.rd.below (by repeat (first | (with_reducible exact Below.refl _ _) | (with_reducible refine balloc ?_ _) | (with_reducible refine Below.drew ?_) | (with_reducible refine bdrewN ?_ _) | ((with_reducible refine bset ?_ ?_ _); rotate_left; focus (first | (with_reducible exact Nat.le_refl _) | (simp; done) | (simp; omega) | omega)) | (with_reducible refine bstep (by with_reducible assumption) ?_)))) HB.out.ln hnb false Hvb).mono ?_
    rintro e w1 ⟨rfl, hb1⟩
    have kO1 : Bk w1 (w.heap.size + 1) 29 #[.int .i64 0, .int .i64 0, .int .i64 0, .int .i64 0, .slice none 0 0] := (by repeat (first | (with_reducible assumption) | ((with_reducible refine Bk.new _ _ _ ?_); first | (with_reducible rfl) | (simp; done)) | (with_reducible refine Bk.alloc ?_ _) | (with_reducible refine Bk.drew ?_) | (with_reducible refine Bk.drewN ?_ _) | ((with_reducible refine Bk.far ?_ ?_ _); rotate_left; focus (first | (simp; done) | (simp; omega))) | (with_reducible refine Bk.below ?_ (by with_reducible assumption)))); obtain ⟨kcO1, kfO1, kaO1, kgO1, klO1⟩ := kO1.rules
    go_wp2
    refine bodyPost_ret (v := _) ?_ rfl (RetME.no 14 (by repeat (first | (with_reducible exact Below.refl _ _) | (with_reducible refine balloc ?_ _) | (with_reducible refine Below.drew ?_) | (with_reducible refine bdrewN ?_ _) | ((with_reducible refine bset ?_ ?_ _); rotate_left; focus (first | (with_reducible exact Nat.le_refl _) | (simp; done) | (simp; omega) | omega)) | (with_reducible refine bstep (by with_reducible assumption) ?_))))
    simp [results, Try.results74, go_sem, kcO1]
  | true =>
    have Hvb := Lib.hid vb
    by_cases h0 : 0 ≤ n
    · by_cases h1 : n ≤ 64
      · have e1 : exR b n = b.r := by unfold exR exV; rw [vb, decide_eq_true h0, decide_eq_true h1]; rfl
        have e2 : exM 1 b n = exL 1 (wdB b) (htB b) n.toNat b.l := by unfold exM exV; rw [vb, decide_eq_true h0, decide_eq_true h1]; rfl
        have e3 : exE b n = 0 := by unfold exE exV; rw [vb, decide_eq_true h0, decide_eq_true h1]; rfl
        rw [e1, e2, e3]
        clear e1 e2 e3
        obtain ⟨hlen, hwd0, hht0, hwl, hhl⟩ := grid_dim vb
        obtain ⟨hz2, hz⟩ := grid_pos vb
        obtain ⟨nn, rfl⟩ : ∃ k : Nat, n = (k : Int) := ⟨n.toNat, by omega⟩
        rw [Int.toNat_natCast]
        have h64 : nn ≤ 64 := by omega
        have d0 : ¬ ((nn : Int) < 0) := by omega
        have d1 : ¬ ((64 : Int) < (nn : Int)) := by omega
        generalize wdB b = wd at *
        generalize htB b = ht at *
        have hwd := Lib.hid hwd0
        have hht := Lib.hid hht0
        have harea : Hid (ht * wd = b.n) := by unfold Hid; rw [← HB.out.ln, Nat.mul_comm]; exact hlen.symm
        have HZ := Lib.hid hz
        have HZ2 := Lib.hid hz2
        obtain ⟨X, HX⟩ : ∃ X, Hid (exL 1 wd ht nn b.l = X) := ⟨_, rfl⟩
        rw [HX.out]
        clear hwd0 hht0 hlen vb h0 h1 hz hz2
        go_enter Try.func74, Try.ntmps74
        go_wp2_with fail
        refine (mvalid_any b.r b.A b.n b.c b.l _ (HB.out.rd.below (by repeat (first | (with_reducible exact Below.refl _ _) | (with_reducible refine balloc ?_ _) | (with_reducible refine Below.drew ?_) | (with_reducible refine bdrewN ?_ _) | ((with_reducible refine bset ?_ ?_ _); rotate_left; focus (first | (with_reducible exact Nat.le_refl _) | (simp; done) | (simp; omega) | omega)) | (with_reducible refine bstep (by with_reducible assumption) ?_)))) HB.out.ln hnb true Hvb).mono ?_
        rintro e w1 ⟨rfl, hb1⟩
        have kC1 : Bk w1 (w.heap.size) 29 #[.int .i64 b.r.x0, .int .i64 b.r.y0, .int .i64 b.r.x1, .int .i64 b.r.y1, .slice b.A b.n b.c] := (by repeat (first | (with_reducible assumption) | ((with_reducible refine Bk.new _ _ _ ?_); first | (with_reducible rfl) | (simp; done)) | (with_reducible refine Bk.alloc ?_ _) | (with_reducible refine Bk.drew ?_) | (with_reducible refine Bk.drewN ?_ _) | ((with_reducible refine Bk.far ?_ ?_ _); rotate_left; focus (first | (simp; done) | (simp; omega))) | (with_reducible refine Bk.below ?_ (by with_reducible assumption)))); obtain ⟨kcC1, kfC1, kaC1, kgC1, klC1⟩ := kC1.rules; have kO1 : Bk w1 (w.heap.size + 1) 29 #[.int .i64 0, .int .i64 0, .int .i64 0, .int .i64 0, .slice none 0 0] := (by repeat (first | (with_reducible assumption) | ((with_reducible refine Bk.new _ _ _ ?_); first | (with_reducible rfl) | (simp; done)) | (with_reducible refine Bk.alloc ?_ _) | (with_reducible refine Bk.drew ?_) | (with_reducible refine Bk.drewN ?_ _) | ((with_reducible refine Bk.far ?_ ?_ _); rotate_left; focus (first | (simp; done) | (simp; omega))) | (with_reducible refine Bk.below ?_ (by with_reducible assumption)))); obtain ⟨kcO1, kfO1, kaO1, kgO1, klO1⟩ := kO1.rules
        have hB1 : Below w.heap.size w w1 := (by repeat (first | (with_reducible exact Below.refl _ _) | (with_reducible refine balloc ?_ _) | (with_reducible refine Below.drew ?_) | (with_reducible refine bdrewN ?_ _) | ((with_reducible refine bset ?_ ?_ _); rotate_left; focus (first | (with_reducible exact Nat.le_refl _) | (simp; done) | (simp; omega) | omega)) | (with_reducible refine bstep (by with_reducible assumption) ?_)))
        go_wp2_with fail
        refine (gridof_any b wd ht _ (HB.out.below hB1) hnb hwd.out hht.out hwl hhl).mono ?_
        rintro e w2 ⟨v2, rfl, ho2, hb2⟩
        have kC2 := kC1.below hb2
        have kO2 := kO1.below hb2
        have hB2 : Below w.heap.size w w2 := bstep hb2 hB1
        have hbase : w.heap.size ≤ w1.heap.size := hB1.size
        clear kcC1 kfC1 kaC1 kgC1 kcO1 kfO1 kaO1 kgO1
        obtain ⟨A2, c2, hv2, _, _⟩ := ho2.form encB_len
        rw [HB.out.ln] at hv2
        subst hv2
        have hO2 := ho2.alloc (.cells #[.int .i64 (wd : Int), .int .i64 (ht : Int), .slice A2 b.n c2] 70)
        have kC3 := kC2.alloc (.cells #[.int .i64 (wd : Int), .int .i64 (ht : Int), .slice A2 b.n c2] 70)
        have kO3 := kO2.alloc (.cells #[.int .i64 (wd : Int), .int .i64 (ht : Int), .slice A2 b.n c2] 70)
        have kG3 : Bk (w2.alloc (.cells #[.int .i64 (wd : Int), .int .i64 (ht : Int), .slice A2 b.n c2] 70)) w2.heap.size 70 #[.int .i64 (wd : Int), .int .i64 (ht : Int), .slice A2 b.n c2] := Bk.new _ _ _ rfl
        have hB3 : Below w.heap.size w (w2.alloc (.cells #[.int .i64 (wd : Int), .int .i64 (ht : Int), .slice A2 b.n c2] 70)) := balloc hB2 _
        obtain ⟨kcG, kfG, kaG, kgG, klG⟩ := kG3.rules
        go_wp2_with fail
        refine (extreme_D wd ht nn A2 b.n c2 b.l w1.heap.size _ hO2 HB.out.ln harea.out hwl hhl HZ.out HZ2.out HB.out.byte h64).mono ?_
        rintro e w3 ⟨rfl, ho3, hg3⟩
        have kC4 := kC3.grown hg3 (hO2.neBk kC3 (by decide))
        have kO4 := kO3.grown hg3 (hO2.neBk kO3 (by decide))
        have kG4 := kG3.grown hg3 (hO2.neBk kG3 (by decide))
        have hB4 := below_grown hO2 hg3 hB3 hbase
        rw [HX.out] at ho3
        have ho := ho3.mono hbase
        have lO2 := kO2.lt
        clear kcG kfG kaG kgG klG hO2 kC3 kO3 kG3 hB3 hg3
        obtain ⟨kcG, kfG, kaG, kgG, klG⟩ := kG4.rules
        obtain ⟨kcC, kfC, kaC, kgC, klC⟩ := kC4.rules
        obtain ⟨kcO, kfO, kaO, kgO, klO⟩ := kO4.rules
        have o1 := ho.setFar kO4 (by decide) 0 (.int .i64 b.r.x0)
        have m1 := kO4.set 0 (.int .i64 b.r.x0)
        have o2 := o1.setFar m1 (by decide) 1 (.int .i64 b.r.y0)
        have m2 := m1.set 1 (.int .i64 b.r.y0)
        have o3 := o2.setFar m2 (by decide) 2 (.int .i64 b.r.x1)
        have m3 := m2.set 2 (.int .i64 b.r.x1)
        have o4 := o3.setFar m3 (by decide) 3 (.int .i64 b.r.y1)
        have m4 := m3.set 3 (.int .i64 b.r.y1)
        have o5 := o4.setFar m4 (by decide) 4 (.slice A2 b.n c2)
        clear o1 o2 o3 o4 m1 m2 m3 m4
        go_wp2
        refine bodyPost_ret (v := _) ?_ rfl ⟨_, rfl, o5, (by repeat (first | (with_reducible exact Below.refl _ _) | (with_reducible refine balloc ?_ _) | (with_reducible refine Below.drew ?_) | (with_reducible refine bdrewN ?_ _) | ((with_reducible refine bset ?_ ?_ _); rotate_left; focus (first | (with_reducible exact Nat.le_refl _) | (simp; done) | (simp; omega) | omega)) | (with_reducible refine bstep (by with_reducible assumption) ?_)))⟩
        simp [results, Try.results74, go_sem, kcO]
      · have e1 : exR b n = ⟨0, 0, 0, 0⟩ := by unfold exR exV; rw [vb, decide_eq_true h0, decide_eq_false h1]; rfl
        have e2 : exM 1 b n = [] := by unfold exM exV; rw [vb, decide_eq_true h0, decide_eq_false h1]; rfl
        have e3 : exE b n = 6 := by unfold exE exV; rw [vb, decide_eq_true h0, decide_eq_false h1]; rfl
        rw [e1, e2, e3]
        clear e1 e2 e3
        have d0 : ¬ (n < 0) := by omega
        have d1 : (64 : Int) < n := by omega
        clear vb h0 h1
        go_enter Try.func74, Try.ntmps74
        go_wp2_with fail
        refine (mvalid_any b.r b.A b.n b.c b.l _ (HB.out.rd.below (by repeat (first | (with_reducible exact Below.refl _ _) | (with_reducible refine balloc ?_ _) | (with_reducible refine Below.drew ?_) | (with_reducible refine bdrewN ?_ _) | ((with_reducible refine bset ?_ ?_ _); rotate_left; focus (first | (with_reducible exact Nat.le_refl _) | (simp; done) | (simp; omega) | omega)) | (with_reducible refine bstep (by with_reducible assumption) ?_)))) HB.out.ln hnb true Hvb).mono ?_
        rintro e w1 ⟨rfl, hb1⟩
        have kC1 : Bk w1 (w.heap.size) 29 #[.int .i64 b.r.x0, .int .i64 b.r.y0, .int .i64 b.r.x1, .int .i64 b.r.y1, .slice b.A b.n b.c] := (by repeat (first | (with_reducible assumption) | ((with_reducible refine Bk.new _ _ _ ?_); first | (with_reducible rfl) | (simp; done)) | (with_reducible refine Bk.alloc ?_ _) | (with_reducible refine Bk.drew ?_) | (with_reducible refine Bk.drewN ?_ _) | ((with_reducible refine Bk.far ?_ ?_ _); rotate_left; focus (first | (simp; done) | (simp; omega))) | (with_reducible refine Bk.below ?_ (by with_reducible assumption)))); obtain ⟨kcC1, kfC1, kaC1, kgC1, klC1⟩ := kC1.rules; have kO1 : Bk w1 (w.heap.size + 1) 29 #[.int .i64 0, .int .i64 0, .int .i64 0, .int .i64 0, .slice none 0 0] := (by repeat (first | (with_reducible assumption) | ((with_reducible refine Bk.new _ _ _ ?_); first | (with_reducible rfl) | (simp; done)) | (with_reducible refine Bk.alloc ?_ _) | (with_reducible refine Bk.drew ?_) | (with_reducible refine Bk.drewN ?_ _) | ((with_reducible refine Bk.far ?_ ?_ _); rotate_left; focus (first | (simp; done) | (simp; omega))) | (with_reducible refine Bk.below ?_ (by with_reducible assumption)))); obtain ⟨kcO1, kfO1, kaO1, kgO1, klO1⟩ := kO1.rules
        go_wp2
        refine bodyPost_ret (v := _) ?_ rfl (RetME.no 6 (by repeat (first | (with_reducible exact Below.refl _ _) | (with_reducible refine balloc ?_ _) | (with_reducible refine Below.drew ?_) | (with_reducible refine bdrewN ?_ _) | ((with_reducible refine bset ?_ ?_ _); rotate_left; focus (first | (with_reducible exact Nat.le_refl _) | (simp; done) | (simp; omega) | omega)) | (with_reducible refine bstep (by with_reducible assumption) ?_))))
        simp [results, Try.results74, go_sem, kcO1]
    · have e1 : exR b n = ⟨0, 0, 0, 0⟩ := by unfold exR exV; rw [vb, decide_eq_false h0]; rfl
      have e2 : exM 1 b n = [] := by unfold exM exV; rw [vb, decide_eq_false h0]; rfl
      have e3 : exE b n = 6 := by unfold exE exV; rw [vb, decide_eq_false h0]; rfl
      rw [e1, e2, e3]
      clear e1 e2 e3
      have d0 : n < 0 := by omega
      clear vb h0
      go_enter Try.func74, Try.ntmps74
      go_wp2_with fail
      refine (mvalid_any b.r b.A b.n b.c b.l _ (HB.out.rd.below (by repeat (first | (with_reducible exact Below.refl _ _) | (with_reducible refine balloc ?_ _) | (with_reducible refine Below.drew ?_) | (with_reducible refine bdrewN ?_ _) | ((with_reducible refine bset ?_ ?_ _); rotate_left; focus (first | (with_reducible exact Nat.le_refl _) | (simp; done) | (simp; omega) | omega)) | (with_reducible refine bstep (by with_reducible assumption) ?_)))) HB.out.ln hnb true Hvb).mono ?_
      rintro e w1 ⟨rfl, hb1⟩
      have kC1 : Bk w1 (w.heap.size) 29 #[.int .i64 b.r.x0, .int .i64 b.r.y0, .int .i64 b.r.x1, .int .i64 b.r.y1, .slice b.A b.n b.c] := (by repeat (first | (with_reducible assumption) | ((with_reducible refine Bk.new _ _ _ ?_); first | (with_reducible rfl) | (simp; done)) | (with_reducible refine Bk.alloc ?_ _) | (with_reducible refine Bk.drew ?_) | (with_reducible refine Bk.drewN ?_ _) | ((with_reducible refine Bk.far ?_ ?_ _); rotate_left; focus (first | (simp; done) | (simp; omega))) | (with_reducible refine Bk.below ?_ (by with_reducible assumption)))); obtain ⟨kcC1, kfC1, kaC1, kgC1, klC1⟩ := kC1.rules; have kO1 : Bk w1 (w.heap.size + 1) 29 #[.int .i64 0, .int .i64 0, .int .i64 0, .int .i64 0, .slice none 0 0] := (by repeat (first | (with_reducible assumption) | ((with_reducible refine Bk.new _ _ _ ?_); first | (with_reducible rfl) | (simp; done)) | (with_reducible refine Bk.alloc ?_ _) | (with_reducible refine Bk.drew ?_) | (with_reducible refine Bk.drewN ?_ _) | ((with_reducible refine Bk.far ?_ ?_ _); rotate_left; focus (first | (simp; done) | (simp; omega))) | (with_reducible refine Bk.below ?_ (by with_reducible assumption)))); obtain ⟨kcO1, kfO1, kaO1, kgO1, klO1⟩ := kO1.rules
      go_wp2
      refine bodyPost_ret (v := _) ?_ rfl (RetME.no 6 (by repeat (first | (with_reducible exact Below.refl _ _) | (with_reducible refine balloc ?_ _) | (with_reducible refine Below.drew ?_) | (with_reducible refine bdrewN ?_ _) | ((with_reducible refine bset ?_ ?_ _); rotate_left; focus (first | (with_reducible exact Nat.le_refl _) | (simp; done) | (simp; omega) | omega)) | (with_reducible refine bstep (by with_reducible assumption) ?_))))
      simp [results, Try.results74, go_sem, kcO1]

set_option maxHeartbeats 3200000 in
theorem dilate_any (b : Mk) (n : Int) (w : World) (hb : b.ok w) (hnb : b.n ≤ 4000000000) :
    Calls Try.prog 42 #[.agg #[.int .i64 b.r.x0, .int .i64 b.r.y0, .int .i64 b.r.x1, .int .i64 b.r.y1, .slice b.A b.n b.c], .int .i64 n] w (RetME (exR b n) (exM 1 b n) (exE b n) w) := by
  have HB := Lib.hid hb
  clear hb
  have HM : Hid (∀ W, b.ok W → Calls Try.prog 74 #[.agg #[.int .i64 b.r.x0, .int .i64 b.r.y0, .int .i64 b.r.x1, .int .i64 b.r.y1, .slice b.A b.n b.c], .int .i64 n, .func (.func 75) #[] #[]] W (RetME (exR b n) (exM 1 b n) (exE b n) W)) := fun W h => morph_D b n W h hnb
  generalize exR b n = q at *
  generalize exM 1 b n = l at *
  generalize exE b n = er at *
  go_enter Try.func42, Try.ntmps42
  go_wp2_with fail
  refine (HM.out _ (HB.out.below (by repeat (first | (with_reducible exact Below.refl _ _) | (with_reducible refine balloc ?_ _) | (with_reducible refine Below.drew ?_) | (with_reducible refine bdrewN ?_ _) | ((with_reducible refine bset ?_ ?_ _); rotate_left; focus (first | (with_reducible exact Nat.le_refl _) | (simp; done) | (simp; omega) | omega)) | (with_reducible refine bstep (by with_reducible assumption) ?_))))).mono ?_
  rintro e w1 ⟨v, rfl, ho1, hb1⟩
  have kO1 : Bk w1 (w.heap.size + 1) 29 #[.int .i64 0, .int .i64 0, .int .i64 0, .int .i64 0, .slice none 0 0] := (by repeat (first | (with_reducible assumption) | ((with_reducible refine Bk.new _ _ _ ?_); first | (with_reducible rfl) | (simp; done)) | (with_reducible refine Bk.alloc ?_ _) | (with_reducible refine Bk.drew ?_) | (with_reducible refine Bk.drewN ?_ _) | ((with_reducible refine Bk.far ?_ ?_ _); rotate_left; focus (first | (simp; done) | (simp; omega))) | (with_reducible refine Bk.below ?_ (by with_reducible assumption)))); obtain ⟨kcO1, kfO1, kaO1, kgO1, klO1⟩ := kO1.rules
  obtain ⟨A1, c1, hv1, _, _⟩ := ho1.form encB_len
  generalize l.length = N at hv1
  subst hv1
  have hB1 : Below w.heap.size w w1 := (by repeat (first | (with_reducible exact Below.refl _ _) | (with_reducible refine balloc ?_ _) | (with_reducible refine Below.drew ?_) | (with_reducible refine bdrewN ?_ _) | ((with_reducible refine bset ?_ ?_ _); rotate_left; focus (first | (with_reducible exact Nat.le_refl _) | (simp; done) | (simp; omega) | omega)) | (with_reducible refine bstep (by with_reducible assumption) ?_)))
  have ho := ho1.mono (show w.heap.size ≤ _ by simp; omega)
  have o1 := ho.setFar kO1 (by decide) 0 (.int .i64 q.x0)
  have m1 := kO1.set 0 (.int .i64 q.x0)
  have o2 := o1.setFar m1 (by decide) 1 (.int .i64 q.y0)
  have m2 := m1.set 1 (.int .i64 q.y0)
  have o3 := o2.setFar m2 (by decide) 2 (.int .i64 q.x1)
  have m3 := m2.set 2 (.int .i64 q.x1)
  have o4 := o3.setFar m3 (by decide) 3 (.int .i64 q.y1)
  have m4 := m3.set 3 (.int .i64 q.y1)
  have o5 := o4.setFar m4 (by decide) 4 (.slice A1 N c1)
  clear o1 o2 o3 o4 m1 m2 m3 m4
  go_wp2
  refine bodyPost_ret (v := _) ?_ rfl ⟨_, rfl, o5, (by repeat (first | (with_reducible exact Below.refl _ _) | (with_reducible refine balloc ?_ _) | (with_reducible refine Below.drew ?_) | (with_reducible refine bdrewN ?_ _) | ((with_reducible refine bset ?_ ?_ _); rotate_left; focus (first | (with_reducible exact Nat.le_refl _) | (simp; done) | (simp; omega) | omega)) | (with_reducible refine bstep (by with_reducible assumption) ?_)))⟩
  simp [results, Try.results42, go_sem, kcO1]
end Go.Proofs.Ytndablijjkchjaa

namespace Go.Proofs.Ytndablijjkchjaa
open Go.RowKit
set_option linter.unusedSimpArgs false
set_option linter.unusedVariables false


set_option maxHeartbeats 12800000 in
theorem morph_E (b : Mk) (n : Int) (w : World) (hb : b.ok w) (hnb : b.n ≤ 4000000000) :
    Calls Try.prog 74 #[.agg #[.int .i64 b.r.x0, .int .i64 b.r.y0, .int .i64 b.r.x1, .int .i64 b.r.y1, .slice b.A b.n b.c], .int .i64 n, .func (.func 76) #[] #[]] w (RetME (exR b n) (exM (-1) b n) (exE b n) w) := by
  have HB := Lib.hid hb
  clear hb
  cases vb : vMk b with
  | false =>
    have Hvb := Lib.hid vb
    have e1 : exR b n = ⟨0, 0, 0, 0⟩ := by unfold exR exV; rw [vb]; rfl
    have e2 : exM (-1) b n = [] := by unfold exM exV; rw [vb]; rfl
    have e3 : exE b n = 14 := by unfold exE exV; rw [vb]; rfl
    rw [e1, e2, e3]
    clear e1 e2 e3
    clear vb
    go_enter Try.func74, Try.ntmps74
    go_wp2_with fail
    refine (mvalid_any b.r b.A b.n b.c b.l _ (HB.out.rd.below (by repeat (first | (with_reducible exact Below.refl _ _) | (with_reducible refine balloc ?_ _) | (with_reducible refine Below.drew ?_) | (with_reducible refine bdrewN ?_ _) | ((with_reducible refine bset ?_ ?_ _); rotate_left; focus (first | (with_reducible exact Nat.le_refl _) | (simp; done) | (simp; omega) | omega)) | (with_reducible refine bstep (by with_reducible assumption) ?_)))) HB.out.ln hnb false Hvb).mono ?_
    rintro e w1 ⟨rfl, hb1⟩
    have kO1 : Bk w1 (w.heap.size + 1) 29 #[.int .i64 0, .int .i64 0, .int .i64 0, .int .i64 0, .slice none 0 0] := (by repeat (first | (with_reducible assumption) | ((with_reducible refine Bk.new _ _ _ ?_); first | (with_reducible rfl) | (simp; done)) | (with_reducible refine Bk.alloc ?_ _) | (with_reducible refine Bk.drew ?_) | (with_reducible refine Bk.drewN ?_ _) | ((with_reducible refine Bk.far ?_ ?_ _); rotate_left; focus (first | (simp; done) | (simp; omega))) | (with_reducible refine Bk.below ?_ (by with_reducible assumption)))); obtain ⟨kcO1, kfO1, kaO1, kgO1, klO1⟩ := kO1.rules
    go_wp2
    refine bodyPost_ret (v := _) ?_ rfl (RetME.no 14 (by repeat (first | (with_reducible exact Below.refl _ _) | (with_reducible refine balloc ?_ _) | (with_reducible refine Below.drew ?_) | (with_reducible refine bdrewN ?_ _) | ((with_reducible refine bset ?_ ?_ _); rotate_left; focus (first | (with_reducible exact Nat.le_refl _) | (simp; done) | (simp; omega) | omega)) | (with_reducible refine bstep (by with_reducible assumption) ?_))))
    simp [results, Try.results74, go_sem, kcO1]
  | true =>
    have Hvb := Lib.hid vb
    by_cases h0 : 0 ≤ n
    · by_cases h1 : n ≤ 64
      · have e1 : exR b n = b.r := by unfold exR exV; rw [vb, decide_eq_true h0, decide_eq_true h1]; rfl
        have e2 : exM (-1) b n = exL (-1) (wdB b) (htB b) n.toNat b.l := by unfold exM exV; rw [vb, decide_eq_true h0, decide_eq_true h1]; rfl
        have e3 : exE b n = 0 := by unfold exE exV; rw [vb, decide_eq_true h0, decide_eq_true h1]; rfl
        rw [e1, e2, e3]
        clear e1 e2 e3
        obtain ⟨hlen, hwd0, hht0, hwl, hhl⟩ := grid_dim vb
        obtain ⟨hz2, hz⟩ := grid_pos vb
        obtain ⟨nn, rfl⟩ : ∃ k : Nat, n = (k : Int) := ⟨n.toNat, by omega⟩
        rw [Int.toNat_natCast]
        have h64 : nn ≤ 64 := by omega
        have d0 : ¬ ((nn : Int) < 0) := by omega
        have d1 : ¬ ((64 : Int) < (nn : Int)) := by omega
        generalize wdB b = wd at *
        generalize htB b = ht at *
        have hwd := Lib.hid hwd0
        have hht := Lib.hid hht0
        have harea : Hid (ht * wd = b.n) := by unfold Hid; rw [← HB.out.ln, Nat.mul_comm]; exact hlen.symm
        have HZ := Lib.hid hz
        have HZ2 := Lib.hid hz2
        obtain ⟨X, HX⟩ : ∃ X, Hid (exL (-1) wd ht nn b.l = X) := ⟨_, rfl⟩
        rw [HX.out]
        clear hwd0 hht0 hlen vb h0 h1 hz hz2
        go_enter Try.func74, Try.ntmps74
        go_wp2_with fail
        refine (mvalid_any b.r b.A b.n b.c b.l _ (HB.out.rd.below (by repeat (first | (with_reducible exact Below.refl _ _) | (with_reducible refine balloc ?_ _) | (with_reducible refine Below.drew ?_) | (with_reducible refine bdrewN ?_ _) | ((with_reducible refine bset ?_ ?_ _); rotate_left; focus (first | (with_reducible exact Nat.le_refl _) | (simp; done) | (simp; omega) | omega)) | (with_reducible refine bstep (by with_reducible assumption) ?_)))) HB.out.ln hnb true Hvb).mono ?_
        rintro e w1 ⟨rfl, hb1⟩
        have kC1 : Bk w1 (w.heap.size) 29 #[.int .i64 b.r.x0, .int .i64 b.r.y0, .int .i64 b.r.x1, .int .i64 b.r.y1, .slice b.A b.n b.c] := (by repeat (first | (with_reducible assumption) | ((with_reducible refine Bk.new _ _ _ ?_); first | (with_reducible rfl) | (simp; done)) | (with_reducible refine Bk.alloc ?_ _) | (with_reducible refine Bk.drew ?_) | (with_reducible refine Bk.drewN ?_ _) | ((with_reducible refine Bk.far ?_ ?_ _); rotate_left; focus (first | (simp; done) | (simp; omega))) | (with_reducible refine Bk.below ?_ (by with_reducible assumption)))); obtain ⟨kcC1, kfC1, kaC1, kgC1, klC1⟩ := kC1.rules; have kO1 : Bk w1 (w.heap.size + 1) 29 #[.int .i64 0, .int .i64 0, .int .i64 0, .int .i64 0, .slice none 0 0] := (by repeat (first | (with_reducible assumption) | ((with_reducible refine Bk.new _ _ _ ?_); first | (with_reducible rfl) | (simp; done)) | (with_reducible refine Bk.alloc ?_ _) | (with_reducible refine Bk.drew ?_) | (with_reducible refine Bk.drewN ?_ _) | ((with_reducible refine Bk.far ?_ ?_ _); rotate_left; focus (first | (simp; done) | (simp; omega))) | (with_reducible refine Bk.below ?_ (by with_reducible assumption)))); obtain ⟨kcO1, kfO1, kaO1, kgO1, klO1⟩ := kO1.rules
        have hB1 : Below w.heap.size w w1 := (by repeat (first | (with_reducible exact Below.refl _ _) | (with_reducible refine balloc ?_ _) | (with_reducible refine Below.drew ?_) | (with_reducible refine bdrewN ?_ _) | ((with_reducible refine bset ?_ ?_ _); rotate_left; focus (first | (with_reducible exact Nat.le_refl _) | (simp; done) | (simp; omega) | omega)) | (with_reducible refine bstep (by with_reducible assumption) ?_)))
        go_wp2_with fail
        refine (gridof_any b wd ht _ (HB.out.below hB1) hnb hwd.out hht.out hwl hhl).mono ?_
        rintro e w2 ⟨v2, rfl, ho2, hb2⟩
        have kC2 := kC1.below hb2
        have kO2 := kO1.below hb2
        have hB2 : Below w.heap.size w w2 := bstep hb2 hB1
        have hbase : w.heap.size ≤ w1.heap.size := hB1.size
        clear kcC1 kfC1 kaC1 kgC1 kcO1 kfO1 kaO1 kgO1
        obtain ⟨A2, c2, hv2, _, _⟩ := ho2.form encB_len
        rw [HB.out.ln] at hv2
        subst hv2
        have hO2 := ho2.alloc (.cells #[.int .i64 (wd : Int), .int .i64 (ht : Int), .slice A2 b.n c2] 70)
        have kC3 := kC2.alloc (.cells #[.int .i64 (wd : Int), .int .i64 (ht : Int), .slice A2 b.n c2] 70)
        have kO3 := kO2.alloc (.cells #[.int .i64 (wd : Int), .int .i64 (ht : Int), .slice A2 b.n c2] 70)
        have kG3 : Bk (w2.alloc (.cells #[.int .i64 (wd : Int), .int .i64 (ht : Int), .slice A2 b.n c2] 70)) w2.heap.size 70 #[.int .i64 (wd : Int), .int .i64 (ht : Int), .slice A2 b.n c2] := Bk.new _ _ _ rfl
        have hB3 : Below w.heap.size w (w2.alloc (.cells #[.int .i64 (wd : Int), .int .i64 (ht : Int), .slice A2 b.n c2] 70)) := balloc hB2 _
        obtain ⟨kcG, kfG, kaG, kgG, klG⟩ := kG3.rules
        go_wp2_with fail
        refine (extreme_E wd ht nn A2 b.n c2 b.l w1.heap.size _ hO2 HB.out.ln harea.out hwl hhl HZ.out HZ2.out HB.out.byte h64).mono ?_
        rintro e w3 ⟨rfl, ho3, hg3⟩
        have kC4 := kC3.grown hg3 (hO2.neBk kC3 (by decide))
        have kO4 := kO3.grown hg3 (hO2.neBk kO3 (by decide))
        have kG4 := kG3.grown hg3 (hO2.neBk kG3 (by decide))
        have hB4 := below_grown hO2 hg3 hB3 hbase
        rw [HX.out] at ho3
        have ho := ho3.mono hbase
        have lO2 := kO2.lt
        clear kcG kfG kaG kgG klG hO2 kC3 kO3 kG3 hB3 hg3
        obtain ⟨kcG, kfG, kaG, kgG, klG⟩ := kG4.rules
        obtain ⟨kcC, kfC, kaC, kgC, klC⟩ := kC4.rules
        obtain ⟨kcO, kfO, kaO, kgO, klO⟩ := kO4.rules
        have o1 := ho.setFar kO4 (by decide) 0 (.int .i64 b.r.x0)
        have m1 := kO4.set 0 (.int .i64 b.r.x0)
        have o2 := o1.setFar m1 (by decide) 1 (.int .i64 b.r.y0)
        have m2 := m1.set 1 (.int .i64 b.r.y0)
        have o3 := o2.setFar m2 (by decide) 2 (.int .i64 b.r.x1)
        have m3 := m2.set 2 (.int .i64 b.r.x1)
        have o4 := o3.setFar m3 (by decide) 3 (.int .i64 b.r.y1)
        have m4 := m3.set 3 (.int .i64 b.r.y1)
        have o5 := o4.setFar m4 (by decide) 4 (.slice A2 b.n c2)
        clear o1 o2 o3 o4 m1 m2 m3 m4
        go_wp2
        refine bodyPost_ret (v := _) ?_ rfl ⟨_, rfl, o5, (by repeat (first | (with_reducible exact Below.refl _ _) | (with_reducible refine balloc ?_ _) | (with_reducible refine Below.drew ?_) | (with_reducible refine bdrewN ?_ _) | ((with_reducible refine bset ?_ ?_ _); rotate_left; focus (first | (with_reducible exact Nat.le_refl _) | (simp; done) | (simp; omega) | omega)) | (with_reducible refine bstep (by with_reducible assumption) ?_)))⟩
        simp [results, Try.results74, go_sem, kcO]
      · have e1 : exR b n = ⟨0, 0, 0, 0⟩ := by unfold exR exV; rw [vb, decide_eq_true h0, decide_eq_false h1]; rfl
        have e2 : exM (-1) b n = [] := by unfold exM exV; rw [vb, decide_eq_true h0, decide_eq_false h1]; rfl
        have e3 : exE b n = 6 := by unfold exE exV; rw [vb, decide_eq_true h0, decide_eq_false h1]; rfl
        rw [e1, e2, e3]
        clear e1 e2 e3
        have d0 : ¬ (n < 0) := by omega
        have d1 : (64 : Int) < n := by omega
        clear vb h0 h1
        go_enter Try.func74, Try.ntmps74
        go_wp2_with fail
        refine (mvalid_any b.r b.A b.n b.c b.l _ (HB.out.rd.below (by repeat (first | (with_reducible exact Below.refl _ _) | (with_reducible refine balloc ?_ _) | (with_reducible refine Below.drew ?_) | (with_reducible refine bdrewN ?_ _) | ((with_reducible refine bset ?_ ?_ _); rotate_left; focus (first | (with_reducible exact Nat.le_refl _) | (simp; done) | (simp; omega) | omega)) | (with_reducible refine bstep (by with_reducible assumption) ?_)))) HB.out.ln hnb true Hvb).mono ?_
        rintro e w1 ⟨rfl, hb1⟩
        have kC1 : Bk w1 (w.heap.size) 29 #[.int .i64 b.r.x0, .int .i64 b.r.y0, .int .i64 b.r.x1, .int .i64 b.r.y1, .slice b.A b.n b.c] := (by repeat (first | (with_reducible assumption) | ((with_reducible refine Bk.new _ _ _ ?_); first | (with_reducible rfl) | (simp; done)) | (with_reducible refine Bk.alloc ?_ _) | (with_reducible refine Bk.drew ?_) | (with_reducible refine Bk.drewN ?_ _) | ((with_reducible refine Bk.far ?_ ?_ _); rotate_left; focus (first | (simp; done) | (simp; omega))) | (with_reducible refine Bk.below ?_ (by with_reducible assumption)))); obtain ⟨kcC1, kfC1, kaC1, kgC1, klC1⟩ := kC1.rules; have kO1 : Bk w1 (w.heap.size + 1) 29 #[.int .i64 0, .int .i64 0, .int .i64 0, .int .i64 0, .slice none 0 0] := (by repeat (first | (with_reducible assumption) | ((with_reducible refine Bk.new _ _ _ ?_); first | (with_reducible rfl) | (simp; done)) | (with_reducible refine Bk.alloc ?_ _) | (with_reducible refine Bk.drew ?_) | (with_reducible refine Bk.drewN ?_ _) | ((with_reducible refine Bk.far ?_ ?_ _); rotate_left; focus (first | (simp; done) | (simp; omega))) | (with_reducible refine Bk.below ?_ (by with_reducible assumption)))); obtain ⟨kcO1, kfO1, kaO1, kgO1, klO1⟩ := kO1.rules
        go_wp2
        refine bodyPost_ret (v := _) ?_ rfl (RetME.no 6 (by repeat (first | (with_reducible exact Below.refl _ _) | (with_reducible refine balloc ?_ _) | (with_reducible refine Below.drew ?_) | (with_reducible refine bdrewN ?_ _) | ((with_reducible refine bset ?_ ?_ _); rotate_left; focus (first | (with_reducible exact Nat.le_refl _) | (simp; done) | (simp; omega) | omega)) | (with_reducible refine bstep (by with_reducible assumption) ?_))))
        simp [results, Try.results74, go_sem, kcO1]
    · have e1 : exR b n = ⟨0, 0, 0, 0⟩ := by unfold exR exV; rw [vb, decide_eq_false h0]; rfl
      have e2 : exM (-1) b n = [] := by unfold exM exV; rw [vb, decide_eq_false h0]; rfl
      have e3 : exE b n = 6 := by unfold exE exV; rw [vb, decide_eq_false h0]; rfl
      rw [e1, e2, e3]
      clear e1 e2 e3
      have d0 : n < 0 := by omega
      clear vb h0
      go_enter Try.func74, Try.ntmps74
      go_wp2_with fail
      refine (mvalid_any b.r b.A b.n b.c b.l _ (HB.out.rd.below (by repeat (first | (with_reducible exact Below.refl _ _) | (with_reducible refine balloc ?_ _) | (with_reducible refine Below.drew ?_) | (with_reducible refine bdrewN ?_ _) | ((with_reducible refine bset ?_ ?_ _); rotate_left; focus (first | (with_reducible exact Nat.le_refl _) | (simp; done) | (simp; omega) | omega)) | (with_reducible refine bstep (by with_reducible assumption) ?_)))) HB.out.ln hnb true Hvb).mono ?_
      rintro e w1 ⟨rfl, hb1⟩
      have kC1 : Bk w1 (w.heap.size) 29 #[.int .i64 b.r.x0, .int .i64 b.r.y0, .int .i64 b.r.x1, .int .i64 b.r.y1, .slice b.A b.n b.c] := (by repeat (first | (with_reducible assumption) | ((with_reducible refine Bk.new _ _ _ ?_); first | (with_reducible rfl) | (simp; done)) | (with_reducible refine Bk.alloc ?_ _) | (with_reducible refine Bk.drew ?_) | (with_reducible refine Bk.drewN ?_ _) | ((with_reducible refine Bk.far ?_ ?_ _); rotate_left; focus (first | (simp; done) | (simp; omega))) | (with_reducible refine Bk.below ?_ (by with_reducible assumption)))); obtain ⟨kcC1, kfC1, kaC1, kgC1, klC1⟩ := kC1.rules; have kO1 : Bk w1 (w.heap.size + 1) 29 #[.int .i64 0, .int .i64 0, .int .i64 0, .int .i64 0, .slice none 0 0] := (by repeat (first | (with_reducible assumption) | ((with_reducible refine Bk.new _ _ _ ?_); first | (with_reducible rfl) | (simp; done)) | (with_reducible refine Bk.alloc ?_ _) | (with_reducible refine Bk.drew ?_) | (with_reducible refine Bk.drewN ?_ _) | ((with_reducible refine Bk.far ?_ ?_ _); rotate_left; focus (first | (simp; done) | (simp; omega))) | (with_reducible refine Bk.below ?_ (by with_reducible assumption)))); obtain ⟨kcO1, kfO1, kaO1, kgO1, klO1⟩ := kO1.rules
      go_wp2
      refine bodyPost_ret (v := _) ?_ rfl (RetME.no 6 (by repeat (first | (with_reducible exact Below.refl _ _) | (with_reducible refine balloc ?_ _) | (with_reducible refine Below.drew ?_) | (with_reducible refine bdrewN ?_ _) | ((with_reducible refine bset ?_ ?_ _); rotate_left; focus (first | (with_reducible exact Nat.le_refl _) | (simp; done) | (simp; omega) | omega)) | (with_reducible refine bstep (by with_reducible assumption) ?_))))
      simp [results, Try.results74, go_sem, kcO1]

set_option maxHeartbeats 3200000 in
theorem erode_any (b : Mk) (n : Int) (w : World) (hb : b.ok w) (hnb : b.n ≤ 4000000000) :
    Calls Try.prog 43 #[.agg #[.int .i64 b.r.x0, .int .i64 b.r.y0, .int .i64 b.r.x1, .int .i64 b.r.y1, .slice b.A b.n b.c], .int .i64 n] w (RetME (exR b n) (exM (-1) b n) (exE b n) w) := by
  have HB := Lib.hid hb
  clear hb
  have HM : Hid (∀ W, b.ok W → Calls Try.prog 74 #[.agg #[.int .i64 b.r.x0, .int .i64 b.r.y0, .int .i64 b.r.x1, .int .i64 b.r.y1, .slice b.A b.n b.c], .int .i64 n, .func (.func 76) #[] #[]] W (RetME (exR b n) (exM (-1) b n) (exE b n) W)) := fun W h => morph_E b n W h hnb
  generalize exR b n = q at *
  generalize exM (-1) b n = l at *
  generalize exE b n = er at *
  go_enter Try.func43, Try.ntmps43
  go_wp2_with fail
  refine (HM.out _ (HB.out.below (by repeat (first | (with_reducible exact Below.refl _ _) | (with_reducible refine balloc ?_ _) | (with_reducible refine Below.drew ?_) | (with_reducible refine bdrewN ?_ _) | ((with_reducible refine bset ?_ ?_ _); rotate_left; focus (first | (with_reducible exact Nat.le_refl _) | (simp; done) | (simp; omega) | omega)) | (with_reducible refine bstep (by with_reducible assumption) ?_))))).mono ?_
  rintro e w1 ⟨v, rfl, ho1, hb1⟩
  have kO1 : Bk w1 (w.heap.size + 1) 29 #[.int .i64 0, .int .i64 0, .int .i64 0, .int .i64 0, .slice none 0 0] := (by repeat (first | (with_reducible assumption) | ((with_reducible refine Bk.new _ _ _ ?_); first | (with_reducible rfl) | (simp; done)) | (with_reducible refine Bk.alloc ?_ _) | (with_reducible refine Bk.drew ?_) | (with_reducible refine Bk.drewN ?_ _) | ((with_reducible refine Bk.far ?_ ?_ _); rotate_left; focus (first | (simp; done) | (simp; omega))) | (with_reducible refine Bk.below ?_ (by with_reducible assumption)))); obtain ⟨kcO1, kfO1, kaO1, kgO1, klO1⟩ := kO1.rules
  obtain ⟨A1, c1, hv1, _, _⟩ := ho1.form encB_len
  generalize l.length = N at hv1
  subst hv1
  have hB1 : Below w.heap.size w w1 := (by repeat (first | (with_reducible exact Below.refl _ _) | (with_reducible refine balloc ?_ _) | (with_reducible refine Below.drew ?_) | (with_reducible refine bdrewN ?_ _) | ((with_reducible refine bset ?_ ?_ _); rotate_left; focus (first | (with_reducible exact Nat.le_refl _) | (simp; done) | (simp; omega) | omega)) | (with_reducible refine bstep (by with_reducible assumption) ?_)))
  have ho := ho1.mono (show w.heap.size ≤ _ by simp; omega)
  have o1 := ho.setFar kO1 (by decide) 0 (.int .i64 q.x0)
  have m1 := kO1.set 0 (.int .i64 q.x0)
  have o2 := o1.setFar m1 (by decide) 1 (.int .i64 q.y0)
  have m2 := m1.set 1 (.int .i64 q.y0)
  have o3 := o2.setFar m2 (by decide) 2 (.int .i64 q.x1)
  have m3 := m2.set 2 (.int .i64 q.x1)
  have o4 := o3.setFar m3 (by decide) 3 (.int .i64 q.y1)
  have m4 := m3.set 3 (.int .i64 q.y1)
  have o5 := o4.setFar m4 (by decide) 4 (.slice A1 N c1)
  clear o1 o2 o3 o4 m1 m2 m3 m4
  go_wp2
  refine bodyPost_ret (v := _) ?_ rfl ⟨_, rfl, o5, (by repeat (first | (with_reducible exact Below.refl _ _) | (with_reducible refine balloc ?_ _) | (with_reducible refine Below.drew ?_) | (with_reducible refine bdrewN ?_ _) | ((with_reducible refine bset ?_ ?_ _); rotate_left; focus (first | (with_reducible exact Nat.le_refl _) | (simp; done) | (simp; omega) | omega)) | (with_reducible refine bstep (by with_reducible assumption) ?_)))⟩
  simp [results, Try.results43, go_sem, kcO1]
end Go.Proofs.Ytndablijjkchjaa
