/-
  The walks of mask.Bounds and grisailleref21.Bounds.
-/
import Derived.Test.YtndablijjkchjaaMk3
import Derived.Test.YtndablijjkchjaaBoxP
namespace Go.Proofs.Ytndablijjkchjaa
open Go.RowKit
set_option linter.unusedSimpArgs false
set_option linter.unusedVariables false

/-- Where a mask is not 0. -/
def nzP (b : Mk) (x y : Int) : Bool := !(atL 0 b.r b.l x y == 0)
/-- The box around the pixels at which a mask is not 0. -/
def bndR (b : Mk) : Rc := if vMk b then boxL (nzP b) zR (ptsR b.r) else zR

set_option maxHeartbeats 6400000 in
theorem mbounds_any (b : Mk) (w : World) (hb : b.ok w) (hnb : b.n ≤ 4000000000) (d : Rc) (Hd : Hid (bndR b = d)) :
    Calls Try.prog 38 #[.agg #[.int .i64 b.r.x0, .int .i64 b.r.y0, .int .i64 b.r.x1, .int .i64 b.r.y1, .slice b.A b.n b.c]] w fun e w' => e = .returned (.agg #[.int .i64 d.x0, .int .i64 d.y0, .int .i64 d.x1, .int .i64 d.y1]) ∧ Below w.heap.size w w' := by
  have HB := Lib.hid hb
  clear hb
  cases vb : vMk b with
  | false =>
    have Hvb := Lib.hid vb
    obtain rfl : (⟨0, 0, 0, 0⟩ : Rc) = d := by have h := Hd.out; unfold bndR at h; rw [vb] at h; exact h
    clear vb Hd
    go_enter Try.func38, Try.ntmps38
    go_wp2_with fail
    refine (mvalid_any b.r b.A b.n b.c b.l _ (HB.out.rd.below (by repeat (first | (with_reducible exact Below.refl _ _) | (with_reducible refine balloc ?_ _) | (with_reducible refine Below.drew ?_) | (with_reducible refine bdrewN ?_ _) | ((with_reducible refine bset ?_ ?_ _); rotate_left; focus (first | (with_reducible exact Nat.le_refl _) | (simp; done) | (simp; omega) | omega)) | (with_reducible refine bstep (by with_reducible assumption) ?_)))) HB.out.ln hnb false Hvb).mono ?_
    rintro e w1 ⟨rfl, hb1⟩
    have kO1 : Bk w1 (w.heap.size + 1) 26 #[.int .i64 0, .int .i64 0, .int .i64 0, .int .i64 0] := (by repeat (first | (with_reducible assumption) | ((with_reducible refine Bk.new _ _ _ ?_); first | (with_reducible rfl) | (simp; done)) | (with_reducible refine Bk.alloc ?_ _) | (with_reducible refine Bk.drew ?_) | (with_reducible refine Bk.drewN ?_ _) | ((with_reducible refine Bk.far ?_ ?_ _); rotate_left; focus (first | (simp; done) | (simp; omega))) | (with_reducible refine Bk.below ?_ (by with_reducible assumption)))); obtain ⟨kcO1, kfO1, kaO1, kgO1, klO1⟩ := kO1.rules; have kE1 : Bk w1 (w.heap.size + 1 + 1) 26 #[.int .i64 0, .int .i64 0, .int .i64 0, .int .i64 0] := (by repeat (first | (with_reducible assumption) | ((with_reducible refine Bk.new _ _ _ ?_); first | (with_reducible rfl) | (simp; done)) | (with_reducible refine Bk.alloc ?_ _) | (with_reducible refine Bk.drew ?_) | (with_reducible refine Bk.drewN ?_ _) | ((with_reducible refine Bk.far ?_ ?_ _); rotate_left; focus (first | (simp; done) | (simp; omega))) | (with_reducible refine Bk.below ?_ (by with_reducible assumption)))); obtain ⟨kcE1, kfE1, kaE1, kgE1, klE1⟩ := kE1.rules
    go_wp2
    refine bodyPost_ret (v := _) ?_ rfl ⟨rfl, (by repeat (first | (with_reducible exact Below.refl _ _) | (with_reducible refine balloc ?_ _) | (with_reducible refine Below.drew ?_) | (with_reducible refine bdrewN ?_ _) | ((with_reducible refine bset ?_ ?_ _); rotate_left; focus (first | (with_reducible exact Nat.le_refl _) | (simp; done) | (simp; omega) | omega)) | (with_reducible refine bstep (by with_reducible assumption) ?_)))⟩
    simp [results, Try.results38, go_sem, kcO1, kcE1]
  | true =>
    have Hvb := Lib.hid vb
    have Hnb : Hid ((b.n : Int) = areaR b.r) := by unfold Hid; rw [← HB.out.ln]; exact (mk_cn vb).2.1
    obtain ⟨f, Hf⟩ : ∃ f, Hid (nzP b = f) := ⟨_, rfl⟩
    have hcb := canon_bd b.r
    rw [(mk_cn vb).1] at hcb
    have hd := Hd.out
    unfold bndR at hd
    rw [vb, Hf.out] at hd
    have Hd := Lib.hid (show boxL f zR (ptsR b.r) = d from hd)
    clear vb hd
    go_enter Try.func38, Try.ntmps38
    go_wp2_with fail
    refine (mvalid_any b.r b.A b.n b.c b.l _ (HB.out.rd.below (by repeat (first | (with_reducible exact Below.refl _ _) | (with_reducible refine balloc ?_ _) | (with_reducible refine Below.drew ?_) | (with_reducible refine bdrewN ?_ _) | ((with_reducible refine bset ?_ ?_ _); rotate_left; focus (first | (with_reducible exact Nat.le_refl _) | (simp; done) | (simp; omega) | omega)) | (with_reducible refine bstep (by with_reducible assumption) ?_)))) HB.out.ln hnb true Hvb).mono ?_
    rintro e w1 ⟨rfl, hb1⟩
    have kC1 : Bk w1 (w.heap.size) 29 #[.int .i64 b.r.x0, .int .i64 b.r.y0, .int .i64 b.r.x1, .int .i64 b.r.y1, .slice b.A b.n b.c] := (by repeat (first | (with_reducible assumption) | ((with_reducible refine Bk.new _ _ _ ?_); first | (with_reducible rfl) | (simp; done)) | (with_reducible refine Bk.alloc ?_ _) | (with_reducible refine Bk.drew ?_) | (with_reducible refine Bk.drewN ?_ _) | ((with_reducible refine Bk.far ?_ ?_ _); rotate_left; focus (first | (simp; done) | (simp; omega))) | (with_reducible refine Bk.below ?_ (by with_reducible assumption)))); obtain ⟨kcC1, kfC1, kaC1, kgC1, klC1⟩ := kC1.rules; have kO1 : Bk w1 (w.heap.size + 1) 26 #[.int .i64 0, .int .i64 0, .int .i64 0, .int .i64 0] := (by repeat (first | (with_reducible assumption) | ((with_reducible refine Bk.new _ _ _ ?_); first | (with_reducible rfl) | (simp; done)) | (with_reducible refine Bk.alloc ?_ _) | (with_reducible refine Bk.drew ?_) | (with_reducible refine Bk.drewN ?_ _) | ((with_reducible refine Bk.far ?_ ?_ _); rotate_left; focus (first | (simp; done) | (simp; omega))) | (with_reducible refine Bk.below ?_ (by with_reducible assumption)))); obtain ⟨kcO1, kfO1, kaO1, kgO1, klO1⟩ := kO1.rules; have kE1 : Bk w1 (w.heap.size + 1 + 1) 26 #[.int .i64 0, .int .i64 0, .int .i64 0, .int .i64 0] := (by repeat (first | (with_reducible assumption) | ((with_reducible refine Bk.new _ _ _ ?_); first | (with_reducible rfl) | (simp; done)) | (with_reducible refine Bk.alloc ?_ _) | (with_reducible refine Bk.drew ?_) | (with_reducible refine Bk.drewN ?_ _) | ((with_reducible refine Bk.far ?_ ?_ _); rotate_left; focus (first | (simp; done) | (simp; omega))) | (with_reducible refine Bk.below ?_ (by with_reducible assumption)))); obtain ⟨kcE1, kfE1, kaE1, kgE1, klE1⟩ := kE1.rules
    have hB1 : Below w.heap.size w w1 := bstep hb1 (balloc (balloc (balloc (Below.refl _ _) _) _) _)
    obtain ⟨⟨bx0, bx1, bx2⟩, ⟨by0, by1, by2⟩⟩ := hcb
    obtain ⟨wd, hwd⟩ : ∃ n : Nat, b.r.x1 - b.r.x0 = (n : Int) := ⟨(b.r.x1 - b.r.x0).toNat, by omega⟩
    obtain ⟨ht, hht⟩ : ∃ n : Nat, b.r.y1 - b.r.y0 = (n : Int) := ⟨(b.r.y1 - b.r.y0).toNat, by omega⟩
    have hw1 : b.r.x1 ≤ b.r.x0 + wd ∧ b.r.x0 + wd ≤ b.r.x1 := by omega
    have hh1 : b.r.y1 ≤ b.r.y0 + ht ∧ b.r.y0 + ht ≤ b.r.y1 := by omega
    have HPL : Hid (ptsR b.r = madeL (fun x y => (x, y)) b.r.x0 b.r.y0 wd ht) := by unfold Hid ptsR pixL; rw [hwd, hht, Int.toNat_natCast, Int.toNat_natCast]
    have hwl : wd ≤ 8192 := by omega
    have hhl : ht ≤ 8192 := by omega
    clear hwd hht
    go_wp2_with fail
    clear kcC1 kfC1 kaC1 kgC1 kcO1 kfO1 kaO1 kgO1 kcE1 kfE1 kaE1 kgE1
    go_loopw [4] (fun i wr => ∃ (j : Nat) (bx : Rc), j ≤ ht ∧ i = .int .i64 (b.r.y0 + j) ∧ Bk wr (w.heap.size) 29 #[.int .i64 b.r.x0, .int .i64 b.r.y0, .int .i64 b.r.x1, .int .i64 b.r.y1, .slice b.A b.n b.c] ∧ Bk wr (w.heap.size + 1) 26 #[.int .i64 0, .int .i64 0, .int .i64 0, .int .i64 0] ∧ Bk wr (w.heap.size + 1 + 1) 26 #[.int .i64 bx.x0, .int .i64 bx.y0, .int .i64 bx.x1, .int .i64 bx.y1] ∧ Below w.heap.size w wr ∧ Hid (boxL f zR (madeL (fun x y => (x, y)) b.r.x0 b.r.y0 wd j) = bx)) (fun i _ => (b.r.y1 - intOf i).toNat)
    case atStart => exact ⟨0, zR, Nat.zero_le _, by simp, kC1, kO1, kE1, hB1, rfl⟩
    case round =>
      obtain ⟨j, bx, hj, rfl, jC, jO, jE, hbw, HBX⟩ := hrel
      obtain ⟨kcC, kfC, kaC, kgC, klC⟩ := jC.rules
      by_cases hlt : b.r.y0 + j < b.r.y1
      · go_wp2_with fail
        clear kcC kfC kaC kgC
        go_loopw [5] (fun i wr => ∃ (k : Nat) (bx : Rc), k ≤ wd ∧ i = .int .i64 (b.r.x0 + k) ∧ Bk wr (w.heap.size) 29 #[.int .i64 b.r.x0, .int .i64 b.r.y0, .int .i64 b.r.x1, .int .i64 b.r.y1, .slice b.A b.n b.c] ∧ Bk wr (w.heap.size + 1) 26 #[.int .i64 0, .int .i64 0, .int .i64 0, .int .i64 0] ∧ Bk wr (w.heap.size + 1 + 1) 26 #[.int .i64 bx.x0, .int .i64 bx.y0, .int .i64 bx.x1, .int .i64 bx.y1] ∧ Below w.heap.size w wr ∧ Hid (boxL f zR (madeL (fun x y => (x, y)) b.r.x0 b.r.y0 wd j ++ rowL (fun x y => (x, y)) b.r.x0 (b.r.y0 + j) k) = bx)) (fun i _ => (b.r.x1 - intOf i).toNat)
        case atStart => exact ⟨0, bx, Nat.zero_le _, by simp, jC, jO, jE, hbw, by simpa [rowL, Hid] using HBX.out⟩
        case round =>
          obtain ⟨k, bx, hk, rfl, jC, jO, jE, hbw, HBX⟩ := hrel
          obtain ⟨kcC, kfC, kaC, kgC, klC⟩ := jC.rules
          obtain ⟨kcO, kfO, kaO, kgO, klO⟩ := jO.rules
          obtain ⟨kcE, kfE, kaE, kgE, klE⟩ := jE.rules
          by_cases hlx : b.r.x0 + k < b.r.x1
          · obtain ⟨p, Hp⟩ : ∃ p, Hid (atL 0 b.r b.l (b.r.x0 + k) (b.r.y0 + j) = p) := ⟨_, rfl⟩
            have hpb := atL_byte (r := b.r) HB.out.byte (b.r.x0 + k) (b.r.y0 + j)
            rw [Hp.out] at hpb
            have HF : Hid (f (b.r.x0 + k) (b.r.y0 + j) = !(p == 0)) := by unfold Hid; rw [← Hf.out]; unfold nzP; rw [Hp.out]
            have HL : Hid (boxL f zR (madeL (fun x y => (x, y)) b.r.x0 b.r.y0 wd j ++ rowL (fun x y => (x, y)) b.r.x0 (b.r.y0 + j) (k + 1)) = stepB f bx (b.r.x0 + k, b.r.y0 + j)) := by
              unfold Hid; rw [rowL_succ, ← List.append_assoc, box_snoc, HBX.out]
            by_cases hp0 : p = 0
            · subst hp0
              have HL' : Hid (boxL f zR (madeL (fun x y => (x, y)) b.r.x0 b.r.y0 wd j ++ rowL (fun x y => (x, y)) b.r.x0 (b.r.y0 + j) (k + 1)) = bx) := by
                unfold Hid; rw [HL.out]; unfold stepB; rw [HF.out]; rfl
              clear HL HF HBX
              go_wp2_with fail
              refine (mat_any b.r b.A b.n b.c b.l _ _ _ (HB.out.rd.below hbw) HB.out.ln hnb Hnb.out 0 Hp).mono ?_
              rintro e w2 ⟨rfl, hb2⟩
              have iC := jC.below hb2
              have iO := jO.below hb2
              have iE := jE.below hb2
              have hB2 : Below w.heap.size w w2 := bstep hb2 hbw
              clear kcC kfC kaC kgC kcO kfO kaO kgO kcE kfE kaE kgE
              obtain ⟨kcE, kfE, kaE, kgE, klE2⟩ := iE.rules
              obtain ⟨kcC, kfC, kaC, kgC, klC2⟩ := iC.rules
              go_wp2
              go_roundw
              case rel => exact ⟨k + 1, bx, by omega, by rw [show b.r.x0 + (k : Int) + 1 = b.r.x0 + ((k + 1 : Nat) : Int) by omega], iC, iO, iE, hB2, HL'⟩
              case measure => simp [intOf]; omega
            · obtain ⟨b2, Hb2⟩ : ∃ b', Hid (unionR ⟨bx.x0, bx.y0, bx.x1, bx.y1⟩ ⟨b.r.x0 + k, b.r.y0 + j, b.r.x0 + k + 1, b.r.y0 + j + 1⟩ = b') := ⟨_, rfl⟩
              have HL' : Hid (boxL f zR (madeL (fun x y => (x, y)) b.r.x0 b.r.y0 wd j ++ rowL (fun x y => (x, y)) b.r.x0 (b.r.y0 + j) (k + 1)) = b2) := by
                unfold Hid; rw [HL.out]; unfold stepB; rw [HF.out, show (p == 0) = false by simpa using hp0]; exact Hb2.out
              have hne : (p != 0) = true := by simpa using hp0
              have hgt : 0 < p := by omega
              clear HL HF HBX
              go_wp2_with fail
              refine (mat_any b.r b.A b.n b.c b.l _ _ _ (HB.out.rd.below hbw) HB.out.ln hnb Hnb.out p Hp).mono ?_
              rintro e w2 ⟨rfl, hb2⟩
              have iC := jC.below hb2
              have iO := jO.below hb2
              have iE := jE.below hb2
              have hB2 : Below w.heap.size w w2 := bstep hb2 hbw
              clear kcC kfC kaC kgC kcO kfO kaO kgO kcE kfE kaE kgE
              obtain ⟨kcE, kfE, kaE, kgE, klE2⟩ := iE.rules
              obtain ⟨kcC, kfC, kaC, kgC, klC2⟩ := iC.rules
              go_wp2_with fail
              refine (union_q _ _ _ _ _ _ _ _ b2 Hb2 _).mono ?_
              rintro e w3 ⟨rfl, hb3⟩
              have lC := iC.below hb3
              have lO := iO.below hb3
              have lE := iE.below hb3
              have hB3 : Below w.heap.size w w3 := bstep hb3 hB2
              clear kcC kfC kaC kgC kcE kfE kaE kgE
              obtain ⟨kcE, kfE, kaE, kgE, klE3⟩ := lE.rules
              have mC : Bk _ (w.heap.size) 29 #[.int .i64 b.r.x0, .int .i64 b.r.y0, .int .i64 b.r.x1, .int .i64 b.r.y1, .slice b.A b.n b.c] := ((((lC.far (p := ⟨(w.heap.size + 1 + 1), 0, none⟩) (show (w.heap.size ≠ w.heap.size + 1 + 1) by omega) (.int .i64 b2.x0)).far (p := ⟨(w.heap.size + 1 + 1), 1, none⟩) (show (w.heap.size ≠ w.heap.size + 1 + 1) by omega) (.int .i64 b2.y0)).far (p := ⟨(w.heap.size + 1 + 1), 2, none⟩) (show (w.heap.size ≠ w.heap.size + 1 + 1) by omega) (.int .i64 b2.x1)).far (p := ⟨(w.heap.size + 1 + 1), 3, none⟩) (show (w.heap.size ≠ w.heap.size + 1 + 1) by omega) (.int .i64 b2.y1))
              have mO : Bk _ (w.heap.size + 1) 26 #[.int .i64 0, .int .i64 0, .int .i64 0, .int .i64 0] := ((((lO.far (p := ⟨(w.heap.size + 1 + 1), 0, none⟩) (show (w.heap.size + 1 ≠ w.heap.size + 1 + 1) by omega) (.int .i64 b2.x0)).far (p := ⟨(w.heap.size + 1 + 1), 1, none⟩) (show (w.heap.size + 1 ≠ w.heap.size + 1 + 1) by omega) (.int .i64 b2.y0)).far (p := ⟨(w.heap.size + 1 + 1), 2, none⟩) (show (w.heap.size + 1 ≠ w.heap.size + 1 + 1) by omega) (.int .i64 b2.x1)).far (p := ⟨(w.heap.size + 1 + 1), 3, none⟩) (show (w.heap.size + 1 ≠ w.heap.size + 1 + 1) by omega) (.int .i64 b2.y1))
              have mE : Bk _ (w.heap.size + 1 + 1) 26 #[.int .i64 b2.x0, .int .i64 b2.y0, .int .i64 b2.x1, .int .i64 b2.y1] := ((((lE.set 0 (.int .i64 b2.x0)).set 1 (.int .i64 b2.y0)).set 2 (.int .i64 b2.x1)).set 3 (.int .i64 b2.y1))
              have hB4 := (bset (bset (bset (bset hB3 (p := ⟨w.heap.size + 1 + 1, 0, none⟩) (by show _ ≤ w.heap.size + 1 + 1; omega) (.int .i64 b2.x0)) (p := ⟨w.heap.size + 1 + 1, 1, none⟩) (by show _ ≤ w.heap.size + 1 + 1; omega) (.int .i64 b2.y0)) (p := ⟨w.heap.size + 1 + 1, 2, none⟩) (by show _ ≤ w.heap.size + 1 + 1; omega) (.int .i64 b2.x1)) (p := ⟨w.heap.size + 1 + 1, 3, none⟩) (by show _ ≤ w.heap.size + 1 + 1; omega) (.int .i64 b2.y1))
              go_wp2
              go_roundw
              case rel => exact ⟨k + 1, b2, by omega, by rw [show b.r.x0 + (k : Int) + 1 = b.r.x0 + ((k + 1 : Nat) : Int) by omega], mC, mO, mE, hB4, HL'⟩
              case measure => simp [intOf]; omega
          · obtain rfl : k = wd := by omega
            have HBX' : Hid (boxL f zR (madeL (fun x y => (x, y)) b.r.x0 b.r.y0 k (j + 1)) = bx) := by unfold Hid; rw [madeL_succ]; exact HBX.out
            go_wp2
            go_roundw
            case rel => exact ⟨j + 1, bx, by omega, by rw [show b.r.y0 + (j : Int) + 1 = b.r.y0 + ((j + 1 : Nat) : Int) by omega], jC, jO, jE, hbw, HBX'⟩
            case measure => simp [intOf]; omega
      · obtain rfl : j = ht := by omega
        have HE : Hid (bx = d) := by unfold Hid; rw [← Hd.out, ← HBX.out, HPL.out]
        obtain rfl : bx = d := HE.out
        obtain ⟨kcE, kfE, kaE, kgE, klE⟩ := jE.rules
        obtain ⟨kcO, kfO, kaO, kgO, klO⟩ := jO.rules
        go_wp2
        refine bodyPost_ret (v := _) ?_ rfl ⟨rfl, (by repeat (first | (with_reducible exact Below.refl _ _) | (with_reducible refine balloc ?_ _) | (with_reducible refine Below.drew ?_) | (with_reducible refine bdrewN ?_ _) | ((with_reducible refine bset ?_ ?_ _); rotate_left; focus (first | (with_reducible exact Nat.le_refl _) | (simp; done) | (simp; omega) | omega)) | (with_reducible refine bstep (by with_reducible assumption) ?_)))⟩
        simp [results, Try.results38, go_sem, kcO]

set_option maxHeartbeats 6400000 in
theorem rmbounds_any (b : Mk) (w : World) (hb : b.ok w) (hnb : b.n ≤ 4000000000) (d : Rc) (Hd : Hid (bndR b = d)) :
    Calls Try.prog 39 #[.agg #[.int .i64 b.r.x0, .int .i64 b.r.y0, .int .i64 b.r.x1, .int .i64 b.r.y1, .slice b.A b.n b.c]] w fun e w' => e = .returned (.agg #[.int .i64 d.x0, .int .i64 d.y0, .int .i64 d.x1, .int .i64 d.y1]) ∧ Below w.heap.size w w' := by
  have HB := Lib.hid hb
  clear hb
  cases vb : vMk b with
  | false =>
    have Hvb := Lib.hid vb
    obtain rfl : (⟨0, 0, 0, 0⟩ : Rc) = d := by have h := Hd.out; unfold bndR at h; rw [vb] at h; exact h
    clear vb Hd
    go_enter Try.func39, Try.ntmps39
    go_wp2_with fail
    refine (rmvalid_any b.r b.A b.n b.c b.l _ (HB.out.rd.below (by repeat (first | (with_reducible exact Below.refl _ _) | (with_reducible refine balloc ?_ _) | (with_reducible refine Below.drew ?_) | (with_reducible refine bdrewN ?_ _) | ((with_reducible refine bset ?_ ?_ _); rotate_left; focus (first | (with_reducible exact Nat.le_refl _) | (simp; done) | (simp; omega) | omega)) | (with_reducible refine bstep (by with_reducible assumption) ?_)))) HB.out.ln hnb false Hvb).mono ?_
    rintro e w1 ⟨rfl, hb1⟩
    have kO1 : Bk w1 (w.heap.size + 1) 26 #[.int .i64 0, .int .i64 0, .int .i64 0, .int .i64 0] := (by repeat (first | (with_reducible assumption) | ((with_reducible refine Bk.new _ _ _ ?_); first | (with_reducible rfl) | (simp; done)) | (with_reducible refine Bk.alloc ?_ _) | (with_reducible refine Bk.drew ?_) | (with_reducible refine Bk.drewN ?_ _) | ((with_reducible refine Bk.far ?_ ?_ _); rotate_left; focus (first | (simp; done) | (simp; omega))) | (with_reducible refine Bk.below ?_ (by with_reducible assumption)))); obtain ⟨kcO1, kfO1, kaO1, kgO1, klO1⟩ := kO1.rules; have kE1 : Bk w1 (w.heap.size + 1 + 1) 26 #[.int .i64 0, .int .i64 0, .int .i64 0, .int .i64 0] := (by repeat (first | (with_reducible assumption) | ((with_reducible refine Bk.new _ _ _ ?_); first | (with_reducible rfl) | (simp; done)) | (with_reducible refine Bk.alloc ?_ _) | (with_reducible refine Bk.drew ?_) | (with_reducible refine Bk.drewN ?_ _) | ((with_reducible refine Bk.far ?_ ?_ _); rotate_left; focus (first | (simp; done) | (simp; omega))) | (with_reducible refine Bk.below ?_ (by with_reducible assumption)))); obtain ⟨kcE1, kfE1, kaE1, kgE1, klE1⟩ := kE1.rules
    go_wp2
    refine bodyPost_ret (v := _) ?_ rfl ⟨rfl, (by repeat (first | (with_reducible exact Below.refl _ _) | (with_reducible refine balloc ?_ _) | (with_reducible refine Below.drew ?_) | (with_reducible refine bdrewN ?_ _) | ((with_reducible refine bset ?_ ?_ _); rotate_left; focus (first | (with_reducible exact Nat.le_refl _) | (simp; done) | (simp; omega) | omega)) | (with_reducible refine bstep (by with_reducible assumption) ?_)))⟩
    simp [results, Try.results39, go_sem, kcO1, kcE1]
  | true =>
    have Hvb := Lib.hid vb
    have Hnb : Hid ((b.n : Int) = areaR b.r) := by unfold Hid; rw [← HB.out.ln]; exact (mk_cn vb).2.1
    obtain ⟨f, Hf⟩ : ∃ f, Hid (nzP b = f) := ⟨_, rfl⟩
    have hcb := canon_bd b.r
    rw [(mk_cn vb).1] at hcb
    have hd := Hd.out
    unfold bndR at hd
    rw [vb, Hf.out] at hd
    have Hd := Lib.hid (show boxL f zR (ptsR b.r) = d from hd)
    clear vb hd
    go_enter Try.func39, Try.ntmps39
    go_wp2_with fail
    refine (rmvalid_any b.r b.A b.n b.c b.l _ (HB.out.rd.below (by repeat (first | (with_reducible exact Below.refl _ _) | (with_reducible refine balloc ?_ _) | (with_reducible refine Below.drew ?_) | (with_reducible refine bdrewN ?_ _) | ((with_reducible refine bset ?_ ?_ _); rotate_left; focus (first | (with_reducible exact Nat.le_refl _) | (simp; done) | (simp; omega) | omega)) | (with_reducible refine bstep (by with_reducible assumption) ?_)))) HB.out.ln hnb true Hvb).mono ?_
    rintro e w1 ⟨rfl, hb1⟩
    have kC1 : Bk w1 (w.heap.size) 29 #[.int .i64 b.r.x0, .int .i64 b.r.y0, .int .i64 b.r.x1, .int .i64 b.r.y1, .slice b.A b.n b.c] := (by repeat (first | (with_reducible assumption) | ((with_reducible refine Bk.new _ _ _ ?_); first | (with_reducible rfl) | (simp; done)) | (with_reducible refine Bk.alloc ?_ _) | (with_reducible refine Bk.drew ?_) | (with_reducible refine Bk.drewN ?_ _) | ((with_reducible refine Bk.far ?_ ?_ _); rotate_left; focus (first | (simp; done) | (simp; omega))) | (with_reducible refine Bk.below ?_ (by with_reducible assumption)))); obtain ⟨kcC1, kfC1, kaC1, kgC1, klC1⟩ := kC1.rules; have kO1 : Bk w1 (w.heap.size + 1) 26 #[.int .i64 0, .int .i64 0, .int .i64 0, .int .i64 0] := (by repeat (first | (with_reducible assumption) | ((with_reducible refine Bk.new _ _ _ ?_); first | (with_reducible rfl) | (simp; done)) | (with_reducible refine Bk.alloc ?_ _) | (with_reducible refine Bk.drew ?_) | (with_reducible refine Bk.drewN ?_ _) | ((with_reducible refine Bk.far ?_ ?_ _); rotate_left; focus (first | (simp; done) | (simp; omega))) | (with_reducible refine Bk.below ?_ (by with_reducible assumption)))); obtain ⟨kcO1, kfO1, kaO1, kgO1, klO1⟩ := kO1.rules; have kE1 : Bk w1 (w.heap.size + 1 + 1) 26 #[.int .i64 0, .int .i64 0, .int .i64 0, .int .i64 0] := (by repeat (first | (with_reducible assumption) | ((with_reducible refine Bk.new _ _ _ ?_); first | (with_reducible rfl) | (simp; done)) | (with_reducible refine Bk.alloc ?_ _) | (with_reducible refine Bk.drew ?_) | (with_reducible refine Bk.drewN ?_ _) | ((with_reducible refine Bk.far ?_ ?_ _); rotate_left; focus (first | (simp; done) | (simp; omega))) | (with_reducible refine Bk.below ?_ (by with_reducible assumption)))); obtain ⟨kcE1, kfE1, kaE1, kgE1, klE1⟩ := kE1.rules
    have hB1 : Below w.heap.size w w1 := bstep hb1 (balloc (balloc (balloc (Below.refl _ _) _) _) _)
    obtain ⟨⟨bx0, bx1, bx2⟩, ⟨by0, by1, by2⟩⟩ := hcb
    obtain ⟨wd, hwd⟩ : ∃ n : Nat, b.r.x1 - b.r.x0 = (n : Int) := ⟨(b.r.x1 - b.r.x0).toNat, by omega⟩
    obtain ⟨ht, hht⟩ : ∃ n : Nat, b.r.y1 - b.r.y0 = (n : Int) := ⟨(b.r.y1 - b.r.y0).toNat, by omega⟩
    have hw1 : b.r.x1 ≤ b.r.x0 + wd ∧ b.r.x0 + wd ≤ b.r.x1 := by omega
    have hh1 : b.r.y1 ≤ b.r.y0 + ht ∧ b.r.y0 + ht ≤ b.r.y1 := by omega
    have HPL : Hid (ptsR b.r = madeL (fun x y => (x, y)) b.r.x0 b.r.y0 wd ht) := by unfold Hid ptsR pixL; rw [hwd, hht, Int.toNat_natCast, Int.toNat_natCast]
    have hwl : wd ≤ 8192 := by omega
    have hhl : ht ≤ 8192 := by omega
    clear hwd hht
    go_wp2_with fail
    clear kcC1 kfC1 kaC1 kgC1 kcO1 kfO1 kaO1 kgO1 kcE1 kfE1 kaE1 kgE1
    go_loopw [4] (fun i wr => ∃ (j : Nat) (bx : Rc), j ≤ ht ∧ i = .int .i64 (b.r.y0 + j) ∧ Bk wr (w.heap.size) 29 #[.int .i64 b.r.x0, .int .i64 b.r.y0, .int .i64 b.r.x1, .int .i64 b.r.y1, .slice b.A b.n b.c] ∧ Bk wr (w.heap.size + 1) 26 #[.int .i64 0, .int .i64 0, .int .i64 0, .int .i64 0] ∧ Bk wr (w.heap.size + 1 + 1) 26 #[.int .i64 bx.x0, .int .i64 bx.y0, .int .i64 bx.x1, .int .i64 bx.y1] ∧ Below w.heap.size w wr ∧ Hid (boxL f zR (madeL (fun x y => (x, y)) b.r.x0 b.r.y0 wd j) = bx)) (fun i _ => (b.r.y1 - intOf i).toNat)
    case atStart => exact ⟨0, zR, Nat.zero_le _, by simp, kC1, kO1, kE1, hB1, rfl⟩
    case round =>
      obtain ⟨j, bx, hj, rfl, jC, jO, jE, hbw, HBX⟩ := hrel
      obtain ⟨kcC, kfC, kaC, kgC, klC⟩ := jC.rules
      by_cases hlt : b.r.y0 + j < b.r.y1
      · go_wp2_with fail
        clear kcC kfC kaC kgC
        go_loopw [5] (fun i wr => ∃ (k : Nat) (bx : Rc), k ≤ wd ∧ i = .int .i64 (b.r.x0 + k) ∧ Bk wr (w.heap.size) 29 #[.int .i64 b.r.x0, .int .i64 b.r.y0, .int .i64 b.r.x1, .int .i64 b.r.y1, .slice b.A b.n b.c] ∧ Bk wr (w.heap.size + 1) 26 #[.int .i64 0, .int .i64 0, .int .i64 0, .int .i64 0] ∧ Bk wr (w.heap.size + 1 + 1) 26 #[.int .i64 bx.x0, .int .i64 bx.y0, .int .i64 bx.x1, .int .i64 bx.y1] ∧ Below w.heap.size w wr ∧ Hid (boxL f zR (madeL (fun x y => (x, y)) b.r.x0 b.r.y0 wd j ++ rowL (fun x y => (x, y)) b.r.x0 (b.r.y0 + j) k) = bx)) (fun i _ => (b.r.x1 - intOf i).toNat)
        case atStart => exact ⟨0, bx, Nat.zero_le _, by simp, jC, jO, jE, hbw, by simpa [rowL, Hid] using HBX.out⟩
        case round =>
          obtain ⟨k, bx, hk, rfl, jC, jO, jE, hbw, HBX⟩ := hrel
          obtain ⟨kcC, kfC, kaC, kgC, klC⟩ := jC.rules
          obtain ⟨kcO, kfO, kaO, kgO, klO⟩ := jO.rules
          obtain ⟨kcE, kfE, kaE, kgE, klE⟩ := jE.rules
          by_cases hlx : b.r.x0 + k < b.r.x1
          · obtain ⟨p, Hp⟩ : ∃ p, Hid (atL 0 b.r b.l (b.r.x0 + k) (b.r.y0 + j) = p) := ⟨_, rfl⟩
            have hpb := atL_byte (r := b.r) HB.out.byte (b.r.x0 + k) (b.r.y0 + j)
            rw [Hp.out] at hpb
            have HF : Hid (f (b.r.x0 + k) (b.r.y0 + j) = !(p == 0)) := by unfold Hid; rw [← Hf.out]; unfold nzP; rw [Hp.out]
            have HL : Hid (boxL f zR (madeL (fun x y => (x, y)) b.r.x0 b.r.y0 wd j ++ rowL (fun x y => (x, y)) b.r.x0 (b.r.y0 + j) (k + 1)) = stepB f bx (b.r.x0 + k, b.r.y0 + j)) := by
              unfold Hid; rw [rowL_succ, ← List.append_assoc, box_snoc, HBX.out]
            by_cases hp0 : p = 0
            · subst hp0
              have HL' : Hid (boxL f zR (madeL (fun x y => (x, y)) b.r.x0 b.r.y0 wd j ++ rowL (fun x y => (x, y)) b.r.x0 (b.r.y0 + j) (k + 1)) = bx) := by
                unfold Hid; rw [HL.out]; unfold stepB; rw [HF.out]; rfl
              clear HL HF HBX
              go_wp2_with fail
              refine (mva_any b.r b.A b.n b.c b.l _ _ _ (HB.out.rd.below hbw) HB.out.ln hnb Hnb.out 0 Hp).mono ?_
              rintro e w2 ⟨rfl, hb2⟩
              have iC := jC.below hb2
              have iO := jO.below hb2
              have iE := jE.below hb2
              have hB2 : Below w.heap.size w w2 := bstep hb2 hbw
              clear kcC kfC kaC kgC kcO kfO kaO kgO kcE kfE kaE kgE
              obtain ⟨kcE, kfE, kaE, kgE, klE2⟩ := iE.rules
              obtain ⟨kcC, kfC, kaC, kgC, klC2⟩ := iC.rules
              go_wp2
              go_roundw
              case rel => exact ⟨k + 1, bx, by omega, by rw [show b.r.x0 + (k : Int) + 1 = b.r.x0 + ((k + 1 : Nat) : Int) by omega], iC, iO, iE, hB2, HL'⟩
              case measure => simp [intOf]; omega
            · obtain ⟨b2, Hb2⟩ : ∃ b', Hid (unionR ⟨bx.x0, bx.y0, bx.x1, bx.y1⟩ ⟨b.r.x0 + k, b.r.y0 + j, b.r.x0 + k + 1, b.r.y0 + j + 1⟩ = b') := ⟨_, rfl⟩
              have HL' : Hid (boxL f zR (madeL (fun x y => (x, y)) b.r.x0 b.r.y0 wd j ++ rowL (fun x y => (x, y)) b.r.x0 (b.r.y0 + j) (k + 1)) = b2) := by
                unfold Hid; rw [HL.out]; unfold stepB; rw [HF.out, show (p == 0) = false by simpa using hp0]; exact Hb2.out
              have hne : (p != 0) = true := by simpa using hp0
              have hgt : 0 < p := by omega
              clear HL HF HBX
              go_wp2_with fail
              refine (mva_any b.r b.A b.n b.c b.l _ _ _ (HB.out.rd.below hbw) HB.out.ln hnb Hnb.out p Hp).mono ?_
              rintro e w2 ⟨rfl, hb2⟩
              have iC := jC.below hb2
              have iO := jO.below hb2
              have iE := jE.below hb2
              have hB2 : Below w.heap.size w w2 := bstep hb2 hbw
              clear kcC kfC kaC kgC kcO kfO kaO kgO kcE kfE kaE kgE
              obtain ⟨kcE, kfE, kaE, kgE, klE2⟩ := iE.rules
              obtain ⟨kcC, kfC, kaC, kgC, klC2⟩ := iC.rules
              go_wp2_with fail
              refine (runion_q _ _ _ _ _ _ _ _ b2 Hb2 _).mono ?_
              rintro e w3 ⟨rfl, hb3⟩
              have lC := iC.below hb3
              have lO := iO.below hb3
              have lE := iE.below hb3
              have hB3 : Below w.heap.size w w3 := bstep hb3 hB2
              clear kcC kfC kaC kgC kcE kfE kaE kgE
              obtain ⟨kcE, kfE, kaE, kgE, klE3⟩ := lE.rules
              have mC : Bk _ (w.heap.size) 29 #[.int .i64 b.r.x0, .int .i64 b.r.y0, .int .i64 b.r.x1, .int .i64 b.r.y1, .slice b.A b.n b.c] := ((((lC.far (p := ⟨(w.heap.size + 1 + 1), 0, none⟩) (show (w.heap.size ≠ w.heap.size + 1 + 1) by omega) (.int .i64 b2.x0)).far (p := ⟨(w.heap.size + 1 + 1), 1, none⟩) (show (w.heap.size ≠ w.heap.size + 1 + 1) by omega) (.int .i64 b2.y0)).far (p := ⟨(w.heap.size + 1 + 1), 2, none⟩) (show (w.heap.size ≠ w.heap.size + 1 + 1) by omega) (.int .i64 b2.x1)).far (p := ⟨(w.heap.size + 1 + 1), 3, none⟩) (show (w.heap.size ≠ w.heap.size + 1 + 1) by omega) (.int .i64 b2.y1))
              have mO : Bk _ (w.heap.size + 1) 26 #[.int .i64 0, .int .i64 0, .int .i64 0, .int .i64 0] := ((((lO.far (p := ⟨(w.heap.size + 1 + 1), 0, none⟩) (show (w.heap.size + 1 ≠ w.heap.size + 1 + 1) by omega) (.int .i64 b2.x0)).far (p := ⟨(w.heap.size + 1 + 1), 1, none⟩) (show (w.heap.size + 1 ≠ w.heap.size + 1 + 1) by omega) (.int .i64 b2.y0)).far (p := ⟨(w.heap.size + 1 + 1), 2, none⟩) (show (w.heap.size + 1 ≠ w.heap.size + 1 + 1) by omega) (.int .i64 b2.x1)).far (p := ⟨(w.heap.size + 1 + 1), 3, none⟩) (show (w.heap.size + 1 ≠ w.heap.size + 1 + 1) by omega) (.int .i64 b2.y1))
              have mE : Bk _ (w.heap.size + 1 + 1) 26 #[.int .i64 b2.x0, .int .i64 b2.y0, .int .i64 b2.x1, .int .i64 b2.y1] := ((((lE.set 0 (.int .i64 b2.x0)).set 1 (.int .i64 b2.y0)).set 2 (.int .i64 b2.x1)).set 3 (.int .i64 b2.y1))
              have hB4 := (bset (bset (bset (bset hB3 (p := ⟨w.heap.size + 1 + 1, 0, none⟩) (by show _ ≤ w.heap.size + 1 + 1; omega) (.int .i64 b2.x0)) (p := ⟨w.heap.size + 1 + 1, 1, none⟩) (by show _ ≤ w.heap.size + 1 + 1; omega) (.int .i64 b2.y0)) (p := ⟨w.heap.size + 1 + 1, 2, none⟩) (by show _ ≤ w.heap.size + 1 + 1; omega) (.int .i64 b2.x1)) (p := ⟨w.heap.size + 1 + 1, 3, none⟩) (by show _ ≤ w.heap.size + 1 + 1; omega) (.int .i64 b2.y1))
              go_wp2
              go_roundw
              case rel => exact ⟨k + 1, b2, by omega, by rw [show b.r.x0 + (k : Int) + 1 = b.r.x0 + ((k + 1 : Nat) : Int) by omega], mC, mO, mE, hB4, HL'⟩
              case measure => simp [intOf]; omega
          · obtain rfl : k = wd := by omega
            have HBX' : Hid (boxL f zR (madeL (fun x y => (x, y)) b.r.x0 b.r.y0 k (j + 1)) = bx) := by unfold Hid; rw [madeL_succ]; exact HBX.out
            go_wp2
            go_roundw
            case rel => exact ⟨j + 1, bx, by omega, by rw [show b.r.y0 + (j : Int) + 1 = b.r.y0 + ((j + 1 : Nat) : Int) by omega], jC, jO, jE, hbw, HBX'⟩
            case measure => simp [intOf]; omega
      · obtain rfl : j = ht := by omega
        have HE : Hid (bx = d) := by unfold Hid; rw [← Hd.out, ← HBX.out, HPL.out]
        obtain rfl : bx = d := HE.out
        obtain ⟨kcE, kfE, kaE, kgE, klE⟩ := jE.rules
        obtain ⟨kcO, kfO, kaO, kgO, klO⟩ := jO.rules
        go_wp2
        refine bodyPost_ret (v := _) ?_ rfl ⟨rfl, (by repeat (first | (with_reducible exact Below.refl _ _) | (with_reducible refine balloc ?_ _) | (with_reducible refine Below.drew ?_) | (with_reducible refine bdrewN ?_ _) | ((with_reducible refine bset ?_ ?_ _); rotate_left; focus (first | (with_reducible exact Nat.le_refl _) | (simp; done) | (simp; omega) | omega)) | (with_reducible refine bstep (by with_reducible assumption) ?_)))⟩
        simp [results, Try.results39, go_sem, kcO]
end Go.Proofs.Ytndablijjkchjaa
