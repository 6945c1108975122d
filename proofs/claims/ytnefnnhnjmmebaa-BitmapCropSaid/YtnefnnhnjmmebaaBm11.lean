/-
  The walk of bitmap.DiffBounds.
-/
import Derived.Test.YtnefnnhnjmmebaaBm9
import Derived.Test.YtnefnnhnjmmebaaBm10
namespace Go.Proofs.Ytnefnnhnjmmebaa
open Go.RowKit
set_option linter.unusedSimpArgs false
set_option linter.unusedVariables false

set_option maxHeartbeats 6400000 in
theorem db_any (r r' : Rc) (A A' : Option Addr) (n n' c c' : Nat) (l l' : List Px) (w : World) (hr : RdL encP 4 w A l) (hr' : RdL encP 4 w A' l') (hn : l.length = n) (hn' : l'.length = n') (hn2 : n ≤ 4000000000) (hn2' : n' ≤ 4000000000) (d : Rc) (Hd : Hid (diffR r l r' l' = d)) :
    Calls Try.prog 36 #[.agg #[.int .i64 r.x0, .int .i64 r.y0, .int .i64 r.x1, .int .i64 r.y1, .slice A n c], .agg #[.int .i64 r'.x0, .int .i64 r'.y0, .int .i64 r'.x1, .int .i64 r'.y1, .slice A' n' c']] w fun e w' => e = .returned (.agg #[.int .i64 d.x0, .int .i64 d.y0, .int .i64 d.x1, .int .i64 d.y1]) ∧ Below w.heap.size w w' := by
  have HR := Lib.hid hr
  have HR' := Lib.hid hr'
  have Hn := Lib.hid hn
  have Hn' := Lib.hid hn'
  cases hv : bmValid r l <;> cases hv' : bmValid r' l'
  · have Hv : Hid (bmValid r l = false) := hv
    have Hv' : Hid (bmValid r' l' = false) := hv'
    have e1 : nrR r l = ⟨0, 0, 0, 0⟩ := by unfold nrR; rw [hv]; rfl
    have e2 : nrL r l = [] := by unfold nrL; rw [hv]; rfl
    have e3 : nrR r' l' = ⟨0, 0, 0, 0⟩ := by unfold nrR; rw [hv']; rfl
    have e4 : nrL r' l' = [] := by unfold nrL; rw [hv']; rfl
    have HD := Hd.out
    unfold diffR at HD
    rw [e1, e2, e3, e4, box_append] at HD
    obtain ⟨d1, Hd1⟩ : ∃ b, Hid (boxL (dfP (⟨0, 0, 0, 0⟩ : Rc) [] (⟨0, 0, 0, 0⟩ : Rc) []) ⟨0, 0, 0, 0⟩ (ptsR (⟨0, 0, 0, 0⟩ : Rc)) = b) := ⟨_, rfl⟩
    have HD1 : boxL (dfP (⟨0, 0, 0, 0⟩ : Rc) [] (⟨0, 0, 0, 0⟩ : Rc) []) zR (ptsR (⟨0, 0, 0, 0⟩ : Rc)) = d1 := Hd1.out
    rw [HD1] at HD
    have HD2 := Lib.hid HD
    clear HD HD1 e1 e2 e3 e4 hv hv' hn hn' hr hr'
    go_enter Try.func36, Try.ntmps36
    go_wp2_with fail
    go_loopw [11] (fun i wr => ∃ k : Nat, i = .int .i64 k ∧ Bk wr (w.heap.size + 1 + 1 + 1) 93 #[.pointer (some ⟨w.heap.size, 0, none⟩), .pointer (some ⟨w.heap.size + 1, 0, none⟩)] ∧ Bk wr (w.heap.size + 1 + 1) 23 #[.int .i64 0, .int .i64 0, .int .i64 0, .int .i64 0] ∧ Below w.heap.size w wr ∧ ((k = 0 ∧ Bk wr (w.heap.size) 28 #[.int .i64 r.x0, .int .i64 r.y0, .int .i64 r.x1, .int .i64 r.y1, .slice A n c] ∧ Bk wr (w.heap.size + 1) 28 #[.int .i64 r'.x0, .int .i64 r'.y0, .int .i64 r'.x1, .int .i64 r'.y1, .slice A' n' c']) ∨ (k = 1 ∧ Bk wr (w.heap.size) 28 #[.int .i64 0, .int .i64 0, .int .i64 0, .int .i64 0, .slice none 0 0] ∧ Bk wr (w.heap.size + 1) 28 #[.int .i64 r'.x0, .int .i64 r'.y0, .int .i64 r'.x1, .int .i64 r'.y1, .slice A' n' c']) ∨ (k = 2 ∧ Bk wr (w.heap.size) 28 #[.int .i64 0, .int .i64 0, .int .i64 0, .int .i64 0, .slice none 0 0] ∧ Bk wr (w.heap.size + 1) 28 #[.int .i64 0, .int .i64 0, .int .i64 0, .int .i64 0, .slice none 0 0]))) (fun i _ => 2 - (intOf i).toNat)
    case atStart => exact ⟨0, rfl, (by repeat (first | (with_reducible assumption) | ((with_reducible refine Bk.new _ _ _ ?_); first | (with_reducible rfl) | (simp; done)) | (with_reducible refine Bk.alloc ?_ _) | (with_reducible refine Bk.drew ?_) | (with_reducible refine Bk.drewN ?_ _) | ((with_reducible refine Bk.far ?_ ?_ _); rotate_left; focus (first | (simp; done) | (simp; omega))) | (with_reducible refine Bk.below ?_ (by with_reducible assumption)))), (by repeat (first | (with_reducible assumption) | ((with_reducible refine Bk.new _ _ _ ?_); first | (with_reducible rfl) | (simp; done)) | (with_reducible refine Bk.alloc ?_ _) | (with_reducible refine Bk.drew ?_) | (with_reducible refine Bk.drewN ?_ _) | ((with_reducible refine Bk.far ?_ ?_ _); rotate_left; focus (first | (simp; done) | (simp; omega))) | (with_reducible refine Bk.below ?_ (by with_reducible assumption)))), (by repeat (first | (with_reducible exact Below.refl _ _) | (with_reducible refine balloc ?_ _) | (with_reducible refine Below.drew ?_) | (with_reducible refine bdrewN ?_ _) | ((with_reducible refine bset ?_ ?_ _); rotate_left; focus (first | (with_reducible exact Nat.le_refl _) | (simp; done) | (simp; omega) | omega)) | (with_reducible refine bstep (by with_reducible assumption) ?_))), .inl ⟨rfl, (by repeat (first | (with_reducible assumption) | ((with_reducible refine Bk.new _ _ _ ?_); first | (with_reducible rfl) | (simp; done)) | (with_reducible refine Bk.alloc ?_ _) | (with_reducible refine Bk.drew ?_) | (with_reducible refine Bk.drewN ?_ _) | ((with_reducible refine Bk.far ?_ ?_ _); rotate_left; focus (first | (simp; done) | (simp; omega))) | (with_reducible refine Bk.below ?_ (by with_reducible assumption)))), (by repeat (first | (with_reducible assumption) | ((with_reducible refine Bk.new _ _ _ ?_); first | (with_reducible rfl) | (simp; done)) | (with_reducible refine Bk.alloc ?_ _) | (with_reducible refine Bk.drew ?_) | (with_reducible refine Bk.drewN ?_ _) | ((with_reducible refine Bk.far ?_ ?_ _); rotate_left; focus (first | (simp; done) | (simp; omega))) | (with_reducible refine Bk.below ?_ (by with_reducible assumption))))⟩⟩
    case round =>
      obtain ⟨k, rfl, jS, jO, hbw, hk⟩ := hrel
      obtain ⟨kcS, kfS, kaS, kgS, klS⟩ := jS.rules
      rcases hk with ⟨rfl, jC, jD⟩ | ⟨rfl, jC, jD⟩ | ⟨rfl, jC, jD⟩
      · obtain ⟨kc, kf, ka, kg, kl⟩ := jC.rules
        go_wp2_with fail
        refine (bvalid_any r A n c l _ (HR.out.below (by repeat (first | (with_reducible exact Below.refl _ _) | (with_reducible refine balloc ?_ _) | (with_reducible refine Below.drew ?_) | (with_reducible refine bdrewN ?_ _) | ((with_reducible refine bset ?_ ?_ _); rotate_left; focus (first | (with_reducible exact Nat.le_refl _) | (simp; done) | (simp; omega) | omega)) | (with_reducible refine bstep (by with_reducible assumption) ?_)))) Hn.out hn2 false Hv).mono ?_
        rintro e w1 ⟨rfl, hb1⟩
        clear kc kf ka kg kcS kfS kaS kgS
        have iS := jS.below hb1
        have iO := jO.below hb1
        have iC := jC.below hb1
        have iD := jD.below hb1
        have hB1 : Below w.heap.size w w1 := (by repeat (first | (with_reducible exact Below.refl _ _) | (with_reducible refine balloc ?_ _) | (with_reducible refine Below.drew ?_) | (with_reducible refine bdrewN ?_ _) | ((with_reducible refine bset ?_ ?_ _); rotate_left; focus (first | (with_reducible exact Nat.le_refl _) | (simp; done) | (simp; omega) | omega)) | (with_reducible refine bstep (by with_reducible assumption) ?_)))
        obtain ⟨kc, kf, ka, kg, kl⟩ := iC.rules
        have mS : Bk _ (w.heap.size + 1 + 1 + 1) 93 #[.pointer (some ⟨w.heap.size, 0, none⟩), .pointer (some ⟨w.heap.size + 1, 0, none⟩)] := (((((iS.far (p := ⟨(w.heap.size), 0, none⟩) (by simp <;> omega) (.int .i64 0)).far (p := ⟨(w.heap.size), 1, none⟩) (by simp <;> omega) (.int .i64 0)).far (p := ⟨(w.heap.size), 2, none⟩) (by simp <;> omega) (.int .i64 0)).far (p := ⟨(w.heap.size), 3, none⟩) (by simp <;> omega) (.int .i64 0)).far (p := ⟨(w.heap.size), 4, none⟩) (by simp <;> omega) (.slice none 0 0))
        have mO : Bk _ (w.heap.size + 1 + 1) 23 #[.int .i64 0, .int .i64 0, .int .i64 0, .int .i64 0] := (((((iO.far (p := ⟨(w.heap.size), 0, none⟩) (by simp <;> omega) (.int .i64 0)).far (p := ⟨(w.heap.size), 1, none⟩) (by simp <;> omega) (.int .i64 0)).far (p := ⟨(w.heap.size), 2, none⟩) (by simp <;> omega) (.int .i64 0)).far (p := ⟨(w.heap.size), 3, none⟩) (by simp <;> omega) (.int .i64 0)).far (p := ⟨(w.heap.size), 4, none⟩) (by simp <;> omega) (.slice none 0 0))
        have mC : Bk _ (w.heap.size) 28 #[.int .i64 0, .int .i64 0, .int .i64 0, .int .i64 0, .slice none 0 0] := (((((iC.set 0 (.int .i64 0)).set 1 (.int .i64 0)).set 2 (.int .i64 0)).set 3 (.int .i64 0)).set 4 (.slice none 0 0))
        have mD : Bk _ (w.heap.size + 1) 28 #[.int .i64 r'.x0, .int .i64 r'.y0, .int .i64 r'.x1, .int .i64 r'.y1, .slice A' n' c'] := (((((iD.far (p := ⟨(w.heap.size), 0, none⟩) (by simp <;> omega) (.int .i64 0)).far (p := ⟨(w.heap.size), 1, none⟩) (by simp <;> omega) (.int .i64 0)).far (p := ⟨(w.heap.size), 2, none⟩) (by simp <;> omega) (.int .i64 0)).far (p := ⟨(w.heap.size), 3, none⟩) (by simp <;> omega) (.int .i64 0)).far (p := ⟨(w.heap.size), 4, none⟩) (by simp <;> omega) (.slice none 0 0))
        have hB2 := (bset (bset (bset (bset (bset hB1 (p := ⟨w.heap.size, 0, none⟩) (by show _ ≤ w.heap.size; omega) (.int .i64 0)) (p := ⟨w.heap.size, 1, none⟩) (by show _ ≤ w.heap.size; omega) (.int .i64 0)) (p := ⟨w.heap.size, 2, none⟩) (by show _ ≤ w.heap.size; omega) (.int .i64 0)) (p := ⟨w.heap.size, 3, none⟩) (by show _ ≤ w.heap.size; omega) (.int .i64 0)) (p := ⟨w.heap.size, 4, none⟩) (by show _ ≤ w.heap.size; omega) (.slice none 0 0))
        go_wp2
        go_roundw
        case rel => exact ⟨1, rfl, mS, mO, hB2, .inr (.inl ⟨rfl, mC, mD⟩)⟩
        case measure => simp [intOf]
      · obtain ⟨kc, kf, ka, kg, kl⟩ := jD.rules
        go_wp2_with fail
        refine (bvalid_any r' A' n' c' l' _ (HR'.out.below (by repeat (first | (with_reducible exact Below.refl _ _) | (with_reducible refine balloc ?_ _) | (with_reducible refine Below.drew ?_) | (with_reducible refine bdrewN ?_ _) | ((with_reducible refine bset ?_ ?_ _); rotate_left; focus (first | (with_reducible exact Nat.le_refl _) | (simp; done) | (simp; omega) | omega)) | (with_reducible refine bstep (by with_reducible assumption) ?_)))) Hn'.out hn2' false Hv').mono ?_
        rintro e w1 ⟨rfl, hb1⟩
        clear kc kf ka kg kcS kfS kaS kgS
        have iS := jS.below hb1
        have iO := jO.below hb1
        have iC := jC.below hb1
        have iD := jD.below hb1
        have hB1 : Below w.heap.size w w1 := (by repeat (first | (with_reducible exact Below.refl _ _) | (with_reducible refine balloc ?_ _) | (with_reducible refine Below.drew ?_) | (with_reducible refine bdrewN ?_ _) | ((with_reducible refine bset ?_ ?_ _); rotate_left; focus (first | (with_reducible exact Nat.le_refl _) | (simp; done) | (simp; omega) | omega)) | (with_reducible refine bstep (by with_reducible assumption) ?_)))
        obtain ⟨kc, kf, ka, kg, kl⟩ := iD.rules
        have mS : Bk _ (w.heap.size + 1 + 1 + 1) 93 #[.pointer (some ⟨w.heap.size, 0, none⟩), .pointer (some ⟨w.heap.size + 1, 0, none⟩)] := (((((iS.far (p := ⟨(w.heap.size + 1), 0, none⟩) (by simp <;> omega) (.int .i64 0)).far (p := ⟨(w.heap.size + 1), 1, none⟩) (by simp <;> omega) (.int .i64 0)).far (p := ⟨(w.heap.size + 1), 2, none⟩) (by simp <;> omega) (.int .i64 0)).far (p := ⟨(w.heap.size + 1), 3, none⟩) (by simp <;> omega) (.int .i64 0)).far (p := ⟨(w.heap.size + 1), 4, none⟩) (by simp <;> omega) (.slice none 0 0))
        have mO : Bk _ (w.heap.size + 1 + 1) 23 #[.int .i64 0, .int .i64 0, .int .i64 0, .int .i64 0] := (((((iO.far (p := ⟨(w.heap.size + 1), 0, none⟩) (by simp <;> omega) (.int .i64 0)).far (p := ⟨(w.heap.size + 1), 1, none⟩) (by simp <;> omega) (.int .i64 0)).far (p := ⟨(w.heap.size + 1), 2, none⟩) (by simp <;> omega) (.int .i64 0)).far (p := ⟨(w.heap.size + 1), 3, none⟩) (by simp <;> omega) (.int .i64 0)).far (p := ⟨(w.heap.size + 1), 4, none⟩) (by simp <;> omega) (.slice none 0 0))
        have mC : Bk _ (w.heap.size) 28 #[.int .i64 0, .int .i64 0, .int .i64 0, .int .i64 0, .slice none 0 0] := (((((iC.far (p := ⟨(w.heap.size + 1), 0, none⟩) (by simp <;> omega) (.int .i64 0)).far (p := ⟨(w.heap.size + 1), 1, none⟩) (by simp <;> omega) (.int .i64 0)).far (p := ⟨(w.heap.size + 1), 2, none⟩) (by simp <;> omega) (.int .i64 0)).far (p := ⟨(w.heap.size + 1), 3, none⟩) (by simp <;> omega) (.int .i64 0)).far (p := ⟨(w.heap.size + 1), 4, none⟩) (by simp <;> omega) (.slice none 0 0))
        have mD : Bk _ (w.heap.size + 1) 28 #[.int .i64 0, .int .i64 0, .int .i64 0, .int .i64 0, .slice none 0 0] := (((((iD.set 0 (.int .i64 0)).set 1 (.int .i64 0)).set 2 (.int .i64 0)).set 3 (.int .i64 0)).set 4 (.slice none 0 0))
        have hB2 := (bset (bset (bset (bset (bset hB1 (p := ⟨w.heap.size + 1, 0, none⟩) (by show _ ≤ w.heap.size + 1; omega) (.int .i64 0)) (p := ⟨w.heap.size + 1, 1, none⟩) (by show _ ≤ w.heap.size + 1; omega) (.int .i64 0)) (p := ⟨w.heap.size + 1, 2, none⟩) (by show _ ≤ w.heap.size + 1; omega) (.int .i64 0)) (p := ⟨w.heap.size + 1, 3, none⟩) (by show _ ≤ w.heap.size + 1; omega) (.int .i64 0)) (p := ⟨w.heap.size + 1, 4, none⟩) (by show _ ≤ w.heap.size + 1; omega) (.slice none 0 0))
        go_wp2
        go_roundw
        case rel => exact ⟨2, rfl, mS, mO, hB2, .inr (.inr ⟨rfl, mC, mD⟩)⟩
        case measure => simp [intOf]
      · obtain ⟨kcC, kfC, kaC, kgC, klC⟩ := jC.rules
        obtain ⟨kcD, kfD, kaD, kgD, klD⟩ := jD.rules
        have klO := jO.lt
        go_wp2_with fail
        refine (note_any (w.heap.size) (w.heap.size + 1) wr.heap.size (⟨0, 0, 0, 0⟩ : Rc) (⟨0, 0, 0, 0⟩ : Rc) (⟨0, 0, 0, 0⟩ : Rc) none none 0 0 0 0 [] [] ⟨0, 0, 0, 0⟩ w _ (by repeat (first | (with_reducible exact Below.refl _ _) | (with_reducible refine balloc ?_ _) | (with_reducible refine Below.drew ?_) | (with_reducible refine bdrewN ?_ _) | ((with_reducible refine bset ?_ ?_ _); rotate_left; focus (first | (with_reducible exact Nat.le_refl _) | (simp; done) | (simp; omega) | omega)) | (with_reducible refine bstep (by with_reducible assumption) ?_))) rfl RdL.nil RdL.nil rfl rfl (by omega) (by omega) rfl rfl (jC.alloc _) (jD.alloc _) (Bk.new _ _ _ rfl) (Nat.le_refl _) (by omega) (by omega) (by omega) (by omega) d1 Hd1).mono ?_
        rintro e w2 ⟨rfl, i0, i1, i2, hb2, hg2⟩
        clear kcC kfC kaC kgC kcD kfD kaD kgD kcS kfS kaS kgS
        obtain ⟨kcC, kfC, kaC, kgC, klC'⟩ := i0.rules
        obtain ⟨kcD, kfD, kaD, kgD, klD'⟩ := i1.rules
        have FO : Bk w2 (w.heap.size + 1 + 1) 23 #[.int .i64 0, .int .i64 0, .int .i64 0, .int .i64 0] := (jO.alloc _).grown hg2 (by simp; omega)
        go_wp2_with fail
        refine (note_any (w.heap.size) (w.heap.size + 1) wr.heap.size (⟨0, 0, 0, 0⟩ : Rc) (⟨0, 0, 0, 0⟩ : Rc) (⟨0, 0, 0, 0⟩ : Rc) none none 0 0 0 0 [] [] d1 w _ hb2 rfl RdL.nil RdL.nil rfl rfl (by omega) (by omega) rfl rfl i0 i1 i2 (Nat.le_refl _) (by omega) (by omega) (by omega) (by omega) d HD2).mono ?_
        rintro e w3 ⟨rfl, o0, o1, o2, hb3, hg3⟩
        have FO3 := FO.grown hg3 (by simp; omega)
        obtain ⟨kcF, kfF, kaF, kgF, klF⟩ := FO3.rules
        clear kcC kfC kaC kgC kcD kfD kaD kgD
        obtain ⟨kcE, kfE, kaE, kgE, klE⟩ := o2.rules
        go_wp2
        refine bodyPost_ret (v := _) ?_ rfl ⟨rfl, (by repeat (first | (with_reducible exact Below.refl _ _) | (with_reducible refine balloc ?_ _) | (with_reducible refine Below.drew ?_) | (with_reducible refine bdrewN ?_ _) | ((with_reducible refine bset ?_ ?_ _); rotate_left; focus (first | (with_reducible exact Nat.le_refl _) | (simp; done) | (simp; omega) | omega)) | (with_reducible refine bstep (by with_reducible assumption) ?_)))⟩
        simp [results, Try.results36, go_sem, kcF]
  · have Hv : Hid (bmValid r l = false) := hv
    have Hv' : Hid (bmValid r' l' = true) := hv'
    have HC' : Hid (canonR r' = r') := (valid_cn hv').1
    have HA' : Hid ((n' : Int) = areaR r') := by unfold Hid; rw [← hn']; exact (valid_cn hv').2.1
    have e1 : nrR r l = ⟨0, 0, 0, 0⟩ := by unfold nrR; rw [hv]; rfl
    have e2 : nrL r l = [] := by unfold nrL; rw [hv]; rfl
    have e3 : nrR r' l' = r' := by unfold nrR; rw [hv']; rfl
    have e4 : nrL r' l' = l' := by unfold nrL; rw [hv']; rfl
    have HD := Hd.out
    unfold diffR at HD
    rw [e1, e2, e3, e4, box_append] at HD
    obtain ⟨d1, Hd1⟩ : ∃ b, Hid (boxL (dfP (⟨0, 0, 0, 0⟩ : Rc) [] r' l') ⟨0, 0, 0, 0⟩ (ptsR (⟨0, 0, 0, 0⟩ : Rc)) = b) := ⟨_, rfl⟩
    have HD1 : boxL (dfP (⟨0, 0, 0, 0⟩ : Rc) [] r' l') zR (ptsR (⟨0, 0, 0, 0⟩ : Rc)) = d1 := Hd1.out
    rw [HD1] at HD
    have HD2 := Lib.hid HD
    clear HD HD1 e1 e2 e3 e4 hv hv' hn hn' hr hr'
    go_enter Try.func36, Try.ntmps36
    go_wp2_with fail
    go_loopw [11] (fun i wr => ∃ k : Nat, i = .int .i64 k ∧ Bk wr (w.heap.size + 1 + 1 + 1) 93 #[.pointer (some ⟨w.heap.size, 0, none⟩), .pointer (some ⟨w.heap.size + 1, 0, none⟩)] ∧ Bk wr (w.heap.size + 1 + 1) 23 #[.int .i64 0, .int .i64 0, .int .i64 0, .int .i64 0] ∧ Below w.heap.size w wr ∧ ((k = 0 ∧ Bk wr (w.heap.size) 28 #[.int .i64 r.x0, .int .i64 r.y0, .int .i64 r.x1, .int .i64 r.y1, .slice A n c] ∧ Bk wr (w.heap.size + 1) 28 #[.int .i64 r'.x0, .int .i64 r'.y0, .int .i64 r'.x1, .int .i64 r'.y1, .slice A' n' c']) ∨ (k = 1 ∧ Bk wr (w.heap.size) 28 #[.int .i64 0, .int .i64 0, .int .i64 0, .int .i64 0, .slice none 0 0] ∧ Bk wr (w.heap.size + 1) 28 #[.int .i64 r'.x0, .int .i64 r'.y0, .int .i64 r'.x1, .int .i64 r'.y1, .slice A' n' c']) ∨ (k = 2 ∧ Bk wr (w.heap.size) 28 #[.int .i64 0, .int .i64 0, .int .i64 0, .int .i64 0, .slice none 0 0] ∧ Bk wr (w.heap.size + 1) 28 #[.int .i64 r'.x0, .int .i64 r'.y0, .int .i64 r'.x1, .int .i64 r'.y1, .slice A' n' c']))) (fun i _ => 2 - (intOf i).toNat)
    case atStart => exact ⟨0, rfl, (by repeat (first | (with_reducible assumption) | ((with_reducible refine Bk.new _ _ _ ?_); first | (with_reducible rfl) | (simp; done)) | (with_reducible refine Bk.alloc ?_ _) | (with_reducible refine Bk.drew ?_) | (with_reducible refine Bk.drewN ?_ _) | ((with_reducible refine Bk.far ?_ ?_ _); rotate_left; focus (first | (simp; done) | (simp; omega))) | (with_reducible refine Bk.below ?_ (by with_reducible assumption)))), (by repeat (first | (with_reducible assumption) | ((with_reducible refine Bk.new _ _ _ ?_); first | (with_reducible rfl) | (simp; done)) | (with_reducible refine Bk.alloc ?_ _) | (with_reducible refine Bk.drew ?_) | (with_reducible refine Bk.drewN ?_ _) | ((with_reducible refine Bk.far ?_ ?_ _); rotate_left; focus (first | (simp; done) | (simp; omega))) | (with_reducible refine Bk.below ?_ (by with_reducible assumption)))), (by repeat (first | (with_reducible exact Below.refl _ _) | (with_reducible refine balloc ?_ _) | (with_reducible refine Below.drew ?_) | (with_reducible refine bdrewN ?_ _) | ((with_reducible refine bset ?_ ?_ _); rotate_left; focus (first | (with_reducible exact Nat.le_refl _) | (simp; done) | (simp; omega) | omega)) | (with_reducible refine bstep (by with_reducible assumption) ?_))), .inl ⟨rfl, (by repeat (first | (with_reducible assumption) | ((with_reducible refine Bk.new _ _ _ ?_); first | (with_reducible rfl) | (simp; done)) | (with_reducible refine Bk.alloc ?_ _) | (with_reducible refine Bk.drew ?_) | (with_reducible refine Bk.drewN ?_ _) | ((with_reducible refine Bk.far ?_ ?_ _); rotate_left; focus (first | (simp; done) | (simp; omega))) | (with_reducible refine Bk.below ?_ (by with_reducible assumption)))), (by repeat (first | (with_reducible assumption) | ((with_reducible refine Bk.new _ _ _ ?_); first | (with_reducible rfl) | (simp; done)) | (with_reducible refine Bk.alloc ?_ _) | (with_reducible refine Bk.drew ?_) | (with_reducible refine Bk.drewN ?_ _) | ((with_reducible refine Bk.far ?_ ?_ _); rotate_left; focus (first | (simp; done) | (simp; omega))) | (with_reducible refine Bk.below ?_ (by with_reducible assumption))))⟩⟩
    case round =>
      obtain ⟨k, rfl, jS, jO, hbw, hk⟩ := hrel
      obtain ⟨kcS, kfS, kaS, kgS, klS⟩ := jS.rules
      rcases hk with ⟨rfl, jC, jD⟩ | ⟨rfl, jC, jD⟩ | ⟨rfl, jC, jD⟩
      · obtain ⟨kc, kf, ka, kg, kl⟩ := jC.rules
        go_wp2_with fail
        refine (bvalid_any r A n c l _ (HR.out.below (by repeat (first | (with_reducible exact Below.refl _ _) | (with_reducible refine balloc ?_ _) | (with_reducible refine Below.drew ?_) | (with_reducible refine bdrewN ?_ _) | ((with_reducible refine bset ?_ ?_ _); rotate_left; focus (first | (with_reducible exact Nat.le_refl _) | (simp; done) | (simp; omega) | omega)) | (with_reducible refine bstep (by with_reducible assumption) ?_)))) Hn.out hn2 false Hv).mono ?_
        rintro e w1 ⟨rfl, hb1⟩
        clear kc kf ka kg kcS kfS kaS kgS
        have iS := jS.below hb1
        have iO := jO.below hb1
        have iC := jC.below hb1
        have iD := jD.below hb1
        have hB1 : Below w.heap.size w w1 := (by repeat (first | (with_reducible exact Below.refl _ _) | (with_reducible refine balloc ?_ _) | (with_reducible refine Below.drew ?_) | (with_reducible refine bdrewN ?_ _) | ((with_reducible refine bset ?_ ?_ _); rotate_left; focus (first | (with_reducible exact Nat.le_refl _) | (simp; done) | (simp; omega) | omega)) | (with_reducible refine bstep (by with_reducible assumption) ?_)))
        obtain ⟨kc, kf, ka, kg, kl⟩ := iC.rules
        have mS : Bk _ (w.heap.size + 1 + 1 + 1) 93 #[.pointer (some ⟨w.heap.size, 0, none⟩), .pointer (some ⟨w.heap.size + 1, 0, none⟩)] := (((((iS.far (p := ⟨(w.heap.size), 0, none⟩) (by simp <;> omega) (.int .i64 0)).far (p := ⟨(w.heap.size), 1, none⟩) (by simp <;> omega) (.int .i64 0)).far (p := ⟨(w.heap.size), 2, none⟩) (by simp <;> omega) (.int .i64 0)).far (p := ⟨(w.heap.size), 3, none⟩) (by simp <;> omega) (.int .i64 0)).far (p := ⟨(w.heap.size), 4, none⟩) (by simp <;> omega) (.slice none 0 0))
        have mO : Bk _ (w.heap.size + 1 + 1) 23 #[.int .i64 0, .int .i64 0, .int .i64 0, .int .i64 0] := (((((iO.far (p := ⟨(w.heap.size), 0, none⟩) (by simp <;> omega) (.int .i64 0)).far (p := ⟨(w.heap.size), 1, none⟩) (by simp <;> omega) (.int .i64 0)).far (p := ⟨(w.heap.size), 2, none⟩) (by simp <;> omega) (.int .i64 0)).far (p := ⟨(w.heap.size), 3, none⟩) (by simp <;> omega) (.int .i64 0)).far (p := ⟨(w.heap.size), 4, none⟩) (by simp <;> omega) (.slice none 0 0))
        have mC : Bk _ (w.heap.size) 28 #[.int .i64 0, .int .i64 0, .int .i64 0, .int .i64 0, .slice none 0 0] := (((((iC.set 0 (.int .i64 0)).set 1 (.int .i64 0)).set 2 (.int .i64 0)).set 3 (.int .i64 0)).set 4 (.slice none 0 0))
        have mD : Bk _ (w.heap.size + 1) 28 #[.int .i64 r'.x0, .int .i64 r'.y0, .int .i64 r'.x1, .int .i64 r'.y1, .slice A' n' c'] := (((((iD.far (p := ⟨(w.heap.size), 0, none⟩) (by simp <;> omega) (.int .i64 0)).far (p := ⟨(w.heap.size), 1, none⟩) (by simp <;> omega) (.int .i64 0)).far (p := ⟨(w.heap.size), 2, none⟩) (by simp <;> omega) (.int .i64 0)).far (p := ⟨(w.heap.size), 3, none⟩) (by simp <;> omega) (.int .i64 0)).far (p := ⟨(w.heap.size), 4, none⟩) (by simp <;> omega) (.slice none 0 0))
        have hB2 := (bset (bset (bset (bset (bset hB1 (p := ⟨w.heap.size, 0, none⟩) (by show _ ≤ w.heap.size; omega) (.int .i64 0)) (p := ⟨w.heap.size, 1, none⟩) (by show _ ≤ w.heap.size; omega) (.int .i64 0)) (p := ⟨w.heap.size, 2, none⟩) (by show _ ≤ w.heap.size; omega) (.int .i64 0)) (p := ⟨w.heap.size, 3, none⟩) (by show _ ≤ w.heap.size; omega) (.int .i64 0)) (p := ⟨w.heap.size, 4, none⟩) (by show _ ≤ w.heap.size; omega) (.slice none 0 0))
        go_wp2
        go_roundw
        case rel => exact ⟨1, rfl, mS, mO, hB2, .inr (.inl ⟨rfl, mC, mD⟩)⟩
        case measure => simp [intOf]
      · obtain ⟨kc, kf, ka, kg, kl⟩ := jD.rules
        go_wp2_with fail
        refine (bvalid_any r' A' n' c' l' _ (HR'.out.below (by repeat (first | (with_reducible exact Below.refl _ _) | (with_reducible refine balloc ?_ _) | (with_reducible refine Below.drew ?_) | (with_reducible refine bdrewN ?_ _) | ((with_reducible refine bset ?_ ?_ _); rotate_left; focus (first | (with_reducible exact Nat.le_refl _) | (simp; done) | (simp; omega) | omega)) | (with_reducible refine bstep (by with_reducible assumption) ?_)))) Hn'.out hn2' true Hv').mono ?_
        rintro e w1 ⟨rfl, hb1⟩
        clear kc kf ka kg kcS kfS kaS kgS
        have iS := jS.below hb1
        have iO := jO.below hb1
        have iC := jC.below hb1
        have iD := jD.below hb1
        have hB1 : Below w.heap.size w w1 := (by repeat (first | (with_reducible exact Below.refl _ _) | (with_reducible refine balloc ?_ _) | (with_reducible refine Below.drew ?_) | (with_reducible refine bdrewN ?_ _) | ((with_reducible refine bset ?_ ?_ _); rotate_left; focus (first | (with_reducible exact Nat.le_refl _) | (simp; done) | (simp; omega) | omega)) | (with_reducible refine bstep (by with_reducible assumption) ?_)))
        go_wp2
        go_roundw
        case rel => exact ⟨2, rfl, iS, iO, hB1, .inr (.inr ⟨rfl, iC, iD⟩)⟩
        case measure => simp [intOf]
      · obtain ⟨kcC, kfC, kaC, kgC, klC⟩ := jC.rules
        obtain ⟨kcD, kfD, kaD, kgD, klD⟩ := jD.rules
        have klO := jO.lt
        go_wp2_with fail
        refine (note_any (w.heap.size) (w.heap.size + 1) wr.heap.size (⟨0, 0, 0, 0⟩ : Rc) (⟨0, 0, 0, 0⟩ : Rc) r' none A' 0 n' 0 c' [] l' ⟨0, 0, 0, 0⟩ w _ (by repeat (first | (with_reducible exact Below.refl _ _) | (with_reducible refine balloc ?_ _) | (with_reducible refine Below.drew ?_) | (with_reducible refine bdrewN ?_ _) | ((with_reducible refine bset ?_ ?_ _); rotate_left; focus (first | (with_reducible exact Nat.le_refl _) | (simp; done) | (simp; omega) | omega)) | (with_reducible refine bstep (by with_reducible assumption) ?_))) rfl RdL.nil (HR'.out) rfl Hn'.out (by omega) hn2' rfl HA'.out (jC.alloc _) (jD.alloc _) (Bk.new _ _ _ rfl) (Nat.le_refl _) (by omega) (by omega) (by omega) (by omega) d1 Hd1).mono ?_
        rintro e w2 ⟨rfl, i0, i1, i2, hb2, hg2⟩
        clear kcC kfC kaC kgC kcD kfD kaD kgD kcS kfS kaS kgS
        obtain ⟨kcC, kfC, kaC, kgC, klC'⟩ := i0.rules
        obtain ⟨kcD, kfD, kaD, kgD, klD'⟩ := i1.rules
        have FO : Bk w2 (w.heap.size + 1 + 1) 23 #[.int .i64 0, .int .i64 0, .int .i64 0, .int .i64 0] := (jO.alloc _).grown hg2 (by simp; omega)
        go_wp2_with fail
        refine (note_any (w.heap.size) (w.heap.size + 1) wr.heap.size r' (⟨0, 0, 0, 0⟩ : Rc) r' none A' 0 n' 0 c' [] l' d1 w _ hb2 HC'.out RdL.nil (HR'.out) rfl Hn'.out (by omega) hn2' rfl HA'.out i0 i1 i2 (Nat.le_refl _) (by omega) (by omega) (by omega) (by omega) d HD2).mono ?_
        rintro e w3 ⟨rfl, o0, o1, o2, hb3, hg3⟩
        have FO3 := FO.grown hg3 (by simp; omega)
        obtain ⟨kcF, kfF, kaF, kgF, klF⟩ := FO3.rules
        clear kcC kfC kaC kgC kcD kfD kaD kgD
        obtain ⟨kcE, kfE, kaE, kgE, klE⟩ := o2.rules
        go_wp2
        refine bodyPost_ret (v := _) ?_ rfl ⟨rfl, (by repeat (first | (with_reducible exact Below.refl _ _) | (with_reducible refine balloc ?_ _) | (with_reducible refine Below.drew ?_) | (with_reducible refine bdrewN ?_ _) | ((with_reducible refine bset ?_ ?_ _); rotate_left; focus (first | (with_reducible exact Nat.le_refl _) | (simp; done) | (simp; omega) | omega)) | (with_reducible refine bstep (by with_reducible assumption) ?_)))⟩
        simp [results, Try.results36, go_sem, kcF]
  · have Hv : Hid (bmValid r l = true) := hv
    have HC : Hid (canonR r = r) := (valid_cn hv).1
    have HA : Hid ((n : Int) = areaR r) := by unfold Hid; rw [← hn]; exact (valid_cn hv).2.1
    have Hv' : Hid (bmValid r' l' = false) := hv'
    have e1 : nrR r l = r := by unfold nrR; rw [hv]; rfl
    have e2 : nrL r l = l := by unfold nrL; rw [hv]; rfl
    have e3 : nrR r' l' = ⟨0, 0, 0, 0⟩ := by unfold nrR; rw [hv']; rfl
    have e4 : nrL r' l' = [] := by unfold nrL; rw [hv']; rfl
    have HD := Hd.out
    unfold diffR at HD
    rw [e1, e2, e3, e4, box_append] at HD
    obtain ⟨d1, Hd1⟩ : ∃ b, Hid (boxL (dfP r l (⟨0, 0, 0, 0⟩ : Rc) []) ⟨0, 0, 0, 0⟩ (ptsR r) = b) := ⟨_, rfl⟩
    have HD1 : boxL (dfP r l (⟨0, 0, 0, 0⟩ : Rc) []) zR (ptsR r) = d1 := Hd1.out
    rw [HD1] at HD
    have HD2 := Lib.hid HD
    clear HD HD1 e1 e2 e3 e4 hv hv' hn hn' hr hr'
    go_enter Try.func36, Try.ntmps36
    go_wp2_with fail
    go_loopw [11] (fun i wr => ∃ k : Nat, i = .int .i64 k ∧ Bk wr (w.heap.size + 1 + 1 + 1) 93 #[.pointer (some ⟨w.heap.size, 0, none⟩), .pointer (some ⟨w.heap.size + 1, 0, none⟩)] ∧ Bk wr (w.heap.size + 1 + 1) 23 #[.int .i64 0, .int .i64 0, .int .i64 0, .int .i64 0] ∧ Below w.heap.size w wr ∧ ((k = 0 ∧ Bk wr (w.heap.size) 28 #[.int .i64 r.x0, .int .i64 r.y0, .int .i64 r.x1, .int .i64 r.y1, .slice A n c] ∧ Bk wr (w.heap.size + 1) 28 #[.int .i64 r'.x0, .int .i64 r'.y0, .int .i64 r'.x1, .int .i64 r'.y1, .slice A' n' c']) ∨ (k = 1 ∧ Bk wr (w.heap.size) 28 #[.int .i64 r.x0, .int .i64 r.y0, .int .i64 r.x1, .int .i64 r.y1, .slice A n c] ∧ Bk wr (w.heap.size + 1) 28 #[.int .i64 r'.x0, .int .i64 r'.y0, .int .i64 r'.x1, .int .i64 r'.y1, .slice A' n' c']) ∨ (k = 2 ∧ Bk wr (w.heap.size) 28 #[.int .i64 r.x0, .int .i64 r.y0, .int .i64 r.x1, .int .i64 r.y1, .slice A n c] ∧ Bk wr (w.heap.size + 1) 28 #[.int .i64 0, .int .i64 0, .int .i64 0, .int .i64 0, .slice none 0 0]))) (fun i _ => 2 - (intOf i).toNat)
    case atStart => exact ⟨0, rfl, (by repeat (first | (with_reducible assumption) | ((with_reducible refine Bk.new _ _ _ ?_); first | (with_reducible rfl) | (simp; done)) | (with_reducible refine Bk.alloc ?_ _) | (with_reducible refine Bk.drew ?_) | (with_reducible refine Bk.drewN ?_ _) | ((with_reducible refine Bk.far ?_ ?_ _); rotate_left; focus (first | (simp; done) | (simp; omega))) | (with_reducible refine Bk.below ?_ (by with_reducible assumption)))), (by repeat (first | (with_reducible assumption) | ((with_reducible refine Bk.new _ _ _ ?_); first | (with_reducible rfl) | (simp; done)) | (with_reducible refine Bk.alloc ?_ _) | (with_reducible refine Bk.drew ?_) | (with_reducible refine Bk.drewN ?_ _) | ((with_reducible refine Bk.far ?_ ?_ _); rotate_left; focus (first | (simp; done) | (simp; omega))) | (with_reducible refine Bk.below ?_ (by with_reducible assumption)))), (by repeat (first | (with_reducible exact Below.refl _ _) | (with_reducible refine balloc ?_ _) | (with_reducible refine Below.drew ?_) | (with_reducible refine bdrewN ?_ _) | ((with_reducible refine bset ?_ ?_ _); rotate_left; focus (first | (with_reducible exact Nat.le_refl _) | (simp; done) | (simp; omega) | omega)) | (with_reducible refine bstep (by with_reducible assumption) ?_))), .inl ⟨rfl, (by repeat (first | (with_reducible assumption) | ((with_reducible refine Bk.new _ _ _ ?_); first | (with_reducible rfl) | (simp; done)) | (with_reducible refine Bk.alloc ?_ _) | (with_reducible refine Bk.drew ?_) | (with_reducible refine Bk.drewN ?_ _) | ((with_reducible refine Bk.far ?_ ?_ _); rotate_left; focus (first | (simp; done) | (simp; omega))) | (with_reducible refine Bk.below ?_ (by with_reducible assumption)))), (by repeat (first | (with_reducible assumption) | ((with_reducible refine Bk.new _ _ _ ?_); first | (with_reducible rfl) | (simp; done)) | (with_reducible refine Bk.alloc ?_ _) | (with_reducible refine Bk.drew ?_) | (with_reducible refine Bk.drewN ?_ _) | ((with_reducible refine Bk.far ?_ ?_ _); rotate_left; focus (first | (simp; done) | (simp; omega))) | (with_reducible refine Bk.below ?_ (by with_reducible assumption))))⟩⟩
    case round =>
      obtain ⟨k, rfl, jS, jO, hbw, hk⟩ := hrel
      obtain ⟨kcS, kfS, kaS, kgS, klS⟩ := jS.rules
      rcases hk with ⟨rfl, jC, jD⟩ | ⟨rfl, jC, jD⟩ | ⟨rfl, jC, jD⟩
      · obtain ⟨kc, kf, ka, kg, kl⟩ := jC.rules
        go_wp2_with fail
        refine (bvalid_any r A n c l _ (HR.out.below (by repeat (first | (with_reducible exact Below.refl _ _) | (with_reducible refine balloc ?_ _) | (with_reducible refine Below.drew ?_) | (with_reducible refine bdrewN ?_ _) | ((with_reducible refine bset ?_ ?_ _); rotate_left; focus (first | (with_reducible exact Nat.le_refl _) | (simp; done) | (simp; omega) | omega)) | (with_reducible refine bstep (by with_reducible assumption) ?_)))) Hn.out hn2 true Hv).mono ?_
        rintro e w1 ⟨rfl, hb1⟩
        clear kc kf ka kg kcS kfS kaS kgS
        have iS := jS.below hb1
        have iO := jO.below hb1
        have iC := jC.below hb1
        have iD := jD.below hb1
        have hB1 : Below w.heap.size w w1 := (by repeat (first | (with_reducible exact Below.refl _ _) | (with_reducible refine balloc ?_ _) | (with_reducible refine Below.drew ?_) | (with_reducible refine bdrewN ?_ _) | ((with_reducible refine bset ?_ ?_ _); rotate_left; focus (first | (with_reducible exact Nat.le_refl _) | (simp; done) | (simp; omega) | omega)) | (with_reducible refine bstep (by with_reducible assumption) ?_)))
        go_wp2
        go_roundw
        case rel => exact ⟨1, rfl, iS, iO, hB1, .inr (.inl ⟨rfl, iC, iD⟩)⟩
        case measure => simp [intOf]
      · obtain ⟨kc, kf, ka, kg, kl⟩ := jD.rules
        go_wp2_with fail
        refine (bvalid_any r' A' n' c' l' _ (HR'.out.below (by repeat (first | (with_reducible exact Below.refl _ _) | (with_reducible refine balloc ?_ _) | (with_reducible refine Below.drew ?_) | (with_reducible refine bdrewN ?_ _) | ((with_reducible refine bset ?_ ?_ _); rotate_left; focus (first | (with_reducible exact Nat.le_refl _) | (simp; done) | (simp; omega) | omega)) | (with_reducible refine bstep (by with_reducible assumption) ?_)))) Hn'.out hn2' false Hv').mono ?_
        rintro e w1 ⟨rfl, hb1⟩
        clear kc kf ka kg kcS kfS kaS kgS
        have iS := jS.below hb1
        have iO := jO.below hb1
        have iC := jC.below hb1
        have iD := jD.below hb1
        have hB1 : Below w.heap.size w w1 := (by repeat (first | (with_reducible exact Below.refl _ _) | (with_reducible refine balloc ?_ _) | (with_reducible refine Below.drew ?_) | (with_reducible refine bdrewN ?_ _) | ((with_reducible refine bset ?_ ?_ _); rotate_left; focus (first | (with_reducible exact Nat.le_refl _) | (simp; done) | (simp; omega) | omega)) | (with_reducible refine bstep (by with_reducible assumption) ?_)))
        obtain ⟨kc, kf, ka, kg, kl⟩ := iD.rules
        have mS : Bk _ (w.heap.size + 1 + 1 + 1) 93 #[.pointer (some ⟨w.heap.size, 0, none⟩), .pointer (some ⟨w.heap.size + 1, 0, none⟩)] := (((((iS.far (p := ⟨(w.heap.size + 1), 0, none⟩) (by simp <;> omega) (.int .i64 0)).far (p := ⟨(w.heap.size + 1), 1, none⟩) (by simp <;> omega) (.int .i64 0)).far (p := ⟨(w.heap.size + 1), 2, none⟩) (by simp <;> omega) (.int .i64 0)).far (p := ⟨(w.heap.size + 1), 3, none⟩) (by simp <;> omega) (.int .i64 0)).far (p := ⟨(w.heap.size + 1), 4, none⟩) (by simp <;> omega) (.slice none 0 0))
        have mO : Bk _ (w.heap.size + 1 + 1) 23 #[.int .i64 0, .int .i64 0, .int .i64 0, .int .i64 0] := (((((iO.far (p := ⟨(w.heap.size + 1), 0, none⟩) (by simp <;> omega) (.int .i64 0)).far (p := ⟨(w.heap.size + 1), 1, none⟩) (by simp <;> omega) (.int .i64 0)).far (p := ⟨(w.heap.size + 1), 2, none⟩) (by simp <;> omega) (.int .i64 0)).far (p := ⟨(w.heap.size + 1), 3, none⟩) (by simp <;> omega) (.int .i64 0)).far (p := ⟨(w.heap.size + 1), 4, none⟩) (by simp <;> omega) (.slice none 0 0))
        have mC : Bk _ (w.heap.size) 28 #[.int .i64 r.x0, .int .i64 r.y0, .int .i64 r.x1, .int .i64 r.y1, .slice A n c] := (((((iC.far (p := ⟨(w.heap.size + 1), 0, none⟩) (by simp <;> omega) (.int .i64 0)).far (p := ⟨(w.heap.size + 1), 1, none⟩) (by simp <;> omega) (.int .i64 0)).far (p := ⟨(w.heap.size + 1), 2, none⟩) (by simp <;> omega) (.int .i64 0)).far (p := ⟨(w.heap.size + 1), 3, none⟩) (by simp <;> omega) (.int .i64 0)).far (p := ⟨(w.heap.size + 1), 4, none⟩) (by simp <;> omega) (.slice none 0 0))
        have mD : Bk _ (w.heap.size + 1) 28 #[.int .i64 0, .int .i64 0, .int .i64 0, .int .i64 0, .slice none 0 0] := (((((iD.set 0 (.int .i64 0)).set 1 (.int .i64 0)).set 2 (.int .i64 0)).set 3 (.int .i64 0)).set 4 (.slice none 0 0))
        have hB2 := (bset (bset (bset (bset (bset hB1 (p := ⟨w.heap.size + 1, 0, none⟩) (by show _ ≤ w.heap.size + 1; omega) (.int .i64 0)) (p := ⟨w.heap.size + 1, 1, none⟩) (by show _ ≤ w.heap.size + 1; omega) (.int .i64 0)) (p := ⟨w.heap.size + 1, 2, none⟩) (by show _ ≤ w.heap.size + 1; omega) (.int .i64 0)) (p := ⟨w.heap.size + 1, 3, none⟩) (by show _ ≤ w.heap.size + 1; omega) (.int .i64 0)) (p := ⟨w.heap.size + 1, 4, none⟩) (by show _ ≤ w.heap.size + 1; omega) (.slice none 0 0))
        go_wp2
        go_roundw
        case rel => exact ⟨2, rfl, mS, mO, hB2, .inr (.inr ⟨rfl, mC, mD⟩)⟩
        case measure => simp [intOf]
      · obtain ⟨kcC, kfC, kaC, kgC, klC⟩ := jC.rules
        obtain ⟨kcD, kfD, kaD, kgD, klD⟩ := jD.rules
        have klO := jO.lt
        go_wp2_with fail
        refine (note_any (w.heap.size) (w.heap.size + 1) wr.heap.size r r (⟨0, 0, 0, 0⟩ : Rc) A none n 0 c 0 l [] ⟨0, 0, 0, 0⟩ w _ (by repeat (first | (with_reducible exact Below.refl _ _) | (with_reducible refine balloc ?_ _) | (with_reducible refine Below.drew ?_) | (with_reducible refine bdrewN ?_ _) | ((with_reducible refine bset ?_ ?_ _); rotate_left; focus (first | (with_reducible exact Nat.le_refl _) | (simp; done) | (simp; omega) | omega)) | (with_reducible refine bstep (by with_reducible assumption) ?_))) HC.out (HR.out) RdL.nil Hn.out rfl hn2 (by omega) HA.out rfl (jC.alloc _) (jD.alloc _) (Bk.new _ _ _ rfl) (Nat.le_refl _) (by omega) (by omega) (by omega) (by omega) d1 Hd1).mono ?_
        rintro e w2 ⟨rfl, i0, i1, i2, hb2, hg2⟩
        clear kcC kfC kaC kgC kcD kfD kaD kgD kcS kfS kaS kgS
        obtain ⟨kcC, kfC, kaC, kgC, klC'⟩ := i0.rules
        obtain ⟨kcD, kfD, kaD, kgD, klD'⟩ := i1.rules
        have FO : Bk w2 (w.heap.size + 1 + 1) 23 #[.int .i64 0, .int .i64 0, .int .i64 0, .int .i64 0] := (jO.alloc _).grown hg2 (by simp; omega)
        go_wp2_with fail
        refine (note_any (w.heap.size) (w.heap.size + 1) wr.heap.size (⟨0, 0, 0, 0⟩ : Rc) r (⟨0, 0, 0, 0⟩ : Rc) A none n 0 c 0 l [] d1 w _ hb2 rfl (HR.out) RdL.nil Hn.out rfl hn2 (by omega) HA.out rfl i0 i1 i2 (Nat.le_refl _) (by omega) (by omega) (by omega) (by omega) d HD2).mono ?_
        rintro e w3 ⟨rfl, o0, o1, o2, hb3, hg3⟩
        have FO3 := FO.grown hg3 (by simp; omega)
        obtain ⟨kcF, kfF, kaF, kgF, klF⟩ := FO3.rules
        clear kcC kfC kaC kgC kcD kfD kaD kgD
        obtain ⟨kcE, kfE, kaE, kgE, klE⟩ := o2.rules
        go_wp2
        refine bodyPost_ret (v := _) ?_ rfl ⟨rfl, (by repeat (first | (with_reducible exact Below.refl _ _) | (with_reducible refine balloc ?_ _) | (with_reducible refine Below.drew ?_) | (with_reducible refine bdrewN ?_ _) | ((with_reducible refine bset ?_ ?_ _); rotate_left; focus (first | (with_reducible exact Nat.le_refl _) | (simp; done) | (simp; omega) | omega)) | (with_reducible refine bstep (by with_reducible assumption) ?_)))⟩
        simp [results, Try.results36, go_sem, kcF]
  · have Hv : Hid (bmValid r l = true) := hv
    have HC : Hid (canonR r = r) := (valid_cn hv).1
    have HA : Hid ((n : Int) = areaR r) := by unfold Hid; rw [← hn]; exact (valid_cn hv).2.1
    have Hv' : Hid (bmValid r' l' = true) := hv'
    have HC' : Hid (canonR r' = r') := (valid_cn hv').1
    have HA' : Hid ((n' : Int) = areaR r') := by unfold Hid; rw [← hn']; exact (valid_cn hv').2.1
    have e1 : nrR r l = r := by unfold nrR; rw [hv]; rfl
    have e2 : nrL r l = l := by unfold nrL; rw [hv]; rfl
    have e3 : nrR r' l' = r' := by unfold nrR; rw [hv']; rfl
    have e4 : nrL r' l' = l' := by unfold nrL; rw [hv']; rfl
    have HD := Hd.out
    unfold diffR at HD
    rw [e1, e2, e3, e4, box_append] at HD
    obtain ⟨d1, Hd1⟩ : ∃ b, Hid (boxL (dfP r l r' l') ⟨0, 0, 0, 0⟩ (ptsR r) = b) := ⟨_, rfl⟩
    have HD1 : boxL (dfP r l r' l') zR (ptsR r) = d1 := Hd1.out
    rw [HD1] at HD
    have HD2 := Lib.hid HD
    clear HD HD1 e1 e2 e3 e4 hv hv' hn hn' hr hr'
    go_enter Try.func36, Try.ntmps36
    go_wp2_with fail
    go_loopw [11] (fun i wr => ∃ k : Nat, i = .int .i64 k ∧ Bk wr (w.heap.size + 1 + 1 + 1) 93 #[.pointer (some ⟨w.heap.size, 0, none⟩), .pointer (some ⟨w.heap.size + 1, 0, none⟩)] ∧ Bk wr (w.heap.size + 1 + 1) 23 #[.int .i64 0, .int .i64 0, .int .i64 0, .int .i64 0] ∧ Below w.heap.size w wr ∧ ((k = 0 ∧ Bk wr (w.heap.size) 28 #[.int .i64 r.x0, .int .i64 r.y0, .int .i64 r.x1, .int .i64 r.y1, .slice A n c] ∧ Bk wr (w.heap.size + 1) 28 #[.int .i64 r'.x0, .int .i64 r'.y0, .int .i64 r'.x1, .int .i64 r'.y1, .slice A' n' c']) ∨ (k = 1 ∧ Bk wr (w.heap.size) 28 #[.int .i64 r.x0, .int .i64 r.y0, .int .i64 r.x1, .int .i64 r.y1, .slice A n c] ∧ Bk wr (w.heap.size + 1) 28 #[.int .i64 r'.x0, .int .i64 r'.y0, .int .i64 r'.x1, .int .i64 r'.y1, .slice A' n' c']) ∨ (k = 2 ∧ Bk wr (w.heap.size) 28 #[.int .i64 r.x0, .int .i64 r.y0, .int .i64 r.x1, .int .i64 r.y1, .slice A n c] ∧ Bk wr (w.heap.size + 1) 28 #[.int .i64 r'.x0, .int .i64 r'.y0, .int .i64 r'.x1, .int .i64 r'.y1, .slice A' n' c']))) (fun i _ => 2 - (intOf i).toNat)
    case atStart => exact ⟨0, rfl, (by repeat (first | (with_reducible assumption) | ((with_reducible refine Bk.new _ _ _ ?_); first | (with_reducible rfl) | (simp; done)) | (with_reducible refine Bk.alloc ?_ _) | (with_reducible refine Bk.drew ?_) | (with_reducible refine Bk.drewN ?_ _) | ((with_reducible refine Bk.far ?_ ?_ _); rotate_left; focus (first | (simp; done) | (simp; omega))) | (with_reducible refine Bk.below ?_ (by with_reducible assumption)))), (by repeat (first | (with_reducible assumption) | ((with_reducible refine Bk.new _ _ _ ?_); first | (with_reducible rfl) | (simp; done)) | (with_reducible refine Bk.alloc ?_ _) | (with_reducible refine Bk.drew ?_) | (with_reducible refine Bk.drewN ?_ _) | ((with_reducible refine Bk.far ?_ ?_ _); rotate_left; focus (first | (simp; done) | (simp; omega))) | (with_reducible refine Bk.below ?_ (by with_reducible assumption)))), (by repeat (first | (with_reducible exact Below.refl _ _) | (with_reducible refine balloc ?_ _) | (with_reducible refine Below.drew ?_) | (with_reducible refine bdrewN ?_ _) | ((with_reducible refine bset ?_ ?_ _); rotate_left; focus (first | (with_reducible exact Nat.le_refl _) | (simp; done) | (simp; omega) | omega)) | (with_reducible refine bstep (by with_reducible assumption) ?_))), .inl ⟨rfl, (by repeat (first | (with_reducible assumption) | ((with_reducible refine Bk.new _ _ _ ?_); first | (with_reducible rfl) | (simp; done)) | (with_reducible refine Bk.alloc ?_ _) | (with_reducible refine Bk.drew ?_) | (with_reducible refine Bk.drewN ?_ _) | ((with_reducible refine Bk.far ?_ ?_ _); rotate_left; focus (first | (simp; done) | (simp; omega))) | (with_reducible refine Bk.below ?_ (by with_reducible assumption)))), (by repeat (first | (with_reducible assumption) | ((with_reducible refine Bk.new _ _ _ ?_); first | (with_reducible rfl) | (simp; done)) | (with_reducible refine Bk.alloc ?_ _) | (with_reducible refine Bk.drew ?_) | (with_reducible refine Bk.drewN ?_ _) | ((with_reducible refine Bk.far ?_ ?_ _); rotate_left; focus (first | (simp; done) | (simp; omega))) | (with_reducible refine Bk.below ?_ (by with_reducible assumption))))⟩⟩
    case round =>
      obtain ⟨k, rfl, jS, jO, hbw, hk⟩ := hrel
      obtain ⟨kcS, kfS, kaS, kgS, klS⟩ := jS.rules
      rcases hk with ⟨rfl, jC, jD⟩ | ⟨rfl, jC, jD⟩ | ⟨rfl, jC, jD⟩
      · obtain ⟨kc, kf, ka, kg, kl⟩ := jC.rules
        go_wp2_with fail
        refine (bvalid_any r A n c l _ (HR.out.below (by repeat (first | (with_reducible exact Below.refl _ _) | (with_reducible refine balloc ?_ _) | (with_reducible refine Below.drew ?_) | (with_reducible refine bdrewN ?_ _) | ((with_reducible refine bset ?_ ?_ _); rotate_left; focus (first | (with_reducible exact Nat.le_refl _) | (simp; done) | (simp; omega) | omega)) | (with_reducible refine bstep (by with_reducible assumption) ?_)))) Hn.out hn2 true Hv).mono ?_
        rintro e w1 ⟨rfl, hb1⟩
        clear kc kf ka kg kcS kfS kaS kgS
        have iS := jS.below hb1
        have iO := jO.below hb1
        have iC := jC.below hb1
        have iD := jD.below hb1
        have hB1 : Below w.heap.size w w1 := (by repeat (first | (with_reducible exact Below.refl _ _) | (with_reducible refine balloc ?_ _) | (with_reducible refine Below.drew ?_) | (with_reducible refine bdrewN ?_ _) | ((with_reducible refine bset ?_ ?_ _); rotate_left; focus (first | (with_reducible exact Nat.le_refl _) | (simp; done) | (simp; omega) | omega)) | (with_reducible refine bstep (by with_reducible assumption) ?_)))
        go_wp2
        go_roundw
        case rel => exact ⟨1, rfl, iS, iO, hB1, .inr (.inl ⟨rfl, iC, iD⟩)⟩
        case measure => simp [intOf]
      · obtain ⟨kc, kf, ka, kg, kl⟩ := jD.rules
        go_wp2_with fail
        refine (bvalid_any r' A' n' c' l' _ (HR'.out.below (by repeat (first | (with_reducible exact Below.refl _ _) | (with_reducible refine balloc ?_ _) | (with_reducible refine Below.drew ?_) | (with_reducible refine bdrewN ?_ _) | ((with_reducible refine bset ?_ ?_ _); rotate_left; focus (first | (with_reducible exact Nat.le_refl _) | (simp; done) | (simp; omega) | omega)) | (with_reducible refine bstep (by with_reducible assumption) ?_)))) Hn'.out hn2' true Hv').mono ?_
        rintro e w1 ⟨rfl, hb1⟩
        clear kc kf ka kg kcS kfS kaS kgS
        have iS := jS.below hb1
        have iO := jO.below hb1
        have iC := jC.below hb1
        have iD := jD.below hb1
        have hB1 : Below w.heap.size w w1 := (by repeat (first | (with_reducible exact Below.refl _ _) | (with_reducible refine balloc ?_ _) | (with_reducible refine Below.drew ?_) | (with_reducible refine bdrewN ?_ _) | ((with_reducible refine bset ?_ ?_ _); rotate_left; focus (first | (with_reducible exact Nat.le_refl _) | (simp; done) | (simp; omega) | omega)) | (with_reducible refine bstep (by with_reducible assumption) ?_)))
        go_wp2
        go_roundw
        case rel => exact ⟨2, rfl, iS, iO, hB1, .inr (.inr ⟨rfl, iC, iD⟩)⟩
        case measure => simp [intOf]
      · obtain ⟨kcC, kfC, kaC, kgC, klC⟩ := jC.rules
        obtain ⟨kcD, kfD, kaD, kgD, klD⟩ := jD.rules
        have klO := jO.lt
        go_wp2_with fail
        refine (note_any (w.heap.size) (w.heap.size + 1) wr.heap.size r r r' A A' n n' c c' l l' ⟨0, 0, 0, 0⟩ w _ (by repeat (first | (with_reducible exact Below.refl _ _) | (with_reducible refine balloc ?_ _) | (with_reducible refine Below.drew ?_) | (with_reducible refine bdrewN ?_ _) | ((with_reducible refine bset ?_ ?_ _); rotate_left; focus (first | (with_reducible exact Nat.le_refl _) | (simp; done) | (simp; omega) | omega)) | (with_reducible refine bstep (by with_reducible assumption) ?_))) HC.out (HR.out) (HR'.out) Hn.out Hn'.out hn2 hn2' HA.out HA'.out (jC.alloc _) (jD.alloc _) (Bk.new _ _ _ rfl) (Nat.le_refl _) (by omega) (by omega) (by omega) (by omega) d1 Hd1).mono ?_
        rintro e w2 ⟨rfl, i0, i1, i2, hb2, hg2⟩
        clear kcC kfC kaC kgC kcD kfD kaD kgD kcS kfS kaS kgS
        obtain ⟨kcC, kfC, kaC, kgC, klC'⟩ := i0.rules
        obtain ⟨kcD, kfD, kaD, kgD, klD'⟩ := i1.rules
        have FO : Bk w2 (w.heap.size + 1 + 1) 23 #[.int .i64 0, .int .i64 0, .int .i64 0, .int .i64 0] := (jO.alloc _).grown hg2 (by simp; omega)
        go_wp2_with fail
        refine (note_any (w.heap.size) (w.heap.size + 1) wr.heap.size r' r r' A A' n n' c c' l l' d1 w _ hb2 HC'.out (HR.out) (HR'.out) Hn.out Hn'.out hn2 hn2' HA.out HA'.out i0 i1 i2 (Nat.le_refl _) (by omega) (by omega) (by omega) (by omega) d HD2).mono ?_
        rintro e w3 ⟨rfl, o0, o1, o2, hb3, hg3⟩
        have FO3 := FO.grown hg3 (by simp; omega)
        obtain ⟨kcF, kfF, kaF, kgF, klF⟩ := FO3.rules
        clear kcC kfC kaC kgC kcD kfD kaD kgD
        obtain ⟨kcE, kfE, kaE, kgE, klE⟩ := o2.rules
        go_wp2
        refine bodyPost_ret (v := _) ?_ rfl ⟨rfl, (by repeat (first | (with_reducible exact Below.refl _ _) | (with_reducible refine balloc ?_ _) | (with_reducible refine Below.drew ?_) | (with_reducible refine bdrewN ?_ _) | ((with_reducible refine bset ?_ ?_ _); rotate_left; focus (first | (with_reducible exact Nat.le_refl _) | (simp; done) | (simp; omega) | omega)) | (with_reducible refine bstep (by with_reducible assumption) ?_)))⟩
        simp [results, Try.results36, go_sem, kcF]
end Go.Proofs.Ytnefnnhnjmmebaa
