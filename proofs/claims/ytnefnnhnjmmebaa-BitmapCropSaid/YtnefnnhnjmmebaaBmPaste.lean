/-
  The walk of bitmap.Paste.
-/
import Derived.Test.YtnefnnhnjmmebaaPasteP
import Derived.Test.YtnefnnhnjmmebaaBm3
import Derived.Test.YtnefnnhnjmmebaaPlC
namespace Go.Proofs.Ytnefnnhnjmmebaa
open Go.RowKit
set_option linter.unusedSimpArgs false
set_option linter.unusedVariables false


set_option maxRecDepth 100000 in
set_option maxHeartbeats 12800000 in
theorem bpaste_any (s : Bm) (A : Option Addr) (n c : Nat) (l : List Bm) (w : World) (hs : s.ok w) (hsn : s.n ≤ 4000000000) (hr : RdL encBm 5 w A l) (hn : l.length = n) (hn2 : n ≤ 4000000000) (ho : ∀ b ∈ l, b.ok w) (hsz : ∀ b ∈ l, b.n ≤ 4000000000) :
    Calls Try.prog 31 #[.agg #[.int .i64 s.r.x0, .int .i64 s.r.y0, .int .i64 s.r.x1, .int .i64 s.r.y1, .slice s.A s.n s.c], .slice A n c] w (RetBE (pasR s l) (pasL s l) (pasE s l) w) := by
  have HS := Lib.hid hs
  have HR := Lib.hid hr
  have Hn := Lib.hid hn
  have HO := Lib.hid ho
  have HSZ := Lib.hid hsz
  clear hs hr hn ho hsz
  cases hp : pasB s l with
  | false =>
    have e1 : pasR s l = ⟨0, 0, 0, 0⟩ := by unfold pasR; rw [hp]; rfl
    have e2 : pasL s l = [] := by unfold pasL; rw [hp]; rfl
    have e3 : pasE s l = 15 := by unfold pasE; rw [hp]; rfl
    rw [e1, e2, e3]
    clear e1 e2 e3
    cases hv1 : vBm s with
    | false =>
      have Hv1 : Hid ([s].all vBm = false) := by unfold Hid; simp [hv1]
      clear hp hv1
      go_enter Try.func31, Try.ntmps31
      go_wp2_with fail
      refine (ball_any _ 1 1 [s] _ (rd_of_bk (e := 28) encBm_len (Bk.new _ _ _ (by first | rfl | simp)) rfl) rfl (by omega) (fun x hx => by rw [List.mem_singleton.1 hx]; exact HS.out.below (by repeat (first | (with_reducible exact Below.refl _ _) | (with_reducible refine balloc ?_ _) | (with_reducible refine Below.drew ?_) | (with_reducible refine bdrewN ?_ _) | ((with_reducible refine bset ?_ ?_ _); rotate_left; focus (first | (with_reducible exact Nat.le_refl _) | (simp; done) | (simp; omega) | omega)) | (with_reducible refine bstep (by with_reducible assumption) ?_)))) (fun x hx => by rw [List.mem_singleton.1 hx]; exact hsn) false Hv1).mono ?_
      rintro e w1 ⟨rfl, hb1⟩
      have kO1 : Bk w1 (w.heap.size + 1) 28 #[.int .i64 0, .int .i64 0, .int .i64 0, .int .i64 0, .slice none 0 0] := (by repeat (first | (with_reducible assumption) | ((with_reducible refine Bk.new _ _ _ ?_); first | (with_reducible rfl) | (simp; done)) | (with_reducible refine Bk.alloc ?_ _) | (with_reducible refine Bk.drew ?_) | (with_reducible refine Bk.drewN ?_ _) | ((with_reducible refine Bk.far ?_ ?_ _); rotate_left; focus (first | (simp; done) | (simp; omega))) | (with_reducible refine Bk.below ?_ (by with_reducible assumption)))); obtain ⟨kcO1, kfO1, kaO1, kgO1, klO1⟩ := kO1.rules
      go_wp2
      refine bodyPost_ret (v := _) ?_ rfl (RetBE.no 15 (by repeat (first | (with_reducible exact Below.refl _ _) | (with_reducible refine balloc ?_ _) | (with_reducible refine Below.drew ?_) | (with_reducible refine bdrewN ?_ _) | ((with_reducible refine bset ?_ ?_ _); rotate_left; focus (first | (with_reducible exact Nat.le_refl _) | (simp; done) | (simp; omega) | omega)) | (with_reducible refine bstep (by with_reducible assumption) ?_))))
      simp [results, Try.results31, go_sem, kcO1]
    | true =>
      have Hvl : Hid (l.all vBm = false) := by
        unfold Hid
        cases h : l.all vBm with
        | false => rfl
        | true => unfold pasB at hp; rw [hv1, h] at hp; cases hp
      have Hv1 : Hid ([s].all vBm = true) := by unfold Hid; simp [hv1]
      clear hp hv1
      go_enter Try.func31, Try.ntmps31
      go_wp2_with fail
      refine (ball_any _ 1 1 [s] _ (rd_of_bk (e := 28) encBm_len (Bk.new _ _ _ (by first | rfl | simp)) rfl) rfl (by omega) (fun x hx => by rw [List.mem_singleton.1 hx]; exact HS.out.below (by repeat (first | (with_reducible exact Below.refl _ _) | (with_reducible refine balloc ?_ _) | (with_reducible refine Below.drew ?_) | (with_reducible refine bdrewN ?_ _) | ((with_reducible refine bset ?_ ?_ _); rotate_left; focus (first | (with_reducible exact Nat.le_refl _) | (simp; done) | (simp; omega) | omega)) | (with_reducible refine bstep (by with_reducible assumption) ?_)))) (fun x hx => by rw [List.mem_singleton.1 hx]; exact hsn) true Hv1).mono ?_
      rintro e w1 ⟨rfl, hb1⟩
      have kO1 : Bk w1 (w.heap.size + 1) 28 #[.int .i64 0, .int .i64 0, .int .i64 0, .int .i64 0, .slice none 0 0] := (by repeat (first | (with_reducible assumption) | ((with_reducible refine Bk.new _ _ _ ?_); first | (with_reducible rfl) | (simp; done)) | (with_reducible refine Bk.alloc ?_ _) | (with_reducible refine Bk.drew ?_) | (with_reducible refine Bk.drewN ?_ _) | ((with_reducible refine Bk.far ?_ ?_ _); rotate_left; focus (first | (simp; done) | (simp; omega))) | (with_reducible refine Bk.below ?_ (by with_reducible assumption)))); obtain ⟨kcO1, kfO1, kaO1, kgO1, klO1⟩ := kO1.rules
      go_wp2_with fail
      refine (ball_any A n c l _ (HR.out.below (by repeat (first | (with_reducible exact Below.refl _ _) | (with_reducible refine balloc ?_ _) | (with_reducible refine Below.drew ?_) | (with_reducible refine bdrewN ?_ _) | ((with_reducible refine bset ?_ ?_ _); rotate_left; focus (first | (with_reducible exact Nat.le_refl _) | (simp; done) | (simp; omega) | omega)) | (with_reducible refine bstep (by with_reducible assumption) ?_)))) Hn.out hn2 (fun x hx => (HO.out x hx).below (by repeat (first | (with_reducible exact Below.refl _ _) | (with_reducible refine balloc ?_ _) | (with_reducible refine Below.drew ?_) | (with_reducible refine bdrewN ?_ _) | ((with_reducible refine bset ?_ ?_ _); rotate_left; focus (first | (with_reducible exact Nat.le_refl _) | (simp; done) | (simp; omega) | omega)) | (with_reducible refine bstep (by with_reducible assumption) ?_)))) HSZ.out false Hvl).mono ?_
      rintro e w2 ⟨rfl, hb2⟩
      clear kcO1 kfO1 kaO1 kgO1
      have kO2 : Bk w2 (w.heap.size + 1) 28 #[.int .i64 0, .int .i64 0, .int .i64 0, .int .i64 0, .slice none 0 0] := (by repeat (first | (with_reducible assumption) | ((with_reducible refine Bk.new _ _ _ ?_); first | (with_reducible rfl) | (simp; done)) | (with_reducible refine Bk.alloc ?_ _) | (with_reducible refine Bk.drew ?_) | (with_reducible refine Bk.drewN ?_ _) | ((with_reducible refine Bk.far ?_ ?_ _); rotate_left; focus (first | (simp; done) | (simp; omega))) | (with_reducible refine Bk.below ?_ (by with_reducible assumption)))); obtain ⟨kcO2, kfO2, kaO2, kgO2, klO2⟩ := kO2.rules
      go_wp2
      refine bodyPost_ret (v := _) ?_ rfl (RetBE.no 15 (by repeat (first | (with_reducible exact Below.refl _ _) | (with_reducible refine balloc ?_ _) | (with_reducible refine Below.drew ?_) | (with_reducible refine bdrewN ?_ _) | ((with_reducible refine bset ?_ ?_ _); rotate_left; focus (first | (with_reducible exact Nat.le_refl _) | (simp; done) | (simp; omega) | omega)) | (with_reducible refine bstep (by with_reducible assumption) ?_))))
      simp [results, Try.results31, go_sem, kcO2]
  | true =>
    have e1 : pasR s l = s.r := by unfold pasR; rw [hp]; rfl
    obtain ⟨g0, Hg0⟩ : ∃ g, Hid (atL zP s.r s.l = g) := ⟨_, rfl⟩
    have e2 : pasL s l = pixL (pstG l g0) s.r := by unfold pasL; rw [hp, Hg0.out]; rfl
    have e3 : pasE s l = 0 := by unfold pasE; rw [hp]; rfl
    rw [e1, e2, e3]
    have hv1 : vBm s = true := by unfold pasB at hp; simp at hp; exact hp.1
    have Hvl : Hid (l.all vBm = true) := by unfold Hid; unfold pasB at hp; simp at hp; simpa using hp.2
    have Hv1 : Hid ([s].all vBm = true) := by unfold Hid; simp [hv1]
    obtain ⟨hsc, hsl, _, _⟩ := valid_cn hv1
    have HSC := Lib.hid hsc
    have hz : s.A = none → s.n = 0 := fun h => by
      cases hl : s.l with
      | nil => have := HS.out.ln; rw [hl] at this; exact this.symm
      | cons y t => obtain ⟨g, o, hA, _⟩ := HS.out.rd (by rw [hl]; simp); rw [h] at hA; cases hA
    clear e1 e2 e3 hp hv1 hsc
    go_enter Try.func31, Try.ntmps31
    go_wp2_with fail
    refine (ball_any _ 1 1 [s] _ (rd_of_bk (e := 28) encBm_len (Bk.new _ _ _ (by first | rfl | simp)) rfl) rfl (by omega) (fun x hx => by rw [List.mem_singleton.1 hx]; exact HS.out.below (by repeat (first | (with_reducible exact Below.refl _ _) | (with_reducible refine balloc ?_ _) | (with_reducible refine Below.drew ?_) | (with_reducible refine bdrewN ?_ _) | ((with_reducible refine bset ?_ ?_ _); rotate_left; focus (first | (with_reducible exact Nat.le_refl _) | (simp; done) | (simp; omega) | omega)) | (with_reducible refine bstep (by with_reducible assumption) ?_)))) (fun x hx => by rw [List.mem_singleton.1 hx]; exact hsn) true Hv1).mono ?_
    rintro e w1 ⟨rfl, hb1⟩
    have kC1 : Bk w1 (w.heap.size) 28 #[.int .i64 s.r.x0, .int .i64 s.r.y0, .int .i64 s.r.x1, .int .i64 s.r.y1, .slice s.A s.n s.c] := (by repeat (first | (with_reducible assumption) | ((with_reducible refine Bk.new _ _ _ ?_); first | (with_reducible rfl) | (simp; done)) | (with_reducible refine Bk.alloc ?_ _) | (with_reducible refine Bk.drew ?_) | (with_reducible refine Bk.drewN ?_ _) | ((with_reducible refine Bk.far ?_ ?_ _); rotate_left; focus (first | (simp; done) | (simp; omega))) | (with_reducible refine Bk.below ?_ (by with_reducible assumption)))); obtain ⟨kcC1, kfC1, kaC1, kgC1, klC1⟩ := kC1.rules; have kO1 : Bk w1 (w.heap.size + 1) 28 #[.int .i64 0, .int .i64 0, .int .i64 0, .int .i64 0, .slice none 0 0] := (by repeat (first | (with_reducible assumption) | ((with_reducible refine Bk.new _ _ _ ?_); first | (with_reducible rfl) | (simp; done)) | (with_reducible refine Bk.alloc ?_ _) | (with_reducible refine Bk.drew ?_) | (with_reducible refine Bk.drewN ?_ _) | ((with_reducible refine Bk.far ?_ ?_ _); rotate_left; focus (first | (simp; done) | (simp; omega))) | (with_reducible refine Bk.below ?_ (by with_reducible assumption)))); obtain ⟨kcO1, kfO1, kaO1, kgO1, klO1⟩ := kO1.rules
    go_wp2_with fail
    refine (ball_any A n c l _ (HR.out.below (by repeat (first | (with_reducible exact Below.refl _ _) | (with_reducible refine balloc ?_ _) | (with_reducible refine Below.drew ?_) | (with_reducible refine bdrewN ?_ _) | ((with_reducible refine bset ?_ ?_ _); rotate_left; focus (first | (with_reducible exact Nat.le_refl _) | (simp; done) | (simp; omega) | omega)) | (with_reducible refine bstep (by with_reducible assumption) ?_)))) Hn.out hn2 (fun x hx => (HO.out x hx).below (by repeat (first | (with_reducible exact Below.refl _ _) | (with_reducible refine balloc ?_ _) | (with_reducible refine Below.drew ?_) | (with_reducible refine bdrewN ?_ _) | ((with_reducible refine bset ?_ ?_ _); rotate_left; focus (first | (with_reducible exact Nat.le_refl _) | (simp; done) | (simp; omega) | omega)) | (with_reducible refine bstep (by with_reducible assumption) ?_)))) HSZ.out true Hvl).mono ?_
    rintro e w2 ⟨rfl, hb2⟩
    clear kcC1 kfC1 kaC1 kgC1 kcO1 kfO1 kaO1 kgO1
    have kC2 : Bk w2 (w.heap.size) 28 #[.int .i64 s.r.x0, .int .i64 s.r.y0, .int .i64 s.r.x1, .int .i64 s.r.y1, .slice s.A s.n s.c] := (by repeat (first | (with_reducible assumption) | ((with_reducible refine Bk.new _ _ _ ?_); first | (with_reducible rfl) | (simp; done)) | (with_reducible refine Bk.alloc ?_ _) | (with_reducible refine Bk.drew ?_) | (with_reducible refine Bk.drewN ?_ _) | ((with_reducible refine Bk.far ?_ ?_ _); rotate_left; focus (first | (simp; done) | (simp; omega))) | (with_reducible refine Bk.below ?_ (by with_reducible assumption)))); obtain ⟨kcC2, kfC2, kaC2, kgC2, klC2⟩ := kC2.rules; have kO2 : Bk w2 (w.heap.size + 1) 28 #[.int .i64 0, .int .i64 0, .int .i64 0, .int .i64 0, .slice none 0 0] := (by repeat (first | (with_reducible assumption) | ((with_reducible refine Bk.new _ _ _ ?_); first | (with_reducible rfl) | (simp; done)) | (with_reducible refine Bk.alloc ?_ _) | (with_reducible refine Bk.drew ?_) | (with_reducible refine Bk.drewN ?_ _) | ((with_reducible refine Bk.far ?_ ?_ _); rotate_left; focus (first | (simp; done) | (simp; omega))) | (with_reducible refine Bk.below ?_ (by with_reducible assumption)))); obtain ⟨kcO2, kfO2, kaO2, kgO2, klO2⟩ := kO2.rules
    have hB2 : Below w.heap.size w w2 := (by repeat (first | (with_reducible exact Below.refl _ _) | (with_reducible refine balloc ?_ _) | (with_reducible refine Below.drew ?_) | (with_reducible refine bdrewN ?_ _) | ((with_reducible refine bset ?_ ?_ _); rotate_left; focus (first | (with_reducible exact Nat.le_refl _) | (simp; done) | (simp; omega) | omega)) | (with_reducible refine bstep (by with_reducible assumption) ?_)))
    have sz2 : w.heap.size + 2 ≤ w2.heap.size := by have := kO2.lt; omega
    go_wp2_with fail
    refine wp_region_mix 7 [0, 1, 2, 3] [4, 5] [6] (fun _ => 28) (fun _ => #[.int .i64 0, .int .i64 0, .int .i64 0, .int .i64 0, .slice none 0 0]) (by kernel_rfl) (by kernel_rfl) (fun c a d v w h => by cases d <;> exact h) (fun c a d v w h => by cases d <;> exact h) (fun j hj => by simp only [List.mem_cons, List.not_mem_nil, or_false] at hj; rcases hj with rfl <;> exact ⟨_, rfl, rfl, fun a w => by go_simp; rfl⟩) ?_
    simp only [List.map_cons, List.map_nil]
    repeat (refine wpGo_pure (v := ?_) rfl rfl (fun w' hS => ?_) ?_; rotate_left; (· have kCp : Bk w' (w.heap.size) 28 #[.int .i64 s.r.x0, .int .i64 s.r.y0, .int .i64 s.r.x1, .int .i64 s.r.y1, .slice s.A s.n s.c] := (by repeat (first | (with_reducible assumption) | ((with_reducible refine Bk.new _ _ _ ?_); first | (with_reducible rfl) | (simp; done)) | (with_reducible refine Bk.alloc ?_ _) | (with_reducible refine Bk.drew ?_) | (with_reducible refine Bk.drewN ?_ _) | ((with_reducible refine Bk.far ?_ ?_ _); rotate_left; focus (first | (simp; done) | (simp; omega))) | (with_reducible refine Bk.below ?_ (by with_reducible assumption)))); obtain ⟨kcCp, kfCp, kaCp, kgCp, klCp⟩ := kCp.rules; have kOp : Bk w' (w.heap.size + 1) 28 #[.int .i64 0, .int .i64 0, .int .i64 0, .int .i64 0, .slice none 0 0] := (by repeat (first | (with_reducible assumption) | ((with_reducible refine Bk.new _ _ _ ?_); first | (with_reducible rfl) | (simp; done)) | (with_reducible refine Bk.alloc ?_ _) | (with_reducible refine Bk.drew ?_) | (with_reducible refine Bk.drewN ?_ _) | ((with_reducible refine Bk.far ?_ ?_ _); rotate_left; focus (first | (simp; done) | (simp; omega))) | (with_reducible refine Bk.below ?_ (by with_reducible assumption)))); obtain ⟨kcOp, kfOp, kaOp, kgOp, klOp⟩ := kOp.rules; go_simp; exact rfl); (try simp only [Act.put, List.setIfInBounds_toArray, List.set_cons_zero, List.set_cons_succ]))
    refine wpGo_nil ?_
    clear kcC2 kfC2 kaC2 kgC2 kcO2 kfO2 kaO2 kgO2
    refine wpMix_call rfl (fun w3 hb3 K hK => ?_)
    go_simp
    refine (sclone_any s.A s.n s.c s.l _ (HS.out.rd.below (bstep hb3 hB2.drew)) HS.out.ln hsn hz).mono ?_
    rintro e w4 ⟨v4, rfl, ho4, hb4⟩
    obtain ⟨A4, c4, hv4, _, _⟩ := ho4.form encP_len
    rw [HS.out.ln] at hv4
    subst hv4
    refine hK.out _ _ hb4 (fun _ => ?_)
    clear hK K
    refine wpMix_call rfl (fun w5 hb5 K hK => ?_)
    go_simp
    refine hK.out _ _ (Below.refl _ _) (fun _ => ?_)
    clear hK K
    refine wpMix_end (fun β w6 hb6 hbk hne => ?_)
    obtain ⟨k6, l6⟩ := hbk 6 (by simp)
    clear hbk hne
    simp only [putAll, dstOf, ptrTo, List.foldl_cons, List.foldl_nil, List.getElem?_toArray, List.getElem?_cons_succ, List.getElem?_cons_zero, Option.bind_some, Act.put, List.setIfInBounds_toArray, List.set_cons_zero, List.set_cons_succ, List.drop_succ_cons, List.drop_zero]
    generalize β 6 = b6 at *
    clear β
    have hB6 : Below w.heap.size w w6 := bstep hb6 (bstep hb5 (bstep hb4 (bstep hb3 hB2.drew)))
    have ho6 : OwnL encP 25 4 w6 w2.heap.size (.slice A4 s.n c4) s.l := ((ho4.below hb5).below hb6).mono hb3.size
    have hw26 : Below w2.heap.size w2 w6 := bstep hb6 (bstep hb5 (bstep hb4 (bstep hb3 (Below.refl _ _).drew)))
    have kC6 := kC2.below hw26
    have kO6 := kO2.below hw26
    have l6' : w2.heap.size ≤ b6 := l6
    clear ho4 hb3 hb4 hb5 hb6 hw26
    obtain ⟨kc6, kf6, ka6, kg6, kl6⟩ := k6.rules
    have o1 := ho6.setFar k6 (by decide) 0 (.int .i64 s.r.x0)
    have m1 := k6.set 0 (.int .i64 s.r.x0)
    have o2 := o1.setFar m1 (by decide) 1 (.int .i64 s.r.y0)
    have m2 := m1.set 1 (.int .i64 s.r.y0)
    have o3 := o2.setFar m2 (by decide) 2 (.int .i64 s.r.x1)
    have m3 := m2.set 2 (.int .i64 s.r.x1)
    have o4 := o3.setFar m3 (by decide) 3 (.int .i64 s.r.y1)
    have m4 := m3.set 3 (.int .i64 s.r.y1)
    have kG7 : Bk _ b6 28 #[.int .i64 s.r.x0, .int .i64 s.r.y0, .int .i64 s.r.x1, .int .i64 s.r.y1, .slice A4 s.n c4] := m4.set 4 (.slice A4 s.n c4)
    have ho7 := o4.setFar m4 (by decide) 4 (.slice A4 s.n c4)
    have kC7 := (((((kC6.far (p := ⟨b6, 0, none⟩) (show w.heap.size ≠ b6 by omega) (.int .i64 s.r.x0)).far (p := ⟨b6, 1, none⟩) (show w.heap.size ≠ b6 by omega) (.int .i64 s.r.y0)).far (p := ⟨b6, 2, none⟩) (show w.heap.size ≠ b6 by omega) (.int .i64 s.r.x1)).far (p := ⟨b6, 3, none⟩) (show w.heap.size ≠ b6 by omega) (.int .i64 s.r.y1)).far (p := ⟨b6, 4, none⟩) (show w.heap.size ≠ b6 by omega) (.slice A4 s.n c4))
    have kO7 := (((((kO6.far (p := ⟨b6, 0, none⟩) (show w.heap.size + 1 ≠ b6 by omega) (.int .i64 s.r.x0)).far (p := ⟨b6, 1, none⟩) (show w.heap.size + 1 ≠ b6 by omega) (.int .i64 s.r.y0)).far (p := ⟨b6, 2, none⟩) (show w.heap.size + 1 ≠ b6 by omega) (.int .i64 s.r.x1)).far (p := ⟨b6, 3, none⟩) (show w.heap.size + 1 ≠ b6 by omega) (.int .i64 s.r.y1)).far (p := ⟨b6, 4, none⟩) (show w.heap.size + 1 ≠ b6 by omega) (.slice A4 s.n c4))
    have hB7 := (bset (bset (bset (bset (bset hB6 (p := ⟨b6, 0, none⟩) (by show _ ≤ b6; omega) (.int .i64 s.r.x0)) (p := ⟨b6, 1, none⟩) (by show _ ≤ b6; omega) (.int .i64 s.r.y0)) (p := ⟨b6, 2, none⟩) (by show _ ≤ b6; omega) (.int .i64 s.r.x1)) (p := ⟨b6, 3, none⟩) (by show _ ≤ b6; omega) (.int .i64 s.r.y1)) (p := ⟨b6, 4, none⟩) (by show _ ≤ b6; omega) (.slice A4 s.n c4))
    clear o1 o2 o3 o4 m1 m2 m3 m4
    go_wp2_with fail
    clear kc6 kf6 ka6 kg6
    generalize (((((w6.setCell ⟨b6, 0, none⟩ (.int .i64 s.r.x0)).setCell ⟨b6, 1, none⟩ (.int .i64 s.r.y0)).setCell ⟨b6, 2, none⟩ (.int .i64 s.r.x1)).setCell ⟨b6, 3, none⟩ (.int .i64 s.r.y1)).setCell ⟨b6, 4, none⟩ (.slice A4 s.n c4)) = w8 at kG7 ho7 kC7 kO7 hB7 ⊢
    go_loopw [31] (fun i wr => ∃ (k : Nat) (m : List Px), k ≤ n ∧ i = .int .i64 k ∧ Bk wr (w.heap.size) 28 #[.int .i64 s.r.x0, .int .i64 s.r.y0, .int .i64 s.r.x1, .int .i64 s.r.y1, .slice s.A s.n s.c] ∧ Bk wr (w.heap.size + 1) 28 #[.int .i64 0, .int .i64 0, .int .i64 0, .int .i64 0, .slice none 0 0] ∧ Bk wr (b6) 28 #[.int .i64 s.r.x0, .int .i64 s.r.y0, .int .i64 s.r.x1, .int .i64 s.r.y1, .slice A4 s.n c4] ∧ OwnL encP 25 4 wr w2.heap.size (.slice A4 s.n c4) m ∧ Hid (m.length = s.n) ∧ Hid (∀ x y, containsB s.r x y = true → atL zP s.r m x y = pstG (l.take k) g0 x y) ∧ Below w.heap.size w wr) (fun i _ => n - (intOf i).toNat)
    case atStart => exact ⟨0, s.l, Nat.zero_le _, rfl, kC7, kO7, kG7, ho7, HS.out.ln, fun x y _ => by rw [← Hg0.out]; rfl, hB7⟩
    case round =>
      obtain ⟨k, m, hk, rfl, jC, jO, jG, hm, HML, HM, hbw⟩ := hrel
      obtain ⟨kcC, kfC, kaC, kgC, klC⟩ := jC.rules
      obtain ⟨kcO, kfO, kaO, kgO, klO⟩ := jO.rules
      obtain ⟨kcG, kfG, kaG, kgG, klG⟩ := jG.rules
      by_cases hlt : k < n
      · obtain ⟨wo, rfl⟩ : ∃ wo : World, wo = wr := ⟨_, rfl⟩
        have hkl : k < l.length := by have := Hn.out; omega
        obtain ⟨gb, ob, hA, hgb, d0, d1, d2, d3, d4⟩ := rdb (HR.out.below hbw) hkl
        subst hA
        obtain ⟨b, Hb⟩ : ∃ b, Hid (l[k] = b) := ⟨l[k], rfl⟩
        rw [Hb.out] at d0 d1 d2 d3 d4
        have hmem : b ∈ l := by rw [← Hb.out]; exact List.getElem_mem hkl
        have HBO : Hid (b.ok w) := HO.out b hmem
        have hbsz := HSZ.out b hmem
        have hbv := List.all_eq_true.1 Hvl.out b hmem
        obtain ⟨hbc, hbl, _, _⟩ := valid_cn hbv
        have hbln := HBO.out.ln
        obtain ⟨q, Hq⟩ : ∃ q, Hid (interR s.r b.r = q) := ⟨_, rfl⟩
        have Hq' : Hid (interR ⟨s.r.x0, s.r.y0, s.r.x1, s.r.y1⟩ ⟨b.r.x0, b.r.y0, b.r.x1, b.r.y1⟩ = q) := Hq.out
        have hqc : canonR q = q := by rw [← Hq.out]; exact inter_cn _ _
        have hcb := canon_bd q
        rw [hqc] at hcb
        obtain ⟨⟨bx0, bx1, bx2⟩, ⟨by0, by1, by2⟩⟩ := hcb
        obtain ⟨wd, hwd⟩ : ∃ n : Nat, q.x1 - q.x0 = (n : Int) := ⟨(q.x1 - q.x0).toNat, by omega⟩
        obtain ⟨ht, hht⟩ : ∃ n : Nat, q.y1 - q.y0 = (n : Int) := ⟨(q.y1 - q.y0).toNat, by omega⟩
        have HBC := Lib.hid (And.intro hbc hbl)
        have HQC := Lib.hid hqc
        have HWD := Lib.hid hwd
        have hh1 : q.y1 ≤ q.y0 + ht ∧ q.y0 + ht ≤ q.y1 := by omega
        have i0 : (0 : Int) ≤ (k : Int) := by omega
        have i1 : (k : Int) < (n : Int) := by omega
        have hbnc := HBO.out.le
        have hbcm := HBO.out.mx
        unfold maxLen at hbcm
        obtain ⟨hst, HST⟩ : ∃ h, Hid (pstG (l.take k) g0 = h) := ⟨_, rfl⟩
        rw [HST.out] at HM
        have HNEXT : Hid (pstG (l.take (k + 1)) g0 = pstF b hst) := by
          unfold Hid; rw [List.take_succ_eq_append_getElem hkl, pstG_snoc, HST.out, Hb.out]
        clear hbc hbl hqc hwd hht hmem hbv
        have jX := Bk.new wo 28 #[.int .i64 b.r.x0, .int .i64 b.r.y0, .int .i64 b.r.x1, .int .i64 b.r.y1, .slice b.A b.n b.c] rfl
        go_wp2_with fail
        refine (inter_q _ _ _ _ _ _ _ _ q Hq' _).mono ?_
        rintro e w7 ⟨rfl, hb7⟩
        clear d0 d1 d2 d3 d4
        clear kcC kfC kaC kgC kcO kfO kaO kgO kcG kfG kaG kgG
        have iC := ((jC.alloc _).below hb7).alloc (.cells #[.int .i64 q.x0, .int .i64 q.y0, .int .i64 q.x1, .int .i64 q.y1] 23)
        have iO := ((jO.alloc _).below hb7).alloc (.cells #[.int .i64 q.x0, .int .i64 q.y0, .int .i64 q.x1, .int .i64 q.y1] 23)
        have iG := ((jG.alloc _).below hb7).alloc (.cells #[.int .i64 q.x0, .int .i64 q.y0, .int .i64 q.x1, .int .i64 q.y1] 23)
        have iX := (jX.below hb7).alloc (.cells #[.int .i64 q.x0, .int .i64 q.y0, .int .i64 q.x1, .int .i64 q.y1] 23)
        have iQ : Bk (w7.alloc (.cells #[.int .i64 q.x0, .int .i64 q.y0, .int .i64 q.x1, .int .i64 q.y1] 23)) (w7.heap.size) 23 #[.int .i64 q.x0, .int .i64 q.y0, .int .i64 q.x1, .int .i64 q.y1] := Bk.new _ _ _ rfl
        have im := ((hm.alloc _).below hb7).alloc (.cells #[.int .i64 q.x0, .int .i64 q.y0, .int .i64 q.x1, .int .i64 q.y1] 23)
        have iB : Below w.heap.size w (w7.alloc (.cells #[.int .i64 q.x0, .int .i64 q.y0, .int .i64 q.x1, .int .i64 q.y1] 23)) := balloc (bstep hb7 (balloc hbw _)) _
        have szX : b6 < wo.heap.size := jG.lt
        have szQ : wo.heap.size < w7.heap.size := (jX.below hb7).lt
        clear jC jO jG jX hm hbw hb7
        go_wp2_with fail
        go_loopw [10] (fun i wr => ∃ (j : Nat) (m : List Px), j ≤ ht ∧ i = .int .i64 (q.y0 + j) ∧ Bk wr (w.heap.size) 28 #[.int .i64 s.r.x0, .int .i64 s.r.y0, .int .i64 s.r.x1, .int .i64 s.r.y1, .slice s.A s.n s.c] ∧ Bk wr (w.heap.size + 1) 28 #[.int .i64 0, .int .i64 0, .int .i64 0, .int .i64 0, .slice none 0 0] ∧ Bk wr (b6) 28 #[.int .i64 s.r.x0, .int .i64 s.r.y0, .int .i64 s.r.x1, .int .i64 s.r.y1, .slice A4 s.n c4] ∧ Bk wr (wo.heap.size) 28 #[.int .i64 b.r.x0, .int .i64 b.r.y0, .int .i64 b.r.x1, .int .i64 b.r.y1, .slice b.A b.n b.c] ∧ Bk wr (w7.heap.size) 23 #[.int .i64 q.x0, .int .i64 q.y0, .int .i64 q.x1, .int .i64 q.y1] ∧ OwnL encP 25 4 wr w2.heap.size (.slice A4 s.n c4) m ∧ Hid (m.length = s.n) ∧ Hid (∀ x y, containsB s.r x y = true → atL zP s.r m x y = pstH b q j hst x y) ∧ Below w.heap.size w wr) (fun i _ => (q.y1 - intOf i).toNat)
        case atStart => exact ⟨0, m, Nat.zero_le _, by simp, iC, iO, iG, iX, iQ, im, HML, fun x y h => by rw [pstH_zero b hst x y HQC.out]; exact HM.out x y h, iB⟩
        case round =>
          clear iC iO iG iX iQ im iB HML HM
          obtain ⟨j, m, hj, rfl, jC, jO, jG, jX, jQ, hm, HML, HM, hbw⟩ := hrel
          obtain ⟨kcC, kfC, kaC, kgC, klC⟩ := jC.rules
          obtain ⟨kcO, kfO, kaO, kgO, klO⟩ := jO.rules
          obtain ⟨kcG, kfG, kaG, kgG, klG⟩ := jG.rules
          obtain ⟨kcX, kfX, kaX, kgX, klX⟩ := jX.rules
          obtain ⟨kcQ, kfQ, kaQ, kgQ, klQ⟩ := jQ.rules
          by_cases hlq : q.y0 + j < q.y1
          · have hqf : emptyB q = false := by
              cases he : emptyB q with
              | false => rfl
              | true =>
                have : q = ⟨0, 0, 0, 0⟩ := by rw [← HQC.out, canon_of_empty he]
                rw [this] at hlq; simp at hlq; omega
            obtain ⟨e1, e2, e3⟩ := inter_full (show emptyB (interR s.r b.r) = false by rw [Hq.out]; exact hqf)
            rw [Hq.out] at e3
            have hqq := (emptyB_iff q).1 hqf
            have x0 : q.x0 = max s.r.x0 b.r.x0 := by rw [e3]
            have x1 : q.x1 = min s.r.x1 b.r.x1 := by rw [e3]
            have y0 : q.y0 = max s.r.y0 b.r.y0 := by rw [e3]
            have y1 : q.y1 = min s.r.y1 b.r.y1 := by rw [e3]
            have hwdq := HWD.out
            obtain ⟨k1, p1, p2, p3⟩ := row_of (z := zP) HBC.out.1 HBC.out.2 hqf (by omega) (by omega) (y := q.y0 + j) (by omega) (by omega) hwdq
            obtain ⟨k2, p4, p5, _⟩ := row_of (z := zP) HSC.out hsl hqf (by omega) (by omega) (y := q.y0 + j) (by omega) (by omega) hwdq
            have HP1 := Lib.hid (pix_any b.r.x0 b.r.y0 b.r.x1 b.r.y1 q.x0 (q.y0 + j))
            have HP2 := Lib.hid (pix_any s.r.x0 s.r.y0 s.r.x1 s.r.y1 q.x0 (q.y0 + j))
            have p1' : pixR ⟨b.r.x0, b.r.y0, b.r.x1, b.r.y1⟩ q.x0 (q.y0 + j) = (k1 : Int) := p1
            have p4' : pixR ⟨s.r.x0, s.r.y0, s.r.x1, s.r.y1⟩ q.x0 (q.y0 + j) = (k2 : Int) := p4
            rw [p1'] at HP1
            rw [p4'] at HP2
            have hsl2 : s.l.length = s.n := HS.out.ln
            have hml := HML.out
            have p5' : k2 + wd ≤ m.length := by omega
            have hmA : (m.length : Int) = areaR s.r := by rw [hml, ← hsl2]; exact hsl
            have HM' : Hid (∀ x y, containsB s.r x y = true → atL zP s.r (splL m k2 (rowL (atL zP b.r b.l) q.x0 (q.y0 + j) wd)) x y = pstH b q (j + 1) hst x y) := by
              unfold Hid
              have := pst_row (R := s.r) (b := b) (m := m) (h := hst) HSC.out hmA (by rw [Hq.out]; exact hqf) (j := j) (by rw [Hq.out]; exact hlq) (wd := wd) (k := k2) (by rw [Hq.out]; exact hwdq) (by rw [Hq.out]; exact p4) p5' (by rw [Hq.out]; exact HM.out)
              rw [Hq.out] at this
              exact this
            have hbne : b.l ≠ [] := by intro h; rw [h] at p2; simp at p2; omega
            have hmne : m ≠ [] := by intro h; rw [h] at p5'; simp at p5'; omega
            have hwd0 : 0 < wd := by omega
            have hsnk : k2 + wd ≤ s.n := by omega
            have hbnk : k1 + wd ≤ b.n := by omega
            have hxr : q.x1 ≤ 4096 ∧ -4096 ≤ q.x0 := by omega
            have HROW := Lib.hid p3
            have HNE := Lib.hid hbne
            have HMN := Lib.hid hmne
            clear p1 p1' p4 p4' p2 p5 p5' p3 e1 e2 e3 x0 x1 y0 y1 hmA hbne hmne hqq hqf hml hsl2
            go_wp2_with fail
            clear kcC kfC kaC kgC kcO kfO kaO kgO kcG kfG kaG kgG kcX kfX kaX kgX kcQ kfQ kaQ kgQ
            refine wp_region_gob 14 [(0, true), (1, true), (2, true), (3, true), (4, true), (6, true), (7, true), (8, true), (9, true), (10, true), (5, false), (11, false), (12, true), (13, true)] (by kernel_rfl) (by kernel_rfl) (fun c a d v w h => by cases d <;> exact h) ?_
            repeat (first | (refine wpGo_pure (v := ?_) rfl rfl (fun w' hS => ?_) ?_; rotate_left; (· have zC := jC.below hS; obtain ⟨kc0, kf0, ka0, kg0, kl0⟩ := zC.rules; have zX := jX.below hS; obtain ⟨kc1, kf1, ka1, kg1, kl1⟩ := zX.rules; have zQ := jQ.below hS; obtain ⟨kc2, kf2, ka2, kg2, kl2⟩ := zQ.rules; go_simp; exact rfl); (try simp only [Act.put, List.setIfInBounds_toArray, List.set_cons_zero, List.set_cons_succ])) | ((refine wpGo_skip rfl rfl ?_); (try simp only [Act.put, List.setIfInBounds_toArray, List.set_cons_zero, List.set_cons_succ])))
            refine wpGo_eff rfl (fun K hK => ?_)
            go_simp
            refine (HP1.out _).mono ?_
            rintro e w21 ⟨rfl, hb21⟩
            refine hK.out _ _ (by repeat (first | (with_reducible exact Below.refl _ _) | (with_reducible refine balloc ?_ _) | (with_reducible refine Below.drew ?_) | (with_reducible refine bdrewN ?_ _) | ((with_reducible refine bset ?_ ?_ _); rotate_left; focus (first | (with_reducible exact Nat.le_refl _) | (simp; done) | (simp; omega) | omega)) | (with_reducible refine bstep (by with_reducible assumption) ?_))) (fun hS21 => ?_)
            clear hK K
            refine wpGo_eff rfl (fun K hK => ?_)
            go_simp
            refine (HP2.out _).mono ?_
            rintro e w22 ⟨rfl, hb22⟩
            refine hK.out _ _ (by repeat (first | (with_reducible exact Below.refl _ _) | (with_reducible refine balloc ?_ _) | (with_reducible refine Below.drew ?_) | (with_reducible refine bdrewN ?_ _) | ((with_reducible refine bset ?_ ?_ _); rotate_left; focus (first | (with_reducible exact Nat.le_refl _) | (simp; done) | (simp; omega) | omega)) | (with_reducible refine bstep (by with_reducible assumption) ?_))) (fun hS22 => ?_)
            clear hK K
            repeat (first | (refine wpGo_pure (v := ?_) rfl rfl (fun w' hS => ?_) ?_; rotate_left; (· have zC := jC.below hS; obtain ⟨kc0, kf0, ka0, kg0, kl0⟩ := zC.rules; have zX := jX.below hS; obtain ⟨kc1, kf1, ka1, kg1, kl1⟩ := zX.rules; have zQ := jQ.below hS; obtain ⟨kc2, kf2, ka2, kg2, kl2⟩ := zQ.rules; go_simp; exact rfl); (try simp only [Act.put, List.setIfInBounds_toArray, List.set_cons_zero, List.set_cons_succ])) | ((refine wpGo_skip rfl rfl ?_); (try simp only [Act.put, List.setIfInBounds_toArray, List.set_cons_zero, List.set_cons_succ])))
            refine wpGo_nil ?_
            simp only [List.drop_succ_cons, List.drop_zero]
            have hr22 : Below wr.heap.size wr w22 := (by repeat (first | (with_reducible exact Below.refl _ _) | (with_reducible refine balloc ?_ _) | (with_reducible refine Below.drew ?_) | (with_reducible refine bdrewN ?_ _) | ((with_reducible refine bset ?_ ?_ _); rotate_left; focus (first | (with_reducible exact Nat.le_refl _) | (simp; done) | (simp; omega) | omega)) | (with_reducible refine bstep (by with_reducible assumption) ?_)))
            have nC := jC.below hr22
            have nO := jO.below hr22
            have nG := jG.below hr22
            have nX := jX.below hr22
            have nQ := jQ.below hr22
            have nm := hm.below hr22
            have hBc : Below w.heap.size w w22 := bstep hr22 hbw
            clear jC jO jG jX jQ hm hr22 hbw
            obtain ⟨kcG, kfG, kaG, kgG, klG⟩ := nG.rules
            obtain ⟨kcX, kfX, kaX, kgX, klX⟩ := nX.rules
            obtain ⟨kcQ, kfQ, kaQ, kgQ, klQ⟩ := nQ.rules
            clear kcG kfG kaG kgG kcX kfX kaX kgX kcQ kfQ kaQ kgQ
            obtain ⟨ga, oa, hAA, hga, _⟩ := HBO.out.rd HNE.out
            have hrd : RdL encP 4 w22 (some ⟨ga, oa + k1 * 4, none⟩) ((b.l.drop k1).take wd) := by
              have h := HBO.out.rd.below hBc
              rw [hAA] at h
              exact (h.drop k1).take wd
            rw [HROW.out] at hrd
            have HRD := Lib.hid hrd
            obtain ⟨g, cap, cur, hvv, hbg, kg0, hcap, hmx, hsz, htk⟩ := nm.block HMN.out
            have hA4 : A4 = some ⟨g, 0, none⟩ ∧ s.n = m.length ∧ c4 = cap := by injection hvv with h1 h2 h3; exact ⟨h1, h2, h3⟩
            obtain ⟨rfl, -, rfl⟩ := hA4
            have hc4 : s.n ≤ c4 := by have := HML.out; omega
            clear hvv hsz htk hmx hcap kg0 cur hrd
            have f1 : IntKind.i64.wrap ((k1 : Int) + q.x1) = (k1 : Int) + q.x1 := IntWalk.i64_in _ (by omega)
            have f2 : IntKind.i64.wrap ((k1 : Int) + q.x1 - q.x0) = (k1 : Int) + (wd : Int) := by rw [IntWalk.i64_in _ (by omega)]; omega
            have t0 : (k2 : Int) ≤ (s.n : Int) := by omega
            have t1 : k2 ≤ s.n := by omega
            have t2 : ¬ (c4 = k2) := by omega
            have t3 : (0 : Int) ≤ (k1 : Int) + (wd : Int) := by omega
            have t4 : (k1 : Int) + (wd : Int) ≤ (b.c : Int) := by omega
            have t5 : ((k1 : Int) + (wd : Int)).toNat = k1 + wd := by omega
            have t6 : ¬ (b.c = k1) := by omega
            have hAb := Lib.hid hAA
            rw [hAA] at nX
            clear hAA hwdq
            go_wp2_with fail
            refine wp_region_gob 15 [(0, true), (1, true), (2, true), (3, true), (4, true), (5, true), (6, true), (7, true), (8, true), (9, true), (10, true), (11, true), (12, true), (13, true), (14, true)] (by kernel_rfl) (by kernel_rfl) (fun c a d v w h => by cases d <;> exact h) ?_
            repeat (refine wpGo_pure (v := ?_) rfl rfl (fun w' hS => ?_) ?_; rotate_left; (· have zG := nG.below hS; obtain ⟨kc0, kf0, ka0, kg0, kl0⟩ := zG.rules; have zX := nX.below hS; obtain ⟨kc1, kf1, ka1, kg1, kl1⟩ := zX.rules; have zQ := nQ.below hS; obtain ⟨kc2, kf2, ka2, kg2, kl2⟩ := zQ.rules; go_simp; exact rfl); (try simp only [Act.put, List.setIfInBounds_toArray, List.set_cons_zero, List.set_cons_succ]))
            refine wpGo_nil ?_
            simp only [List.drop_succ_cons, List.drop_zero]
            refine wpList_copy_own encP_len encP_one 26 26 Try.underlying26 (by kernel_rfl) rfl _ _ rfl w2.heap.size g k2 s.n c4 _ _ wd m (rowL (atL zP b.r b.l) q.x0 (q.y0 + j) wd) nm.drew HML.out HMN.out ga (oa + k1 * 4) HRD.out (by rw [rowL_len]; exact hsnk) rfl (by first | rfl | simp) (rowL_len _ _ _ _).symm ?_
            intro v9 w9 ho9 hg9
            rw [← hAb.out] at nX
            have q9C := nC.drew.grown hg9 (nm.drew.neBk nC.drew (by decide))
            have q9O := nO.drew.grown hg9 (nm.drew.neBk nO.drew (by decide))
            have q9G := nG.drew.grown hg9 (nm.drew.neBk nG.drew (by decide))
            have q9X := nX.drew.grown hg9 (nm.drew.neBk nX.drew (by decide))
            have q9Q := nQ.drew.grown hg9 (nm.drew.neBk nQ.drew (by decide))
            have hB9 := below_grown nm.drew hg9 hBc.drew (show w.heap.size ≤ w2.heap.size by omega)
            have HML' : Hid ((splL m k2 (rowL (atL zP b.r b.l) q.x0 (q.y0 + j) wd)).length = s.n) := by
              unfold Hid; rw [spl_len (by rw [rowL_len, HML.out]; exact hsnk)]; exact HML.out
            clear f1 f2 t0 t1 t2 t3 t4 t5 t6 nC nO nG nX nQ nm hBc hg9
            obtain ⟨kcQ, kfQ, kaQ, kgQ, klQ⟩ := q9Q.rules
            go_wp2
            go_roundw
            case rel => exact ⟨j + 1, _, by omega, by rw [show q.y0 + (j : Int) + 1 = q.y0 + ((j + 1 : Nat) : Int) by omega], q9C, q9O, q9G, q9X, q9Q, ho9, HML', HM', hB9⟩
            case measure => simp [intOf]; omega
          · obtain rfl : ht = j := by omega
            have HM' : Hid (∀ x y, containsB s.r x y = true → atL zP s.r m x y = pstG (l.take (k + 1)) g0 x y) := by
              unfold Hid; intro x y h
              rw [HM.out x y h, HNEXT.out, ← Hq.out]
              exact pstH_all b hst h (by rw [Hq.out]; exact hh1.1)
            go_wp2
            go_roundw
            case rel => exact ⟨k + 1, m, by omega, by go_num, jC, jO, jG, hm, HML, HM', hbw⟩
            case measure => simp [intOf]; omega
      · obtain rfl : n = k := by omega
        have HE : Hid (m = pixL (pstG l g0) s.r) := by
          unfold Hid
          have h1 := pix_at zP HSC.out (show (m.length : Int) = areaR s.r by rw [HML.out, ← HS.out.ln]; exact hsl)
          rw [← h1]
          refine pix_ext fun x y a0 a1 a2 a3 => ?_
          rw [HM.out x y ((contains_iff HSC.out x y).2 ⟨a0, a1, a2, a3⟩), List.take_of_length_le (by have := Hn.out; omega)]
        rw [HE.out] at hm
        have ho := hm.mono (show w.heap.size ≤ w2.heap.size by omega)
        have o1 := ho.setFar jO (by decide) 0 (.int .i64 s.r.x0)
        have m1 := jO.set 0 (.int .i64 s.r.x0)
        have o2 := o1.setFar m1 (by decide) 1 (.int .i64 s.r.y0)
        have m2 := m1.set 1 (.int .i64 s.r.y0)
        have o3 := o2.setFar m2 (by decide) 2 (.int .i64 s.r.x1)
        have m3 := m2.set 2 (.int .i64 s.r.x1)
        have o4 := o3.setFar m3 (by decide) 3 (.int .i64 s.r.y1)
        have m4 := m3.set 3 (.int .i64 s.r.y1)
        have o5 := o4.setFar m4 (by decide) 4 (.slice A4 s.n c4)
        clear o1 o2 o3 o4 m1 m2 m3 m4
        go_wp2
        refine bodyPost_ret (v := _) ?_ rfl ⟨_, rfl, o5, (by repeat (first | (with_reducible exact Below.refl _ _) | (with_reducible refine balloc ?_ _) | (with_reducible refine Below.drew ?_) | (with_reducible refine bdrewN ?_ _) | ((with_reducible refine bset ?_ ?_ _); rotate_left; focus (first | (with_reducible exact Nat.le_refl _) | (simp; done) | (simp; omega) | omega)) | (with_reducible refine bstep (by with_reducible assumption) ?_)))⟩
        simp [results, Try.results31, go_sem, kcO]
end Go.Proofs.Ytnefnnhnjmmebaa
