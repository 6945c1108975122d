/-
  The walk of grisailleref21.Union.
-/
import Derived.Test.YtndablijjkchjaaMk5
import Derived.IntWalk
namespace Go.Proofs.Ytndablijjkchjaa
open Go.RowKit
set_option linter.unusedSimpArgs false
set_option linter.unusedVariables false


set_option maxHeartbeats 6400000 in
theorem rmunion_any (a b : Mk) (w : World) (ha : a.ok w) (hb : b.ok w) (hna : a.n ≤ 4000000000) (hnb : b.n ≤ 4000000000) :
    Calls Try.prog 24 #[.agg #[.int .i64 a.r.x0, .int .i64 a.r.y0, .int .i64 a.r.x1, .int .i64 a.r.y1, .slice a.A a.n a.c], .agg #[.int .i64 b.r.x0, .int .i64 b.r.y0, .int .i64 b.r.x1, .int .i64 b.r.y1, .slice b.A b.n b.c]] w (RetME (unMR a b) (unML a b) (unME a b) w) := by
  have HA := Lib.hid ha
  have HB := Lib.hid hb
  have HAB : Hid (∀ x ∈ [a, b], x.ok w) := fun x hx => by
    rcases List.mem_cons.1 hx with rfl | hx
    · exact ha
    · rw [List.mem_singleton.1 hx]; exact hb
  have HSZ : Hid (∀ x ∈ [a, b], x.n ≤ 4000000000) := fun x hx => by
    rcases List.mem_cons.1 hx with rfl | hx
    · exact hna
    · rw [List.mem_singleton.1 hx]; exact hnb
  obtain ⟨U, HU⟩ : ∃ u, Hid (unionR a.r b.r = u) := ⟨_, rfl⟩
  have HU' : Hid (unionR ⟨a.r.x0, a.r.y0, a.r.x1, a.r.y1⟩ ⟨b.r.x0, b.r.y0, b.r.x1, b.r.y1⟩ = U) := HU.out
  obtain ⟨ar, Har⟩ : ∃ u, Hid (areaR U = u) := ⟨_, rfl⟩
  have HAr := Lib.hid (rarea_any U.x0 U.y0 U.x1 U.y1)
  have HArv : Hid (areaR ⟨U.x0, U.y0, U.x1, U.y1⟩ = ar) := Har.out
  rw [HArv.out] at HAr
  have HUc : Hid (canonR U = U) := by unfold Hid; rw [← HU.out]; exact union_cn
  clear ha hb
  cases va : vMk a <;> cases vb : vMk b
  · have Hva := Lib.hid va
    have Hvb := Lib.hid vb
    have e0 : unB a b = false := by unfold unB; rw [va, vb]; rfl
    have e1 : unMR a b = ⟨0, 0, 0, 0⟩ := by unfold unMR; rw [e0]; rfl
    have e2 : unML a b = [] := by unfold unML; rw [e0]; rfl
    have e3 : unME a b = 14 := by unfold unME; rw [e0]; rfl
    rw [e1, e2, e3]
    clear e0 e1 e2 e3 va vb
    go_enter Try.func24, Try.ntmps24
    go_wp2_with fail
    refine (rmvalid_any a.r a.A a.n a.c a.l _ (HA.out.rd.below (by repeat (first | (with_reducible exact Below.refl _ _) | (with_reducible refine balloc ?_ _) | (with_reducible refine Below.drew ?_) | (with_reducible refine bdrewN ?_ _) | ((with_reducible refine bset ?_ ?_ _); rotate_left; focus (first | (with_reducible exact Nat.le_refl _) | (simp; done) | (simp; omega) | omega)) | (with_reducible refine bstep (by with_reducible assumption) ?_)))) HA.out.ln hna false Hva).mono ?_
    rintro e w1 ⟨rfl, hb1⟩
    have kD1 : Bk w1 (w.heap.size + 1) 29 #[.int .i64 b.r.x0, .int .i64 b.r.y0, .int .i64 b.r.x1, .int .i64 b.r.y1, .slice b.A b.n b.c] := (by repeat (first | (with_reducible assumption) | ((with_reducible refine Bk.new _ _ _ ?_); first | (with_reducible rfl) | (simp; done)) | (with_reducible refine Bk.alloc ?_ _) | (with_reducible refine Bk.drew ?_) | (with_reducible refine Bk.drewN ?_ _) | ((with_reducible refine Bk.far ?_ ?_ _); rotate_left; focus (first | (simp; done) | (simp; omega))) | (with_reducible refine Bk.below ?_ (by with_reducible assumption)))); obtain ⟨kcD1, kfD1, kaD1, kgD1, klD1⟩ := kD1.rules; have kO1 : Bk w1 (w.heap.size + 1 + 1) 29 #[.int .i64 0, .int .i64 0, .int .i64 0, .int .i64 0, .slice none 0 0] := (by repeat (first | (with_reducible assumption) | ((with_reducible refine Bk.new _ _ _ ?_); first | (with_reducible rfl) | (simp; done)) | (with_reducible refine Bk.alloc ?_ _) | (with_reducible refine Bk.drew ?_) | (with_reducible refine Bk.drewN ?_ _) | ((with_reducible refine Bk.far ?_ ?_ _); rotate_left; focus (first | (simp; done) | (simp; omega))) | (with_reducible refine Bk.below ?_ (by with_reducible assumption)))); obtain ⟨kcO1, kfO1, kaO1, kgO1, klO1⟩ := kO1.rules
    go_wp2
    refine bodyPost_ret (v := _) ?_ rfl (RetME.no 14 (by repeat (first | (with_reducible exact Below.refl _ _) | (with_reducible refine balloc ?_ _) | (with_reducible refine Below.drew ?_) | (with_reducible refine bdrewN ?_ _) | ((with_reducible refine bset ?_ ?_ _); rotate_left; focus (first | (with_reducible exact Nat.le_refl _) | (simp; done) | (simp; omega) | omega)) | (with_reducible refine bstep (by with_reducible assumption) ?_))))
    simp [results, Try.results24, go_sem, kcO1]
  · have Hva := Lib.hid va
    have Hvb := Lib.hid vb
    have e0 : unB a b = false := by unfold unB; rw [va, vb]; rfl
    have e1 : unMR a b = ⟨0, 0, 0, 0⟩ := by unfold unMR; rw [e0]; rfl
    have e2 : unML a b = [] := by unfold unML; rw [e0]; rfl
    have e3 : unME a b = 14 := by unfold unME; rw [e0]; rfl
    rw [e1, e2, e3]
    clear e0 e1 e2 e3 va vb
    go_enter Try.func24, Try.ntmps24
    go_wp2_with fail
    refine (rmvalid_any a.r a.A a.n a.c a.l _ (HA.out.rd.below (by repeat (first | (with_reducible exact Below.refl _ _) | (with_reducible refine balloc ?_ _) | (with_reducible refine Below.drew ?_) | (with_reducible refine bdrewN ?_ _) | ((with_reducible refine bset ?_ ?_ _); rotate_left; focus (first | (with_reducible exact Nat.le_refl _) | (simp; done) | (simp; omega) | omega)) | (with_reducible refine bstep (by with_reducible assumption) ?_)))) HA.out.ln hna false Hva).mono ?_
    rintro e w1 ⟨rfl, hb1⟩
    have kD1 : Bk w1 (w.heap.size + 1) 29 #[.int .i64 b.r.x0, .int .i64 b.r.y0, .int .i64 b.r.x1, .int .i64 b.r.y1, .slice b.A b.n b.c] := (by repeat (first | (with_reducible assumption) | ((with_reducible refine Bk.new _ _ _ ?_); first | (with_reducible rfl) | (simp; done)) | (with_reducible refine Bk.alloc ?_ _) | (with_reducible refine Bk.drew ?_) | (with_reducible refine Bk.drewN ?_ _) | ((with_reducible refine Bk.far ?_ ?_ _); rotate_left; focus (first | (simp; done) | (simp; omega))) | (with_reducible refine Bk.below ?_ (by with_reducible assumption)))); obtain ⟨kcD1, kfD1, kaD1, kgD1, klD1⟩ := kD1.rules; have kO1 : Bk w1 (w.heap.size + 1 + 1) 29 #[.int .i64 0, .int .i64 0, .int .i64 0, .int .i64 0, .slice none 0 0] := (by repeat (first | (with_reducible assumption) | ((with_reducible refine Bk.new _ _ _ ?_); first | (with_reducible rfl) | (simp; done)) | (with_reducible refine Bk.alloc ?_ _) | (with_reducible refine Bk.drew ?_) | (with_reducible refine Bk.drewN ?_ _) | ((with_reducible refine Bk.far ?_ ?_ _); rotate_left; focus (first | (simp; done) | (simp; omega))) | (with_reducible refine Bk.below ?_ (by with_reducible assumption)))); obtain ⟨kcO1, kfO1, kaO1, kgO1, klO1⟩ := kO1.rules
    go_wp2
    refine bodyPost_ret (v := _) ?_ rfl (RetME.no 14 (by repeat (first | (with_reducible exact Below.refl _ _) | (with_reducible refine balloc ?_ _) | (with_reducible refine Below.drew ?_) | (with_reducible refine bdrewN ?_ _) | ((with_reducible refine bset ?_ ?_ _); rotate_left; focus (first | (with_reducible exact Nat.le_refl _) | (simp; done) | (simp; omega) | omega)) | (with_reducible refine bstep (by with_reducible assumption) ?_))))
    simp [results, Try.results24, go_sem, kcO1]
  · have Hva := Lib.hid va
    have Hvb := Lib.hid vb
    have e0 : unB a b = false := by unfold unB; rw [va, vb]; rfl
    have e1 : unMR a b = ⟨0, 0, 0, 0⟩ := by unfold unMR; rw [e0]; rfl
    have e2 : unML a b = [] := by unfold unML; rw [e0]; rfl
    have e3 : unME a b = 14 := by unfold unME; rw [e0]; rfl
    rw [e1, e2, e3]
    clear e0 e1 e2 e3 va vb
    go_enter Try.func24, Try.ntmps24
    go_wp2_with fail
    refine (rmvalid_any a.r a.A a.n a.c a.l _ (HA.out.rd.below (by repeat (first | (with_reducible exact Below.refl _ _) | (with_reducible refine balloc ?_ _) | (with_reducible refine Below.drew ?_) | (with_reducible refine bdrewN ?_ _) | ((with_reducible refine bset ?_ ?_ _); rotate_left; focus (first | (with_reducible exact Nat.le_refl _) | (simp; done) | (simp; omega) | omega)) | (with_reducible refine bstep (by with_reducible assumption) ?_)))) HA.out.ln hna true Hva).mono ?_
    rintro e w1 ⟨rfl, hb1⟩
    have kD1 : Bk w1 (w.heap.size + 1) 29 #[.int .i64 b.r.x0, .int .i64 b.r.y0, .int .i64 b.r.x1, .int .i64 b.r.y1, .slice b.A b.n b.c] := (by repeat (first | (with_reducible assumption) | ((with_reducible refine Bk.new _ _ _ ?_); first | (with_reducible rfl) | (simp; done)) | (with_reducible refine Bk.alloc ?_ _) | (with_reducible refine Bk.drew ?_) | (with_reducible refine Bk.drewN ?_ _) | ((with_reducible refine Bk.far ?_ ?_ _); rotate_left; focus (first | (simp; done) | (simp; omega))) | (with_reducible refine Bk.below ?_ (by with_reducible assumption)))); obtain ⟨kcD1, kfD1, kaD1, kgD1, klD1⟩ := kD1.rules; have kO1 : Bk w1 (w.heap.size + 1 + 1) 29 #[.int .i64 0, .int .i64 0, .int .i64 0, .int .i64 0, .slice none 0 0] := (by repeat (first | (with_reducible assumption) | ((with_reducible refine Bk.new _ _ _ ?_); first | (with_reducible rfl) | (simp; done)) | (with_reducible refine Bk.alloc ?_ _) | (with_reducible refine Bk.drew ?_) | (with_reducible refine Bk.drewN ?_ _) | ((with_reducible refine Bk.far ?_ ?_ _); rotate_left; focus (first | (simp; done) | (simp; omega))) | (with_reducible refine Bk.below ?_ (by with_reducible assumption)))); obtain ⟨kcO1, kfO1, kaO1, kgO1, klO1⟩ := kO1.rules
    go_wp2_with fail
    refine (rmvalid_any b.r b.A b.n b.c b.l _ (HB.out.rd.below (by repeat (first | (with_reducible exact Below.refl _ _) | (with_reducible refine balloc ?_ _) | (with_reducible refine Below.drew ?_) | (with_reducible refine bdrewN ?_ _) | ((with_reducible refine bset ?_ ?_ _); rotate_left; focus (first | (with_reducible exact Nat.le_refl _) | (simp; done) | (simp; omega) | omega)) | (with_reducible refine bstep (by with_reducible assumption) ?_)))) HB.out.ln hnb false Hvb).mono ?_
    rintro e w2 ⟨rfl, hb2⟩
    clear kcD1 kfD1 kaD1 kgD1 kcO1 kfO1 kaO1 kgO1
    have kO2 : Bk w2 (w.heap.size + 1 + 1) 29 #[.int .i64 0, .int .i64 0, .int .i64 0, .int .i64 0, .slice none 0 0] := (by repeat (first | (with_reducible assumption) | ((with_reducible refine Bk.new _ _ _ ?_); first | (with_reducible rfl) | (simp; done)) | (with_reducible refine Bk.alloc ?_ _) | (with_reducible refine Bk.drew ?_) | (with_reducible refine Bk.drewN ?_ _) | ((with_reducible refine Bk.far ?_ ?_ _); rotate_left; focus (first | (simp; done) | (simp; omega))) | (with_reducible refine Bk.below ?_ (by with_reducible assumption)))); obtain ⟨kcO2, kfO2, kaO2, kgO2, klO2⟩ := kO2.rules
    go_wp2
    refine bodyPost_ret (v := _) ?_ rfl (RetME.no 14 (by repeat (first | (with_reducible exact Below.refl _ _) | (with_reducible refine balloc ?_ _) | (with_reducible refine Below.drew ?_) | (with_reducible refine bdrewN ?_ _) | ((with_reducible refine bset ?_ ?_ _); rotate_left; focus (first | (with_reducible exact Nat.le_refl _) | (simp; done) | (simp; omega) | omega)) | (with_reducible refine bstep (by with_reducible assumption) ?_))))
    simp [results, Try.results24, go_sem, kcO2]
  · have Hva := Lib.hid va
    have Hvb := Lib.hid vb
    have e0 : unB a b = true := by unfold unB; rw [va, vb]; rfl
    have Hna : Hid ((a.n : Int) = areaR a.r) := by unfold Hid; rw [← HA.out.ln]; exact (mk_cn va).2.1
    have Hnb : Hid ((b.n : Int) = areaR b.r) := by unfold Hid; rw [← HB.out.ln]; exact (mk_cn vb).2.1
    clear va vb
    cases h2 : decide ((65536 : Int) < ar) with
    | true =>
      have h2' : decide (areaR (unionR a.r b.r) ≤ 65536) = false := by have := of_decide_eq_true h2; rw [HU.out, Har.out]; simp; omega
      have e1 : unMR a b = ⟨0, 0, 0, 0⟩ := by unfold unMR; rw [e0, h2']; rfl
      have e2 : unML a b = [] := by unfold unML; rw [e0, h2']; rfl
      have e3 : unME a b = 5 := by unfold unME; rw [e0, h2']; rfl
      rw [e1, e2, e3]
      clear e0 e1 e2 e3 h2'
      go_enter Try.func24, Try.ntmps24
      go_wp2_with fail
      refine (rmvalid_any a.r a.A a.n a.c a.l _ (HA.out.rd.below (by repeat (first | (with_reducible exact Below.refl _ _) | (with_reducible refine balloc ?_ _) | (with_reducible refine Below.drew ?_) | (with_reducible refine bdrewN ?_ _) | ((with_reducible refine bset ?_ ?_ _); rotate_left; focus (first | (with_reducible exact Nat.le_refl _) | (simp; done) | (simp; omega) | omega)) | (with_reducible refine bstep (by with_reducible assumption) ?_)))) HA.out.ln hna true Hva).mono ?_
      rintro e w1 ⟨rfl, hb1⟩
      have kD1 : Bk w1 (w.heap.size + 1) 29 #[.int .i64 b.r.x0, .int .i64 b.r.y0, .int .i64 b.r.x1, .int .i64 b.r.y1, .slice b.A b.n b.c] := (by repeat (first | (with_reducible assumption) | ((with_reducible refine Bk.new _ _ _ ?_); first | (with_reducible rfl) | (simp; done)) | (with_reducible refine Bk.alloc ?_ _) | (with_reducible refine Bk.drew ?_) | (with_reducible refine Bk.drewN ?_ _) | ((with_reducible refine Bk.far ?_ ?_ _); rotate_left; focus (first | (simp; done) | (simp; omega))) | (with_reducible refine Bk.below ?_ (by with_reducible assumption)))); obtain ⟨kcD1, kfD1, kaD1, kgD1, klD1⟩ := kD1.rules
      go_wp2_with fail
      refine (rmvalid_any b.r b.A b.n b.c b.l _ (HB.out.rd.below (by repeat (first | (with_reducible exact Below.refl _ _) | (with_reducible refine balloc ?_ _) | (with_reducible refine Below.drew ?_) | (with_reducible refine bdrewN ?_ _) | ((with_reducible refine bset ?_ ?_ _); rotate_left; focus (first | (with_reducible exact Nat.le_refl _) | (simp; done) | (simp; omega) | omega)) | (with_reducible refine bstep (by with_reducible assumption) ?_)))) HB.out.ln hnb true Hvb).mono ?_
      rintro e w2 ⟨rfl, hb2⟩
      clear kcD1 kfD1 kaD1 kgD1
      have kC2 : Bk w2 (w.heap.size) 29 #[.int .i64 a.r.x0, .int .i64 a.r.y0, .int .i64 a.r.x1, .int .i64 a.r.y1, .slice a.A a.n a.c] := (by repeat (first | (with_reducible assumption) | ((with_reducible refine Bk.new _ _ _ ?_); first | (with_reducible rfl) | (simp; done)) | (with_reducible refine Bk.alloc ?_ _) | (with_reducible refine Bk.drew ?_) | (with_reducible refine Bk.drewN ?_ _) | ((with_reducible refine Bk.far ?_ ?_ _); rotate_left; focus (first | (simp; done) | (simp; omega))) | (with_reducible refine Bk.below ?_ (by with_reducible assumption)))); obtain ⟨kcC2, kfC2, kaC2, kgC2, klC2⟩ := kC2.rules; have kD2 : Bk w2 (w.heap.size + 1) 29 #[.int .i64 b.r.x0, .int .i64 b.r.y0, .int .i64 b.r.x1, .int .i64 b.r.y1, .slice b.A b.n b.c] := (by repeat (first | (with_reducible assumption) | ((with_reducible refine Bk.new _ _ _ ?_); first | (with_reducible rfl) | (simp; done)) | (with_reducible refine Bk.alloc ?_ _) | (with_reducible refine Bk.drew ?_) | (with_reducible refine Bk.drewN ?_ _) | ((with_reducible refine Bk.far ?_ ?_ _); rotate_left; focus (first | (simp; done) | (simp; omega))) | (with_reducible refine Bk.below ?_ (by with_reducible assumption)))); obtain ⟨kcD2, kfD2, kaD2, kgD2, klD2⟩ := kD2.rules
      go_wp2_with fail
      refine (runion_q _ _ _ _ _ _ _ _ U HU' _).mono ?_
      rintro e w3 ⟨rfl, hb3⟩
      clear kcC2 kfC2 kaC2 kgC2 kcD2 kfD2 kaD2 kgD2
      have kO3 : Bk w3 (w.heap.size + 1 + 1) 29 #[.int .i64 0, .int .i64 0, .int .i64 0, .int .i64 0, .slice none 0 0] := (by repeat (first | (with_reducible assumption) | ((with_reducible refine Bk.new _ _ _ ?_); first | (with_reducible rfl) | (simp; done)) | (with_reducible refine Bk.alloc ?_ _) | (with_reducible refine Bk.drew ?_) | (with_reducible refine Bk.drewN ?_ _) | ((with_reducible refine Bk.far ?_ ?_ _); rotate_left; focus (first | (simp; done) | (simp; omega))) | (with_reducible refine Bk.below ?_ (by with_reducible assumption)))); obtain ⟨kcO3, kfO3, kaO3, kgO3, klO3⟩ := kO3.rules
      have sz3 := kO3.lt
      clear kcO3 kfO3 kaO3 kgO3
      
      go_wp2_with fail
      refine (HAr.out _).mono ?_
      rintro e w4 ⟨rfl, hb4⟩
      have kO4 : Bk w4 (w.heap.size + 1 + 1) 29 #[.int .i64 0, .int .i64 0, .int .i64 0, .int .i64 0, .slice none 0 0] := (by repeat (first | (with_reducible assumption) | ((with_reducible refine Bk.new _ _ _ ?_); first | (with_reducible rfl) | (simp; done)) | (with_reducible refine Bk.alloc ?_ _) | (with_reducible refine Bk.drew ?_) | (with_reducible refine Bk.drewN ?_ _) | ((with_reducible refine Bk.far ?_ ?_ _); rotate_left; focus (first | (simp; done) | (simp; omega))) | (with_reducible refine Bk.below ?_ (by with_reducible assumption)))); obtain ⟨kcO4, kfO4, kaO4, kgO4, klO4⟩ := kO4.rules
      go_wp2
      refine bodyPost_ret (v := _) ?_ rfl (RetME.no 5 (by repeat (first | (with_reducible exact Below.refl _ _) | (with_reducible refine balloc ?_ _) | (with_reducible refine Below.drew ?_) | (with_reducible refine bdrewN ?_ _) | ((with_reducible refine bset ?_ ?_ _); rotate_left; focus (first | (with_reducible exact Nat.le_refl _) | (simp; done) | (simp; omega) | omega)) | (with_reducible refine bstep (by with_reducible assumption) ?_))))
      simp [results, Try.results24, go_sem, kcO4]
    | false =>
      have h2' : decide (areaR (unionR a.r b.r) ≤ 65536) = true := by have := of_decide_eq_false h2; rw [HU.out, Har.out]; simp; omega
      have e1 : unMR a b = U := by unfold unMR; rw [e0, h2']; exact HU.out
      obtain ⟨g, Hg⟩ : ∃ g, Hid (unG a b = g) := ⟨_, rfl⟩
      have e2 : unML a b = pixL g U := by unfold unML; rw [e0, h2', Hg.out, HU.out]; rfl
      have e3 : unME a b = 0 := by unfold unME; rw [e0, h2']; rfl
      rw [e1, e2, e3]
      clear e0 e1 e2 e3 h2'
      go_enter Try.func24, Try.ntmps24
      go_wp2_with fail
      refine (rmvalid_any a.r a.A a.n a.c a.l _ (HA.out.rd.below (by repeat (first | (with_reducible exact Below.refl _ _) | (with_reducible refine balloc ?_ _) | (with_reducible refine Below.drew ?_) | (with_reducible refine bdrewN ?_ _) | ((with_reducible refine bset ?_ ?_ _); rotate_left; focus (first | (with_reducible exact Nat.le_refl _) | (simp; done) | (simp; omega) | omega)) | (with_reducible refine bstep (by with_reducible assumption) ?_)))) HA.out.ln hna true Hva).mono ?_
      rintro e w1 ⟨rfl, hb1⟩
      have kD1 : Bk w1 (w.heap.size + 1) 29 #[.int .i64 b.r.x0, .int .i64 b.r.y0, .int .i64 b.r.x1, .int .i64 b.r.y1, .slice b.A b.n b.c] := (by repeat (first | (with_reducible assumption) | ((with_reducible refine Bk.new _ _ _ ?_); first | (with_reducible rfl) | (simp; done)) | (with_reducible refine Bk.alloc ?_ _) | (with_reducible refine Bk.drew ?_) | (with_reducible refine Bk.drewN ?_ _) | ((with_reducible refine Bk.far ?_ ?_ _); rotate_left; focus (first | (simp; done) | (simp; omega))) | (with_reducible refine Bk.below ?_ (by with_reducible assumption)))); obtain ⟨kcD1, kfD1, kaD1, kgD1, klD1⟩ := kD1.rules
      go_wp2_with fail
      refine (rmvalid_any b.r b.A b.n b.c b.l _ (HB.out.rd.below (by repeat (first | (with_reducible exact Below.refl _ _) | (with_reducible refine balloc ?_ _) | (with_reducible refine Below.drew ?_) | (with_reducible refine bdrewN ?_ _) | ((with_reducible refine bset ?_ ?_ _); rotate_left; focus (first | (with_reducible exact Nat.le_refl _) | (simp; done) | (simp; omega) | omega)) | (with_reducible refine bstep (by with_reducible assumption) ?_)))) HB.out.ln hnb true Hvb).mono ?_
      rintro e w2 ⟨rfl, hb2⟩
      clear kcD1 kfD1 kaD1 kgD1
      have kC2 : Bk w2 (w.heap.size) 29 #[.int .i64 a.r.x0, .int .i64 a.r.y0, .int .i64 a.r.x1, .int .i64 a.r.y1, .slice a.A a.n a.c] := (by repeat (first | (with_reducible assumption) | ((with_reducible refine Bk.new _ _ _ ?_); first | (with_reducible rfl) | (simp; done)) | (with_reducible refine Bk.alloc ?_ _) | (with_reducible refine Bk.drew ?_) | (with_reducible refine Bk.drewN ?_ _) | ((with_reducible refine Bk.far ?_ ?_ _); rotate_left; focus (first | (simp; done) | (simp; omega))) | (with_reducible refine Bk.below ?_ (by with_reducible assumption)))); obtain ⟨kcC2, kfC2, kaC2, kgC2, klC2⟩ := kC2.rules; have kD2 : Bk w2 (w.heap.size + 1) 29 #[.int .i64 b.r.x0, .int .i64 b.r.y0, .int .i64 b.r.x1, .int .i64 b.r.y1, .slice b.A b.n b.c] := (by repeat (first | (with_reducible assumption) | ((with_reducible refine Bk.new _ _ _ ?_); first | (with_reducible rfl) | (simp; done)) | (with_reducible refine Bk.alloc ?_ _) | (with_reducible refine Bk.drew ?_) | (with_reducible refine Bk.drewN ?_ _) | ((with_reducible refine Bk.far ?_ ?_ _); rotate_left; focus (first | (simp; done) | (simp; omega))) | (with_reducible refine Bk.below ?_ (by with_reducible assumption)))); obtain ⟨kcD2, kfD2, kaD2, kgD2, klD2⟩ := kD2.rules
      go_wp2_with fail
      refine (runion_q _ _ _ _ _ _ _ _ U HU' _).mono ?_
      rintro e w3 ⟨rfl, hb3⟩
      clear kcC2 kfC2 kaC2 kgC2 kcD2 kfD2 kaD2 kgD2
      have kO3 : Bk w3 (w.heap.size + 1 + 1) 29 #[.int .i64 0, .int .i64 0, .int .i64 0, .int .i64 0, .slice none 0 0] := (by repeat (first | (with_reducible assumption) | ((with_reducible refine Bk.new _ _ _ ?_); first | (with_reducible rfl) | (simp; done)) | (with_reducible refine Bk.alloc ?_ _) | (with_reducible refine Bk.drew ?_) | (with_reducible refine Bk.drewN ?_ _) | ((with_reducible refine Bk.far ?_ ?_ _); rotate_left; focus (first | (simp; done) | (simp; omega))) | (with_reducible refine Bk.below ?_ (by with_reducible assumption)))); obtain ⟨kcO3, kfO3, kaO3, kgO3, klO3⟩ := kO3.rules
      have sz3 := kO3.lt
      clear kcO3 kfO3 kaO3 kgO3
      
      go_wp2_with fail
      refine (HAr.out _).mono ?_
      rintro e w4 ⟨rfl, hb4⟩
      have kC4 : Bk w4 (w.heap.size) 29 #[.int .i64 a.r.x0, .int .i64 a.r.y0, .int .i64 a.r.x1, .int .i64 a.r.y1, .slice a.A a.n a.c] := (by repeat (first | (with_reducible assumption) | ((with_reducible refine Bk.new _ _ _ ?_); first | (with_reducible rfl) | (simp; done)) | (with_reducible refine Bk.alloc ?_ _) | (with_reducible refine Bk.drew ?_) | (with_reducible refine Bk.drewN ?_ _) | ((with_reducible refine Bk.far ?_ ?_ _); rotate_left; focus (first | (simp; done) | (simp; omega))) | (with_reducible refine Bk.below ?_ (by with_reducible assumption)))); obtain ⟨kcC4, kfC4, kaC4, kgC4, klC4⟩ := kC4.rules; have kD4 : Bk w4 (w.heap.size + 1) 29 #[.int .i64 b.r.x0, .int .i64 b.r.y0, .int .i64 b.r.x1, .int .i64 b.r.y1, .slice b.A b.n b.c] := (by repeat (first | (with_reducible assumption) | ((with_reducible refine Bk.new _ _ _ ?_); first | (with_reducible rfl) | (simp; done)) | (with_reducible refine Bk.alloc ?_ _) | (with_reducible refine Bk.drew ?_) | (with_reducible refine Bk.drewN ?_ _) | ((with_reducible refine Bk.far ?_ ?_ _); rotate_left; focus (first | (simp; done) | (simp; omega))) | (with_reducible refine Bk.below ?_ (by with_reducible assumption)))); obtain ⟨kcD4, kfD4, kaD4, kgD4, klD4⟩ := kD4.rules; have kO4 : Bk w4 (w.heap.size + 1 + 1) 29 #[.int .i64 0, .int .i64 0, .int .i64 0, .int .i64 0, .slice none 0 0] := (by repeat (first | (with_reducible assumption) | ((with_reducible refine Bk.new _ _ _ ?_); first | (with_reducible rfl) | (simp; done)) | (with_reducible refine Bk.alloc ?_ _) | (with_reducible refine Bk.drew ?_) | (with_reducible refine Bk.drewN ?_ _) | ((with_reducible refine Bk.far ?_ ?_ _); rotate_left; focus (first | (simp; done) | (simp; omega))) | (with_reducible refine Bk.below ?_ (by with_reducible assumption)))); obtain ⟨kcO4, kfO4, kaO4, kgO4, klO4⟩ := kO4.rules; have kU4 : Bk w4 (w3.heap.size) 26 #[.int .i64 U.x0, .int .i64 U.y0, .int .i64 U.x1, .int .i64 U.y1] := (by repeat (first | (with_reducible assumption) | ((with_reducible refine Bk.new _ _ _ ?_); first | (with_reducible rfl) | (simp; done)) | (with_reducible refine Bk.alloc ?_ _) | (with_reducible refine Bk.drew ?_) | (with_reducible refine Bk.drewN ?_ _) | ((with_reducible refine Bk.far ?_ ?_ _); rotate_left; focus (first | (simp; done) | (simp; omega))) | (with_reducible refine Bk.below ?_ (by with_reducible assumption)))); obtain ⟨kcU4, kfU4, kaU4, kgU4, klU4⟩ := kU4.rules
      have hB4 : Below w.heap.size w w4 := (by repeat (first | (with_reducible exact Below.refl _ _) | (with_reducible refine balloc ?_ _) | (with_reducible refine Below.drew ?_) | (with_reducible refine bdrewN ?_ _) | ((with_reducible refine bset ?_ ?_ _); rotate_left; focus (first | (with_reducible exact Nat.le_refl _) | (simp; done) | (simp; omega) | omega)) | (with_reducible refine bstep (by with_reducible assumption) ?_)))
      have sz4 := kU4.lt
      clear kcC4 kfC4 kaC4 kgC4 kcD4 kfD4 kaD4 kgD4 kcO4 kfO4 kaO4 kgO4 hb1 hb2 hb3 hb4
      have hcb := canon_bd U
      rw [HUc.out] at hcb
      obtain ⟨⟨bx0, bx1, bx2⟩, ⟨by0, by1, by2⟩⟩ := hcb
      obtain ⟨wd, hwd⟩ : ∃ n : Nat, U.x1 - U.x0 = (n : Int) := ⟨(U.x1 - U.x0).toNat, by omega⟩
      obtain ⟨ht, hht⟩ : ∃ n : Nat, U.y1 - U.y0 = (n : Int) := ⟨(U.y1 - U.y0).toNat, by omega⟩
      have hw1 : U.x1 ≤ U.x0 + wd ∧ U.x0 + wd ≤ U.x1 := by omega
      have hh1 : U.y1 ≤ U.y0 + ht ∧ U.y0 + ht ≤ U.y1 := by omega
      have hPL : pixL g U = madeL g U.x0 U.y0 wd ht := by unfold pixL; rw [hwd, hht, Int.toNat_natCast, Int.toNat_natCast]
      have HPL := Lib.hid hPL
      have hwl : wd ≤ 8192 := by omega
      have hhl : ht ≤ 8192 := by omega
      clear hwd hht hPL
      go_wp2_with fail
      clear kcU4 kfU4 kaU4 kgU4
      go_loopw [8] (fun i wr => ∃ (j : Nat) (v : Value), j ≤ ht ∧ i = .int .i64 (U.y0 + j) ∧ Bk wr (w.heap.size) 29 #[.int .i64 a.r.x0, .int .i64 a.r.y0, .int .i64 a.r.x1, .int .i64 a.r.y1, .slice a.A a.n a.c] ∧ Bk wr (w.heap.size + 1) 29 #[.int .i64 b.r.x0, .int .i64 b.r.y0, .int .i64 b.r.x1, .int .i64 b.r.y1, .slice b.A b.n b.c] ∧ Bk wr (w.heap.size + 1 + 1) 29 #[.int .i64 0, .int .i64 0, .int .i64 0, .int .i64 0, .slice none 0 0] ∧ Bk wr (w3.heap.size) 26 #[.int .i64 U.x0, .int .i64 U.y0, .int .i64 U.x1, .int .i64 U.y1] ∧ Bk wr (w4.heap.size) 29 #[.int .i64 U.x0, .int .i64 U.y0, .int .i64 U.x1, .int .i64 U.y1, v] ∧ OwnL encB 5 1 wr (w4.heap.size) v (madeL g U.x0 U.y0 wd j) ∧ Below w.heap.size w wr) (fun i _ => (U.y1 - intOf i).toNat)
      case atStart => exact ⟨0, _, Nat.zero_le _, by simp, kC4.alloc _, kD4.alloc _, kO4.alloc _, kU4.alloc _, Bk.new _ _ _ rfl, OwnL.nil _ _, (by repeat (first | (with_reducible exact Below.refl _ _) | (with_reducible refine balloc ?_ _) | (with_reducible refine Below.drew ?_) | (with_reducible refine bdrewN ?_ _) | ((with_reducible refine bset ?_ ?_ _); rotate_left; focus (first | (with_reducible exact Nat.le_refl _) | (simp; done) | (simp; omega) | omega)) | (with_reducible refine bstep (by with_reducible assumption) ?_)))⟩
      case round =>
        obtain ⟨j, v, hj, rfl, jC, jD, jO, jU, jB, ho, hbw⟩ := hrel
        obtain ⟨kcC, kfC, kaC, kgC, klC⟩ := jC.rules
        obtain ⟨kcD, kfD, kaD, kgD, klD⟩ := jD.rules
        obtain ⟨kcO, kfO, kaO, kgO, klO⟩ := jO.rules
        obtain ⟨kcU, kfU, kaU, kgU, klU⟩ := jU.rules
        obtain ⟨kcB, kfB, kaB, kgB, klB⟩ := jB.rules
        by_cases hlt : U.y0 + j < U.y1
        · go_wp2_with fail
          clear kcC kfC kaC kgC kcD kfD kaD kgD kcO kfO kaO kgO kcU kfU kaU kgU kcB kfB kaB kgB
          go_loopw [9] (fun i wr => ∃ (k : Nat) (u : Value), k ≤ wd ∧ i = .int .i64 (U.x0 + k) ∧ Bk wr (w.heap.size) 29 #[.int .i64 a.r.x0, .int .i64 a.r.y0, .int .i64 a.r.x1, .int .i64 a.r.y1, .slice a.A a.n a.c] ∧ Bk wr (w.heap.size + 1) 29 #[.int .i64 b.r.x0, .int .i64 b.r.y0, .int .i64 b.r.x1, .int .i64 b.r.y1, .slice b.A b.n b.c] ∧ Bk wr (w.heap.size + 1 + 1) 29 #[.int .i64 0, .int .i64 0, .int .i64 0, .int .i64 0, .slice none 0 0] ∧ Bk wr (w3.heap.size) 26 #[.int .i64 U.x0, .int .i64 U.y0, .int .i64 U.x1, .int .i64 U.y1] ∧ Bk wr (w4.heap.size) 29 #[.int .i64 U.x0, .int .i64 U.y0, .int .i64 U.x1, .int .i64 U.y1, u] ∧ OwnL encB 5 1 wr (w4.heap.size) u (madeL g U.x0 U.y0 wd j ++ rowL g U.x0 (U.y0 + j) k) ∧ Below w.heap.size w wr) (fun i _ => (U.x1 - intOf i).toNat)
          case atStart => exact ⟨0, v, Nat.zero_le _, by simp, jC, jD, jO, jU, jB, by simpa [rowL] using ho, hbw⟩
          case round =>
            obtain ⟨k, u, hk, rfl, q0C, q0D, q0O, q0U, q0B, qu0, qB0⟩ := hrel
            obtain ⟨kcC, kfC, kaC, kgC, klC⟩ := q0C.rules
            obtain ⟨kcD, kfD, kaD, kgD, klD⟩ := q0D.rules
            obtain ⟨kcO, kfO, kaO, kgO, klO⟩ := q0O.rules
            obtain ⟨kcU, kfU, kaU, kgU, klU⟩ := q0U.rules
            obtain ⟨kcB, kfB, kaB, kgB, klB⟩ := q0B.rules
            by_cases hlx : U.x0 + k < U.x1
            · obtain ⟨p, Hp⟩ : ∃ p, Hid (g (U.x0 + k) (U.y0 + j) = p) := ⟨_, rfl⟩
              have hlen : (madeL g U.x0 U.y0 wd j ++ rowL g U.x0 (U.y0 + j) k).length ≤ 4294967296 := by
                rw [List.length_append, madeL_len, rowL_len]
                have : j * wd ≤ 8192 * 8192 := Nat.mul_le_mul (by omega) hwl
                omega
              obtain ⟨pu, Hpu⟩ : ∃ p, Hid (atL 0 a.r a.l (U.x0 + k) (U.y0 + j) = p) := ⟨_, rfl⟩
              obtain ⟨pv, Hpv⟩ : ∃ p, Hid (atL 0 b.r b.l (U.x0 + k) (U.y0 + j) = p) := ⟨_, rfl⟩
              have bu := atL_byte (r := a.r) HA.out.byte (U.x0 + k) (U.y0 + j)
              have bv := atL_byte (r := b.r) HB.out.byte (U.x0 + k) (U.y0 + j)
              rw [Hpu.out] at bu
              rw [Hpv.out] at bv
              have hp := Hp.out
              rw [← Hg.out] at hp
              unfold unG uvP at hp
              rw [Hpu.out, Hpv.out] at hp
              have hbd := uv_bd bu.1 bu.2 bv.1 bv.2
              unfold uvP at hbd
              have hm := mn8_bd bu.1 bu.2 bv.1 bv.2
              have HM := Lib.hid (fun w => rmn8_any pu pv w bu.1 bu.2 bv.1 bv.2)
              generalize mn8 pu pv = m at *
              have ZA : IntKind.i64.wrap pu = pu := IntWalk.i64_in _ (by omega)
              have ZB : IntKind.i64.wrap pv = pv := IntWalk.i64_in _ (by omega)
              have ZM : IntKind.i64.wrap m = m := IntWalk.i64_in _ (by omega)
              have W1 : IntKind.i64.wrap (pu + pv) = pu + pv := IntWalk.i64_in _ (by omega)
              have W2 : IntKind.i64.wrap (pu + pv - m) = pu + pv - m := IntWalk.i64_in _ (by omega)
              have W3 : IntKind.u8.wrap (pu + pv - m) = p := by rw [← hp]; exact IntWalk.u8_in _ (by omega)
              have HP := Lib.hid hp
              clear hp
              go_wp2_with fail
              clear kcC kfC kaC kgC kcD kfD kaD kgD kcO kfO kaO kgO kcU kfU kaU kgU kcB kfB kaB kgB
              have q1C := q0C.drew
              have q1D := q0D.drew
              have q1O := q0O.drew
              have q1U := q0U.drew
              have q1B := q0B.drew
              have qu1 := qu0.drew
              have qB1 := qB0.drew
              refine wp_region_go 10 [(0, true), (1, true), (2, true), (4, true), (5, true), (6, true), (3, false), (7, false), (8, true), (9, true)] (fun w' => Bk w' (w.heap.size) 29 #[.int .i64 a.r.x0, .int .i64 a.r.y0, .int .i64 a.r.x1, .int .i64 a.r.y1, .slice a.A a.n a.c] ∧ Bk w' (w.heap.size + 1) 29 #[.int .i64 b.r.x0, .int .i64 b.r.y0, .int .i64 b.r.x1, .int .i64 b.r.y1, .slice b.A b.n b.c] ∧ Bk w' (w.heap.size + 1 + 1) 29 #[.int .i64 0, .int .i64 0, .int .i64 0, .int .i64 0, .slice none 0 0] ∧ Bk w' (w3.heap.size) 26 #[.int .i64 U.x0, .int .i64 U.y0, .int .i64 U.x1, .int .i64 U.y1] ∧ Bk w' (w4.heap.size) 29 #[.int .i64 U.x0, .int .i64 U.y0, .int .i64 U.x1, .int .i64 U.y1, u] ∧ Below w.heap.size w w') (by kernel_rfl) (by kernel_rfl) (fun c a d v w h => by cases d <;> exact h) ⟨q1C, q1D, q1O, q1U, q1B, qB1⟩ ?_
              repeat (first | (refine wpGo_pure (v := ?_) rfl rfl (fun w' hS => ?_) ?_; rotate_left; (· obtain ⟨kc0, kf0, ka0, kg0, kl0⟩ := Bk.rules hS.1; obtain ⟨kc1, kf1, ka1, kg1, kl1⟩ := Bk.rules hS.2.1; obtain ⟨kc2, kf2, ka2, kg2, kl2⟩ := Bk.rules hS.2.2.1; obtain ⟨kc3, kf3, ka3, kg3, kl3⟩ := Bk.rules hS.2.2.2.1; obtain ⟨kc4, kf4, ka4, kg4, kl4⟩ := Bk.rules hS.2.2.2.2.1; have hSB := hS.2.2.2.2.2; go_simp; exact rfl); (try simp only [Act.put, List.setIfInBounds_toArray, List.set_cons_zero, List.set_cons_succ])) | ((refine wpGo_skip rfl rfl ?_); (try simp only [Act.put, List.setIfInBounds_toArray, List.set_cons_zero, List.set_cons_succ])))
              refine wpGo_eff rfl (fun K hK => ?_)
              go_simp
              refine (mva_any a.r a.A a.n a.c a.l _ _ _ (HA.out.rd.below qB1) HA.out.ln hna Hna.out pu Hpu).mono ?_
              rintro e w11 ⟨rfl, hb11⟩
              have q2C := q1C.below hb11
              have q2D := q1D.below hb11
              have q2O := q1O.below hb11
              have q2U := q1U.below hb11
              have q2B := q1B.below hb11
              have qu2 := qu1.below hb11
              have qB2 := bstep hb11 qB1
              refine hK.out _ _ ⟨q2C, q2D, q2O, q2U, q2B, qB2⟩ (fun _ => ?_)
              clear hK K
              refine wpGo_eff rfl (fun K hK => ?_)
              go_simp
              refine (mva_any b.r b.A b.n b.c b.l _ _ _ (HB.out.rd.below qB2) HB.out.ln hnb Hnb.out pv Hpv).mono ?_
              rintro e w12 ⟨rfl, hb12⟩
              have q3C := q2C.below hb12
              have q3D := q2D.below hb12
              have q3O := q2O.below hb12
              have q3U := q2U.below hb12
              have q3B := q2B.below hb12
              have qu3 := qu2.below hb12
              have qB3 := bstep hb12 qB2
              refine hK.out _ _ ⟨q3C, q3D, q3O, q3U, q3B, qB3⟩ (fun _ => ?_)
              clear hK K
              repeat (first | (refine wpGo_pure (v := ?_) rfl rfl (fun w' hS => ?_) ?_; rotate_left; (· obtain ⟨kc0, kf0, ka0, kg0, kl0⟩ := Bk.rules hS.1; obtain ⟨kc1, kf1, ka1, kg1, kl1⟩ := Bk.rules hS.2.1; obtain ⟨kc2, kf2, ka2, kg2, kl2⟩ := Bk.rules hS.2.2.1; obtain ⟨kc3, kf3, ka3, kg3, kl3⟩ := Bk.rules hS.2.2.2.1; obtain ⟨kc4, kf4, ka4, kg4, kl4⟩ := Bk.rules hS.2.2.2.2.1; have hSB := hS.2.2.2.2.2; go_simp; exact rfl); (try simp only [Act.put, List.setIfInBounds_toArray, List.set_cons_zero, List.set_cons_succ])) | ((refine wpGo_skip rfl rfl ?_); (try simp only [Act.put, List.setIfInBounds_toArray, List.set_cons_zero, List.set_cons_succ])))
              refine wpGo_nil ?_
              simp only [List.drop_succ_cons, List.drop_zero]
              go_wp2_with fail
              have q4C := q3C.drew
              have q4D := q3D.drew
              have q4O := q3O.drew
              have q4U := q3U.drew
              have q4B := q3B.drew
              have qu4 := qu3.drew
              have qB4 := qB3.drew
              refine wp_region_go 16 [(0, true), (1, true), (2, true), (3, true), (4, true), (5, true), (6, true), (7, true), (8, true), (9, false), (10, true), (11, true), (12, true), (13, false), (14, false), (15, true)] (fun w' => Bk w' (w.heap.size) 29 #[.int .i64 a.r.x0, .int .i64 a.r.y0, .int .i64 a.r.x1, .int .i64 a.r.y1, .slice a.A a.n a.c] ∧ Bk w' (w.heap.size + 1) 29 #[.int .i64 b.r.x0, .int .i64 b.r.y0, .int .i64 b.r.x1, .int .i64 b.r.y1, .slice b.A b.n b.c] ∧ Bk w' (w.heap.size + 1 + 1) 29 #[.int .i64 0, .int .i64 0, .int .i64 0, .int .i64 0, .slice none 0 0] ∧ Bk w' (w3.heap.size) 26 #[.int .i64 U.x0, .int .i64 U.y0, .int .i64 U.x1, .int .i64 U.y1] ∧ Bk w' (w4.heap.size) 29 #[.int .i64 U.x0, .int .i64 U.y0, .int .i64 U.x1, .int .i64 U.y1, u] ∧ Below w.heap.size w w') (by kernel_rfl) (by kernel_rfl) (fun c a d v w h => by cases d <;> exact h) ⟨q4C, q4D, q4O, q4U, q4B, qB4⟩ ?_
              repeat (first | (refine wpGo_pure (v := ?_) rfl rfl (fun w' hS => ?_) ?_; rotate_left; (· obtain ⟨kc0, kf0, ka0, kg0, kl0⟩ := Bk.rules hS.1; obtain ⟨kc1, kf1, ka1, kg1, kl1⟩ := Bk.rules hS.2.1; obtain ⟨kc2, kf2, ka2, kg2, kl2⟩ := Bk.rules hS.2.2.1; obtain ⟨kc3, kf3, ka3, kg3, kl3⟩ := Bk.rules hS.2.2.2.1; obtain ⟨kc4, kf4, ka4, kg4, kl4⟩ := Bk.rules hS.2.2.2.2.1; have hSB := hS.2.2.2.2.2; go_simp; exact rfl); (try simp only [Act.put, List.setIfInBounds_toArray, List.set_cons_zero, List.set_cons_succ])) | ((refine wpGo_skip rfl rfl ?_); (try simp only [Act.put, List.setIfInBounds_toArray, List.set_cons_zero, List.set_cons_succ])))
              refine wpGo_eff rfl (fun K hK => ?_)
              go_simp
              refine (HM.out _).mono ?_
              rintro e w13 ⟨rfl, hb13⟩
              have q5C := q4C.below hb13
              have q5D := q4D.below hb13
              have q5O := q4O.below hb13
              have q5U := q4U.below hb13
              have q5B := q4B.below hb13
              have qu5 := qu4.below hb13
              have qB5 := bstep hb13 qB4
              refine hK.out _ _ ⟨q5C, q5D, q5O, q5U, q5B, qB5⟩ (fun _ => ?_)
              clear hK K
              repeat (first | (refine wpGo_pure (v := ?_) rfl rfl (fun w' hS => ?_) ?_; rotate_left; (· obtain ⟨kc0, kf0, ka0, kg0, kl0⟩ := Bk.rules hS.1; obtain ⟨kc1, kf1, ka1, kg1, kl1⟩ := Bk.rules hS.2.1; obtain ⟨kc2, kf2, ka2, kg2, kl2⟩ := Bk.rules hS.2.2.1; obtain ⟨kc3, kf3, ka3, kg3, kl3⟩ := Bk.rules hS.2.2.2.1; obtain ⟨kc4, kf4, ka4, kg4, kl4⟩ := Bk.rules hS.2.2.2.2.1; have hSB := hS.2.2.2.2.2; go_simp; exact rfl); (try simp only [Act.put, List.setIfInBounds_toArray, List.set_cons_zero, List.set_cons_succ])) | ((refine wpGo_skip rfl rfl ?_); (try simp only [Act.put, List.setIfInBounds_toArray, List.set_cons_zero, List.set_cons_succ])))
              refine wpGo_eff rfl (fun K hK => ?_)
              go_simp
              have q6C := q5C.alloc (.cells #[.int .u8 p] 5)
              have q6D := q5D.alloc (.cells #[.int .u8 p] 5)
              have q6O := q5O.alloc (.cells #[.int .u8 p] 5)
              have q6U := q5U.alloc (.cells #[.int .u8 p] 5)
              have q6B := q5B.alloc (.cells #[.int .u8 p] 5)
              have qu6 := qu5.alloc (.cells #[.int .u8 p] 5)
              have qB6 := balloc qB5 (.cells #[.int .u8 p] 5)
              refine hK.out _ _ ⟨q6C, q6D, q6O, q6U, q6B, qB6⟩ (fun _ => ?_)
              clear hK K
              have hsz := qB6.size
              refine wpGo_effp rfl (fun K hK => ?_)
              refine wp_append_one encB_len encB_one 27 Try.infoU8 rfl (by decide) (by decide) Try.underlying27 _ _ rfl (w4.heap.size) u _ rfl qu6 w13.heap.size p rfl (Bk.new _ _ _ (by first | rfl | simp)) rfl hlen (by first | (simp at hsz ⊢; omega) | (have h1 := q6B.lt; simp at hsz h1 ⊢; omega) | (have h1 := q6B.lt; simp at hsz ⊢; omega)) ?_
              intro v5 w5 ho5 hg5 hv5
              have q7C := q6C.grown hg5 (qu6.neBk q6C (by decide))
              have q7D := q6D.grown hg5 (qu6.neBk q6D (by decide))
              have q7O := q6O.grown hg5 (qu6.neBk q6O (by decide))
              have q7U := q6U.grown hg5 (qu6.neBk q6U (by decide))
              have q7B := q6B.grown hg5 (qu6.neBk q6B (by decide))
              have qu7 := ho5
              have qB7 := below_grown qu6 hg5 qB6 (by first | exact Nat.le_refl _ | omega)
              obtain ⟨g5, c5, hv5, _⟩ := hv5
              refine hK.out _ _ ⟨q7C, q7D, q7O, q7U, q7B, qB7⟩ (fun _ => ?_)
              clear hK K
              simp only [Act.put, List.setIfInBounds_toArray, List.set_cons_zero, List.set_cons_succ]
              repeat (first | (refine wpGo_pure (v := ?_) rfl rfl (fun w' hS => ?_) ?_; rotate_left; (· obtain ⟨kc0, kf0, ka0, kg0, kl0⟩ := Bk.rules hS.1; obtain ⟨kc1, kf1, ka1, kg1, kl1⟩ := Bk.rules hS.2.1; obtain ⟨kc2, kf2, ka2, kg2, kl2⟩ := Bk.rules hS.2.2.1; obtain ⟨kc3, kf3, ka3, kg3, kl3⟩ := Bk.rules hS.2.2.2.1; obtain ⟨kc4, kf4, ka4, kg4, kl4⟩ := Bk.rules hS.2.2.2.2.1; have hSB := hS.2.2.2.2.2; go_simp; exact rfl); (try simp only [Act.put, List.setIfInBounds_toArray, List.set_cons_zero, List.set_cons_succ])) | ((refine wpGo_skip rfl rfl ?_); (try simp only [Act.put, List.setIfInBounds_toArray, List.set_cons_zero, List.set_cons_succ])))
              refine wpGo_nil ?_
              simp only [List.drop_succ_cons, List.drop_zero]
              clear ZA ZB ZM W1 W2 W3 HP
              have HL : Hid (madeL g U.x0 U.y0 wd j ++ rowL g U.x0 (U.y0 + j) k ++ [p] = madeL g U.x0 U.y0 wd j ++ rowL g U.x0 (U.y0 + j) (k + 1)) := by
                unfold Hid; rw [rowL_succ, Hp.out, List.append_assoc]
              rw [HL.out] at qu7
              obtain ⟨kc5, kf5, ka5, kg5, kl5⟩ := q7B.rules
              have mB : Bk _ (w4.heap.size) 29 #[.int .i64 U.x0, .int .i64 U.y0, .int .i64 U.x1, .int .i64 U.y1, v5] := q7B.set 4 v5
              have mC := q7C.far (p := ⟨w4.heap.size, 4, none⟩) (show w.heap.size ≠ w4.heap.size by omega) v5
              have mD := q7D.far (p := ⟨w4.heap.size, 4, none⟩) (show w.heap.size + 1 ≠ w4.heap.size by omega) v5
              have mO := q7O.far (p := ⟨w4.heap.size, 4, none⟩) (show w.heap.size + 1 + 1 ≠ w4.heap.size by omega) v5
              have mU := q7U.far (p := ⟨w4.heap.size, 4, none⟩) (show w3.heap.size ≠ w4.heap.size by omega) v5
              have ho6 := qu7.setFar q7B (by decide) 4 v5
              have hB6 := bset qB7 (p := ⟨w4.heap.size, 4, none⟩) (show w.heap.size ≤ w4.heap.size by omega) v5
              clear HL q1C q1D q1O q1U q1B q2C q2D q2O q2U q2B q3C q3D q3O q3U q3B q4C q4D q4O q4U q4B q5C q5D q5O q5U q5B q6C q6D q6O q6U q6B q7C q7D q7O q7U q7B qu1 qu2 qu3 qu4 qu5 qu6 qB1 qB2 qB3 qB4 qB5 qB6 qB7
              generalize (madeL g U.x0 U.y0 wd j ++ rowL g U.x0 (U.y0 + (j : Int)) k).length + 1 = n5 at hv5
              subst hv5
              go_wp2
              go_roundw
              case rel => exact ⟨k + 1, _, by omega, by rw [show U.x0 + (k : Int) + 1 = U.x0 + ((k + 1 : Nat) : Int) by omega], mC, mD, mO, mU, mB, ho6, hB6⟩
              case measure => simp [intOf]; omega
            · obtain rfl : k = wd := by omega
              have hu' : OwnL encB 5 1 wr (w4.heap.size) u (madeL g U.x0 U.y0 k (j + 1)) := by rw [madeL_succ]; exact qu0
              go_wp2
              go_roundw
              case rel => exact ⟨j + 1, u, by omega, by rw [show U.y0 + (j : Int) + 1 = U.y0 + ((j + 1 : Nat) : Int) by omega], q0C, q0D, q0O, q0U, q0B, hu', qB0⟩
              case measure => simp [intOf]; omega
        · obtain rfl : j = ht := by omega
          have ho := ho.mono (show w.heap.size ≤ w4.heap.size by omega)
          obtain ⟨kc', kf', ka', kg', kl'⟩ := jO.rules
          obtain ⟨A0, c0', hv0, _, _⟩ := ho.form encB_len
          generalize (madeL g U.x0 U.y0 wd j).length = n0 at hv0
          subst hv0
          have o1 := ho.setFar jO (by decide) 0 (.int .i64 U.x0)
          have m1 := jO.set 0 (.int .i64 U.x0)
          have o2 := o1.setFar m1 (by decide) 1 (.int .i64 U.y0)
          have m2 := m1.set 1 (.int .i64 U.y0)
          have o3 := o2.setFar m2 (by decide) 2 (.int .i64 U.x1)
          have m3 := m2.set 2 (.int .i64 U.x1)
          have o4 := o3.setFar m3 (by decide) 3 (.int .i64 U.y1)
          have m4 := m3.set 3 (.int .i64 U.y1)
          have o5 := o4.setFar m4 (by decide) 4 (.slice A0 n0 c0')
          clear o1 o2 o3 o4 m1 m2 m3 m4
          rw [← HPL.out] at o5
          go_wp2
          refine bodyPost_ret (v := _) ?_ rfl ⟨_, rfl, o5, (by repeat (first | (with_reducible exact Below.refl _ _) | (with_reducible refine balloc ?_ _) | (with_reducible refine Below.drew ?_) | (with_reducible refine bdrewN ?_ _) | ((with_reducible refine bset ?_ ?_ _); rotate_left; focus (first | (with_reducible exact Nat.le_refl _) | (simp; done) | (simp; omega) | omega)) | (with_reducible refine bstep (by with_reducible assumption) ?_)))⟩
          simp [results, Try.results24, go_sem, kc']
end Go.Proofs.Ytndablijjkchjaa
