/-
  The walk of grisailleref21.Multiply.
-/
import Derived.Test.YtndablijjkchjaaMk6
namespace Go.Proofs.Ytndablijjkchjaa
open Go.RowKit
set_option linter.unusedSimpArgs false
set_option linter.unusedVariables false

set_option maxHeartbeats 8000000 in
theorem rmmul_any (A : Option Addr) (n c : Nat) (l : List Mk) (w : World) (hr : RdL encMk 5 w A l) (hn : l.length = n) (hn2 : n ≤ 4000000000) (hnc : n ≤ c) (hcm : c ≤ maxLen) (ho : ∀ b ∈ l, b.ok w) (hs : ∀ b ∈ l, b.n ≤ 4000000000) :
    Calls Try.prog 18 #[.slice A n c] w (RetME (mulR l) (mulL l) (mulE l) w) := by
  have HR := Lib.hid hr
  have Hn := Lib.hid hn
  have HO := Lib.hid ho
  have HSZ := Lib.hid hs
  clear hr hn ho hs
  cases hv : l.all vMk with
  | false =>
    have Hv := Lib.hid hv
    have e1 : mulR l = ⟨0, 0, 0, 0⟩ := by unfold mulR; rw [hv]; rfl
    have e2 : mulL l = [] := by unfold mulL; rw [hv]; rfl
    have e3 : mulE l = 14 := by unfold mulE; rw [hv]; rfl
    rw [e1, e2, e3]
    clear e1 e2 e3 hv

    go_enter Try.func18, Try.ntmps18
    go_wp2_with fail
    refine (rmall_any A n c l _ (HR.out.below (by repeat (first | (with_reducible exact Below.refl _ _) | (with_reducible refine balloc ?_ _) | (with_reducible refine Below.drew ?_) | (with_reducible refine bdrewN ?_ _) | ((with_reducible refine bset ?_ ?_ _); rotate_left; focus (first | (with_reducible exact Nat.le_refl _) | (simp; done) | (simp; omega) | omega)) | (with_reducible refine bstep (by with_reducible assumption) ?_)))) Hn.out hn2 (fun x hx => (HO.out x hx).below (by repeat (first | (with_reducible exact Below.refl _ _) | (with_reducible refine balloc ?_ _) | (with_reducible refine Below.drew ?_) | (with_reducible refine bdrewN ?_ _) | ((with_reducible refine bset ?_ ?_ _); rotate_left; focus (first | (with_reducible exact Nat.le_refl _) | (simp; done) | (simp; omega) | omega)) | (with_reducible refine bstep (by with_reducible assumption) ?_)))) HSZ.out false Hv).mono ?_
    rintro e w1 ⟨rfl, hb1⟩
    have kO1 : Bk w1 (w.heap.size) 29 #[.int .i64 0, .int .i64 0, .int .i64 0, .int .i64 0, .slice none 0 0] := (by repeat (first | (with_reducible assumption) | ((with_reducible refine Bk.new _ _ _ ?_); first | (with_reducible rfl) | (simp; done)) | (with_reducible refine Bk.alloc ?_ _) | (with_reducible refine Bk.drew ?_) | (with_reducible refine Bk.drewN ?_ _) | ((with_reducible refine Bk.far ?_ ?_ _); rotate_left; focus (first | (simp; done) | (simp; omega))) | (with_reducible refine Bk.below ?_ (by with_reducible assumption)))); obtain ⟨kcO1, kfO1, kaO1, kgO1, klO1⟩ := kO1.rules
    go_wp2
    refine bodyPost_ret (v := _) ?_ rfl (RetME.no 14 (by repeat (first | (with_reducible exact Below.refl _ _) | (with_reducible refine balloc ?_ _) | (with_reducible refine Below.drew ?_) | (with_reducible refine bdrewN ?_ _) | ((with_reducible refine bset ?_ ?_ _); rotate_left; focus (first | (with_reducible exact Nat.le_refl _) | (simp; done) | (simp; omega) | omega)) | (with_reducible refine bstep (by with_reducible assumption) ?_))))
    simp [results, Try.results18, go_sem, kcO1]
  | true =>
    have Hv := Lib.hid hv
    have e3 : mulE l = 0 := by unfold mulE; rw [hv]; rfl
    have e4 : mulR l = mulR0 l := by unfold mulR; rw [hv]; rfl
    have e5 : mulL l = pixL (mulG l) (mulR0 l) := by unfold mulL; rw [hv]; rfl
    have HC0 := Lib.hid (mulR0_cn hv)
    rw [e3, e4, e5]
    clear e3 e4 e5 hv
    cases l with
    | nil =>
      obtain rfl : 0 = n := Hn.out
      have e6 : pixL (mulG []) (mulR0 []) = [] := rfl
      have e7 : mulR0 [] = ⟨0, 0, 0, 0⟩ := rfl
      rw [e6, e7]
      clear e6 e7
      go_enter Try.func18, Try.ntmps18
      go_wp2_with fail
      refine (rmall_any A 0 c [] _ (HR.out.below (by repeat (first | (with_reducible exact Below.refl _ _) | (with_reducible refine balloc ?_ _) | (with_reducible refine Below.drew ?_) | (with_reducible refine bdrewN ?_ _) | ((with_reducible refine bset ?_ ?_ _); rotate_left; focus (first | (with_reducible exact Nat.le_refl _) | (simp; done) | (simp; omega) | omega)) | (with_reducible refine bstep (by with_reducible assumption) ?_)))) Hn.out hn2 (fun x hx => (HO.out x hx).below (by repeat (first | (with_reducible exact Below.refl _ _) | (with_reducible refine balloc ?_ _) | (with_reducible refine Below.drew ?_) | (with_reducible refine bdrewN ?_ _) | ((with_reducible refine bset ?_ ?_ _); rotate_left; focus (first | (with_reducible exact Nat.le_refl _) | (simp; done) | (simp; omega) | omega)) | (with_reducible refine bstep (by with_reducible assumption) ?_)))) HSZ.out true Hv).mono ?_
      rintro e w1 ⟨rfl, hb1⟩
      have kO1 : Bk w1 (w.heap.size) 29 #[.int .i64 0, .int .i64 0, .int .i64 0, .int .i64 0, .slice none 0 0] := (by repeat (first | (with_reducible assumption) | ((with_reducible refine Bk.new _ _ _ ?_); first | (with_reducible rfl) | (simp; done)) | (with_reducible refine Bk.alloc ?_ _) | (with_reducible refine Bk.drew ?_) | (with_reducible refine Bk.drewN ?_ _) | ((with_reducible refine Bk.far ?_ ?_ _); rotate_left; focus (first | (simp; done) | (simp; omega))) | (with_reducible refine Bk.below ?_ (by with_reducible assumption)))); obtain ⟨kcO1, kfO1, kaO1, kgO1, klO1⟩ := kO1.rules
      go_wp2
      refine bodyPost_ret (v := _) ?_ rfl (RetME.no 0 (by repeat (first | (with_reducible exact Below.refl _ _) | (with_reducible refine balloc ?_ _) | (with_reducible refine Below.drew ?_) | (with_reducible refine bdrewN ?_ _) | ((with_reducible refine bset ?_ ?_ _); rotate_left; focus (first | (with_reducible exact Nat.le_refl _) | (simp; done) | (simp; omega) | omega)) | (with_reducible refine bstep (by with_reducible assumption) ?_))))
      simp [results, Try.results18, go_sem, kcO1]
    | cons a t =>
      have hal : 0 < (a :: t).length := by simp
      have hn1 : 1 ≤ n := by have h := Hn.out; simp at h; omega
      have hne : ((n : Int) == 0) = false := by simp; omega
      have i0n : (0 : Int) < (n : Int) := by omega
      have HVV : Hid (∀ b ∈ a :: t, vMk b = true) := fun b hb => List.all_eq_true.1 Hv.out b hb
      obtain ⟨q, Hq⟩ : ∃ q, Hid (mulR0 (a :: t) = q) := ⟨_, rfl⟩
      rw [Hq.out] at HC0 ⊢
      obtain ⟨g, Hg⟩ : ∃ g, Hid (mulG (a :: t) = g) := ⟨_, rfl⟩
      rw [Hg.out]
      have HNA : Hid (∀ b ∈ a :: t, (b.n : Int) = areaR b.r) := fun b hb => by rw [← (HO.out b hb).ln]; exact (mk_cn (HVV.out b hb)).2.1
      go_enter Try.func18, Try.ntmps18
      go_wp2_with fail
      refine (rmall_any A n c (a :: t) _ (HR.out.below (by repeat (first | (with_reducible exact Below.refl _ _) | (with_reducible refine balloc ?_ _) | (with_reducible refine Below.drew ?_) | (with_reducible refine bdrewN ?_ _) | ((with_reducible refine bset ?_ ?_ _); rotate_left; focus (first | (with_reducible exact Nat.le_refl _) | (simp; done) | (simp; omega) | omega)) | (with_reducible refine bstep (by with_reducible assumption) ?_)))) Hn.out hn2 (fun x hx => (HO.out x hx).below (by repeat (first | (with_reducible exact Below.refl _ _) | (with_reducible refine balloc ?_ _) | (with_reducible refine Below.drew ?_) | (with_reducible refine bdrewN ?_ _) | ((with_reducible refine bset ?_ ?_ _); rotate_left; focus (first | (with_reducible exact Nat.le_refl _) | (simp; done) | (simp; omega) | omega)) | (with_reducible refine bstep (by with_reducible assumption) ?_)))) HSZ.out true Hv).mono ?_
      rintro e w1 ⟨rfl, hb1⟩
      have kO1 : Bk w1 (w.heap.size) 29 #[.int .i64 0, .int .i64 0, .int .i64 0, .int .i64 0, .slice none 0 0] := (by repeat (first | (with_reducible assumption) | ((with_reducible refine Bk.new _ _ _ ?_); first | (with_reducible rfl) | (simp; done)) | (with_reducible refine Bk.alloc ?_ _) | (with_reducible refine Bk.drew ?_) | (with_reducible refine Bk.drewN ?_ _) | ((with_reducible refine Bk.far ?_ ?_ _); rotate_left; focus (first | (simp; done) | (simp; omega))) | (with_reducible refine Bk.below ?_ (by with_reducible assumption)))); obtain ⟨kcO1, kfO1, kaO1, kgO1, klO1⟩ := kO1.rules
      have hB1 : Below w.heap.size w w1 := (by repeat (first | (with_reducible exact Below.refl _ _) | (with_reducible refine balloc ?_ _) | (with_reducible refine Below.drew ?_) | (with_reducible refine bdrewN ?_ _) | ((with_reducible refine bset ?_ ?_ _); rotate_left; focus (first | (with_reducible exact Nat.le_refl _) | (simp; done) | (simp; omega) | omega)) | (with_reducible refine bstep (by with_reducible assumption) ?_)))
      obtain ⟨gb, ob, rfl, hg, c0', c1', c2', c3', c4'⟩ := rdk (HR.out.below hB1) hal
      have c0z : w1.cell? ⟨gb, ob, none⟩ = some (.int .i64 a.r.x0) := by simpa using c0'
      have c1z : w1.cell? ⟨gb, ob + 1, none⟩ = some (.int .i64 a.r.y0) := by simpa using c1'
      have c2z : w1.cell? ⟨gb, ob + 2, none⟩ = some (.int .i64 a.r.x1) := by simpa using c2'
      have c3z : w1.cell? ⟨gb, ob + 3, none⟩ = some (.int .i64 a.r.y1) := by simpa using c3'
      clear c0' c1' c2' c3' c4' hal
      have sz1 := kO1.lt
      go_wp2_with fail
      clear c0z c1z c2z c3z hne kcO1 kfO1 kaO1 kgO1
      go_loopw [5] (fun i wr => ∃ (k : Nat) (bx : Rc), k ≤ t.length ∧ i = .int .i64 ((k : Int) + 1) ∧ Bk wr (w.heap.size) 29 #[.int .i64 0, .int .i64 0, .int .i64 0, .int .i64 0, .slice none 0 0] ∧ Bk wr w1.heap.size 26 #[.int .i64 bx.x0, .int .i64 bx.y0, .int .i64 bx.x1, .int .i64 bx.y1] ∧ Hid (foldR (t.take k) a.r = bx) ∧ Below w.heap.size w wr) (fun i _ => n - (intOf i).toNat)
      case atStart => exact ⟨0, a.r, Nat.zero_le _, rfl, kO1.alloc _, Bk.new _ _ _ rfl, by unfold Hid; simp [foldR], (by repeat (first | (with_reducible exact Below.refl _ _) | (with_reducible refine balloc ?_ _) | (with_reducible refine Below.drew ?_) | (with_reducible refine bdrewN ?_ _) | ((with_reducible refine bset ?_ ?_ _); rotate_left; focus (first | (with_reducible exact Nat.le_refl _) | (simp; done) | (simp; omega) | omega)) | (with_reducible refine bstep (by with_reducible assumption) ?_)))⟩
      case round =>
        obtain ⟨k, bx, hk, rfl, jO, jR, HX, hbw⟩ := hrel
        obtain ⟨kcR, kfR, kaR, kgR, klR⟩ := jR.rules
        have hnt : t.length + 1 ≤ n ∧ n ≤ t.length + 1 := by have h := Hn.out; simp at h; omega
        by_cases hlt : k < t.length
        · have hkl : k + 1 < (a :: t).length := by simp; exact hlt
          obtain ⟨gb', ob', hA', hg', d0, d1, d2, d3, d4⟩ := rdk (HR.out.below hbw) hkl
          obtain ⟨rfl, rfl⟩ : gb = gb' ∧ ob = ob' := by injection hA' with h; injection h with h1 h2; exact ⟨h1, h2⟩
          obtain ⟨b, Hb⟩ : ∃ b, Hid (t[k] = b) := ⟨t[k], rfl⟩
          have eb : (a :: t)[k + 1] = b := Hb.out
          rw [eb] at d0 d1 d2 d3 d4
          have QA := Lib.hid (And.intro d0 (And.intro d1 (And.intro d2 d3)))
          obtain ⟨b2, Hb2⟩ : ∃ u, Hid (interR ⟨bx.x0, bx.y0, bx.x1, bx.y1⟩ ⟨b.r.x0, b.r.y0, b.r.x1, b.r.y1⟩ = u) := ⟨_, rfl⟩
          have HX' : Hid (foldR (t.take (k + 1)) a.r = b2) := by
            unfold Hid; rw [take_one hlt, foldR_snoc, HX.out, Hb.out]; exact Hb2.out
          have i1 : (k : Int) + 1 < (n : Int) := by omega
          have e1 : ((k : Int) + 1).toNat = k + 1 := by omega
          clear hA' HX eb hkl d0 d1 d2 d3 d4
          go_wp2_with fail
          clear kcR kfR kaR kgR
          refine wp_region_gob 7 [(0, true), (1, true), (2, true), (3, true), (4, true), (5, true), (6, false)] (by kernel_rfl) (by kernel_rfl) (fun c a d v w h => by cases d <;> exact h) ?_
          repeat (refine wpGo_pure (v := ?_) rfl rfl (fun w' hS => ?_) ?_; rotate_left; (· obtain ⟨d0, d1, d2, d3⟩ := QA.out; have q0 := (hS.cell (p := ⟨gb, ob + (k + 1) * 5, none⟩) hg').trans d0; have q1 := (hS.cell (p := ⟨gb, ob + (k + 1) * 5 + 1, none⟩) hg').trans d1; have q2 := (hS.cell (p := ⟨gb, ob + (k + 1) * 5 + 2, none⟩) hg').trans d2; have q3 := (hS.cell (p := ⟨gb, ob + (k + 1) * 5 + 3, none⟩) hg').trans d3; have jRR := jR.below hS; obtain ⟨kcR, kfR, kaR, kgR, klR⟩ := jRR.rules; go_simp; exact rfl); (try simp only [Act.put, List.setIfInBounds_toArray, List.set_cons_zero, List.set_cons_succ]))
          refine wpGo_eff rfl (fun K hK => ?_)
          go_simp
          refine (rinter_q _ _ _ _ _ _ _ _ b2 Hb2 _).mono ?_
          rintro e w2 ⟨rfl, hb2⟩
          refine hK.out _ _ (by repeat (first | (with_reducible exact Below.refl _ _) | (with_reducible refine balloc ?_ _) | (with_reducible refine Below.drew ?_) | (with_reducible refine bdrewN ?_ _) | ((with_reducible refine bset ?_ ?_ _); rotate_left; focus (first | (with_reducible exact Nat.le_refl _) | (simp; done) | (simp; omega) | omega)) | (with_reducible refine bstep (by with_reducible assumption) ?_))) (fun hS2 => ?_)
          clear hK K
          refine wpGo_nil ?_
          simp only [List.drop_succ_cons, List.drop_zero]
          have iO := jO.drew.below hb2
          have iR := jR.drew.below hb2
          have hB2 : Below w.heap.size w w2 := (by repeat (first | (with_reducible exact Below.refl _ _) | (with_reducible refine balloc ?_ _) | (with_reducible refine Below.drew ?_) | (with_reducible refine bdrewN ?_ _) | ((with_reducible refine bset ?_ ?_ _); rotate_left; focus (first | (with_reducible exact Nat.le_refl _) | (simp; done) | (simp; omega) | omega)) | (with_reducible refine bstep (by with_reducible assumption) ?_)))
          have mO : Bk _ (w.heap.size) 29 #[.int .i64 0, .int .i64 0, .int .i64 0, .int .i64 0, .slice none 0 0] := ((((iO.far (p := ⟨w1.heap.size, 0, none⟩) (show (w.heap.size ≠ w1.heap.size) by omega) (.int .i64 b2.x0)).far (p := ⟨w1.heap.size, 1, none⟩) (show (w.heap.size ≠ w1.heap.size) by omega) (.int .i64 b2.y0)).far (p := ⟨w1.heap.size, 2, none⟩) (show (w.heap.size ≠ w1.heap.size) by omega) (.int .i64 b2.x1)).far (p := ⟨w1.heap.size, 3, none⟩) (show (w.heap.size ≠ w1.heap.size) by omega) (.int .i64 b2.y1))
          have mR : Bk _ (w1.heap.size) 26 #[.int .i64 b2.x0, .int .i64 b2.y0, .int .i64 b2.x1, .int .i64 b2.y1] := ((((iR.set 0 (.int .i64 b2.x0)).set 1 (.int .i64 b2.y0)).set 2 (.int .i64 b2.x1)).set 3 (.int .i64 b2.y1))
          have hB3 := (bset (bset (bset (bset hB2 (p := ⟨w1.heap.size, 0, none⟩) (by show _ ≤ w1.heap.size; omega) (.int .i64 b2.x0)) (p := ⟨w1.heap.size, 1, none⟩) (by show _ ≤ w1.heap.size; omega) (.int .i64 b2.y0)) (p := ⟨w1.heap.size, 2, none⟩) (by show _ ≤ w1.heap.size; omega) (.int .i64 b2.x1)) (p := ⟨w1.heap.size, 3, none⟩) (by show _ ≤ w1.heap.size; omega) (.int .i64 b2.y1))
          obtain ⟨kcR, kfR, kaR, kgR, klR2⟩ := iR.rules
          go_wp2
          go_roundw
          case rel => exact ⟨k + 1, b2, by omega, by rw [show (k : Int) + 1 + 1 = ((k + 1 : Nat) : Int) + 1 by omega], mO, mR, HX', hB3⟩
          case measure => simp [intOf]; omega
        · have HE : Hid (bx = q) := by
            unfold Hid
            rw [← HX.out, ← Hq.out, List.take_of_length_le (by omega)]; rfl
          obtain rfl : bx = q := HE.out
          have i1 : ((k : Int) + 1 < (n : Int)) = False := by simp; omega
          clear HX
          have hcb := canon_bd bx
          rw [HC0.out] at hcb
          obtain ⟨wl, HWL⟩ : ∃ x : World, x = wr := ⟨_, rfl⟩
          rw [← HWL] at jO jR hbw kcR kfR kaR kgR klR ⊢
          have HWL' := Lib.hid HWL
          clear HWL
          obtain ⟨⟨bx0, bx1, bx2⟩, ⟨by0, by1, by2⟩⟩ := hcb
          obtain ⟨wd, hwd⟩ : ∃ n : Nat, bx.x1 - bx.x0 = (n : Int) := ⟨(bx.x1 - bx.x0).toNat, by omega⟩
          obtain ⟨ht, hht⟩ : ∃ n : Nat, bx.y1 - bx.y0 = (n : Int) := ⟨(bx.y1 - bx.y0).toNat, by omega⟩
          have hw1 : bx.x1 ≤ bx.x0 + wd ∧ bx.x0 + wd ≤ bx.x1 := by omega
          have hh1 : bx.y1 ≤ bx.y0 + ht ∧ bx.y0 + ht ≤ bx.y1 := by omega
          have hPL : pixL g bx = madeL g bx.x0 bx.y0 wd ht := by unfold pixL; rw [hwd, hht, Int.toNat_natCast, Int.toNat_natCast]
          have HPL := Lib.hid hPL
          have hwl : wd ≤ 8192 := by omega
          have hhl : ht ≤ 8192 := by omega
          clear hwd hht hPL
          go_wp2_with fail
          clear kcR kfR kaR kgR i1
          have hbw0 := hbw
          have hlR := jR.lt
          go_loopw [7] (fun i wr => ∃ (j : Nat) (v : Value), j ≤ ht ∧ i = .int .i64 (bx.y0 + j) ∧ Bk wr (w.heap.size) 29 #[.int .i64 0, .int .i64 0, .int .i64 0, .int .i64 0, .slice none 0 0] ∧ Bk wr (w1.heap.size) 26 #[.int .i64 bx.x0, .int .i64 bx.y0, .int .i64 bx.x1, .int .i64 bx.y1] ∧ Bk wr (wl.heap.size) 29 #[.int .i64 bx.x0, .int .i64 bx.y0, .int .i64 bx.x1, .int .i64 bx.y1, v] ∧ OwnL encB 5 1 wr (wl.heap.size) v (madeL g bx.x0 bx.y0 wd j) ∧ Below w.heap.size w wr) (fun i _ => (bx.y1 - intOf i).toNat)
          case atStart => exact ⟨0, _, Nat.zero_le _, by simp, jO.alloc _, jR.alloc _, Bk.new _ _ _ rfl, OwnL.nil _ _, (by repeat (first | (with_reducible exact Below.refl _ _) | (with_reducible refine balloc ?_ _) | (with_reducible refine Below.drew ?_) | (with_reducible refine bdrewN ?_ _) | ((with_reducible refine bset ?_ ?_ _); rotate_left; focus (first | (with_reducible exact Nat.le_refl _) | (simp; done) | (simp; omega) | omega)) | (with_reducible refine bstep (by with_reducible assumption) ?_)))⟩
          case round =>
            obtain ⟨j, v, hj, rfl, jO, jR, jB, ho, hbw⟩ := hrel
            obtain ⟨kcO, kfO, kaO, kgO, klO⟩ := jO.rules
            obtain ⟨kcR, kfR, kaR, kgR, klR⟩ := jR.rules
            obtain ⟨kcB, kfB, kaB, kgB, klB⟩ := jB.rules
            by_cases hlt : bx.y0 + j < bx.y1
            · go_wp2_with fail
              clear kcO kfO kaO kgO kcR kfR kaR kgR kcB kfB kaB kgB
              go_loopw [8] (fun i wr => ∃ (k : Nat) (u : Value), k ≤ wd ∧ i = .int .i64 (bx.x0 + k) ∧ Bk wr (w.heap.size) 29 #[.int .i64 0, .int .i64 0, .int .i64 0, .int .i64 0, .slice none 0 0] ∧ Bk wr (w1.heap.size) 26 #[.int .i64 bx.x0, .int .i64 bx.y0, .int .i64 bx.x1, .int .i64 bx.y1] ∧ Bk wr (wl.heap.size) 29 #[.int .i64 bx.x0, .int .i64 bx.y0, .int .i64 bx.x1, .int .i64 bx.y1, u] ∧ OwnL encB 5 1 wr (wl.heap.size) u (madeL g bx.x0 bx.y0 wd j ++ rowL g bx.x0 (bx.y0 + j) k) ∧ Below w.heap.size w wr) (fun i _ => (bx.x1 - intOf i).toNat)
              case atStart => exact ⟨0, v, Nat.zero_le _, by simp, jO, jR, jB, by simpa [rowL] using ho, hbw⟩
              case round =>
                obtain ⟨k, u, hk, rfl, q0O, q0R, q0B, qu0, qB0⟩ := hrel
                obtain ⟨kcO, kfO, kaO, kgO, klO⟩ := q0O.rules
                obtain ⟨kcR, kfR, kaR, kgR, klR⟩ := q0R.rules
                obtain ⟨kcB, kfB, kaB, kgB, klB⟩ := q0B.rules
                by_cases hlx : bx.x0 + k < bx.x1
                · obtain ⟨p, Hp⟩ : ∃ p, Hid (g (bx.x0 + k) (bx.y0 + j) = p) := ⟨_, rfl⟩
                  have hlen : (madeL g bx.x0 bx.y0 wd j ++ rowL g bx.x0 (bx.y0 + j) k).length ≤ 4294967296 := by
                    rw [List.length_append, madeL_len, rowL_len]
                    have : j * wd ≤ 8192 * 8192 := Nat.mul_le_mul (by omega) hwl
                    omega
                  have hw0 := qB0
                  have hal : 0 < (a :: t).length := by simp
                  obtain ⟨gb', ob', hA', hg', c0', c1', c2', c3', c4'⟩ := rdk (HR.out.below hw0) hal
                  obtain ⟨rfl, rfl⟩ : gb = gb' ∧ ob = ob' := by injection hA' with h; injection h with h1 h2; exact ⟨h1, h2⟩
                  have c0z : wr.cell? ⟨gb, ob, none⟩ = some (.int .i64 a.r.x0) := by simpa using c0'
                  have c1z : wr.cell? ⟨gb, ob + 1, none⟩ = some (.int .i64 a.r.y0) := by simpa using c1'
                  have c2z : wr.cell? ⟨gb, ob + 2, none⟩ = some (.int .i64 a.r.x1) := by simpa using c2'
                  have c3z : wr.cell? ⟨gb, ob + 3, none⟩ = some (.int .i64 a.r.y1) := by simpa using c3'
                  have c4z : wr.cell? ⟨gb, ob + 4, none⟩ = some (.slice a.A a.n a.c) := by simpa using c4'
                  clear c0' c1' c2' c3' c4' hal hA'
                  have HAO : Hid (a.ok w) := HO.out a List.mem_cons_self
                  have HAS := HSZ.out a List.mem_cons_self
                  have HAV : Hid ((a.n : Int) = areaR a.r) := HNA.out a List.mem_cons_self
                  obtain ⟨pa, Hpa⟩ : ∃ p, Hid (atL 0 a.r a.l (bx.x0 + k) (bx.y0 + j) = p) := ⟨_, rfl⟩
                  have ba := atL_byte (r := a.r) HAO.out.byte (bx.x0 + k) (bx.y0 + j)
                  rw [Hpa.out] at ba
                  have Hp' : Hid (foldV t pa (bx.x0 + k) (bx.y0 + j) = p) := by have h := Hp.out; rw [← Hg.out] at h; unfold mulG at h; simp only at h; rw [Hpa.out] at h; exact h
                  go_wp2_with fail
                  refine (mva_any a.r a.A a.n a.c a.l _ _ _ (HAO.out.rd.below hw0) HAO.out.ln HAS HAV.out pa Hpa).mono ?_
                  rintro e w11 ⟨rfl, hb11⟩
                  clear c0z c1z c2z c3z c4z
                  clear kcO kfO kaO kgO kcR kfR kaR kgR kcB kfB kaB kgB
                  have q1O := q0O.below hb11
                  have q1R := q0R.below hb11
                  have q1B := q0B.below hb11
                  have qu1 := qu0.below hb11
                  have qB1 := bstep hb11 qB0
                  go_wp2_with fail
                  go_loopw [9, 10] (fun u i wz => ∃ (kk : Nat) (v : Int), kk ≤ t.length ∧ i = .int .i64 ((kk : Int) + 1) ∧ u = .int .u8 v ∧ Hid (foldV (t.take kk) pa (bx.x0 + k) (bx.y0 + j) = v) ∧ 0 ≤ v ∧ v ≤ 255 ∧ Below w11.heap.size w11 wz) (fun _ i _ => n - (intOf i).toNat)
                  case atStart => exact ⟨0, pa, Nat.zero_le _, rfl, rfl, by unfold Hid; simp [foldV], ba.1, ba.2, (by repeat (first | (with_reducible exact Below.refl _ _) | (with_reducible refine balloc ?_ _) | (with_reducible refine Below.drew ?_) | (with_reducible refine bdrewN ?_ _) | ((with_reducible refine bset ?_ ?_ _); rotate_left; focus (first | (with_reducible exact Nat.le_refl _) | (simp; done) | (simp; omega) | omega)) | (with_reducible refine bstep (by with_reducible assumption) ?_)))⟩
                  case round =>
                    rename World => wz
                    obtain ⟨kk, v, hkk, rfl, rfl, HF, v0, v1, hbz⟩ := hrel
                    by_cases hlz : kk < t.length
                    · have hkl : kk + 1 < (a :: t).length := by simp; exact hlz
                      have hwz : Below w.heap.size w wz := bstep hbz qB1
                      obtain ⟨gb', ob', hA', hg', d0, d1, d2, d3, d4⟩ := rdk (HR.out.below hwz) hkl
                      obtain ⟨rfl, rfl⟩ : gb = gb' ∧ ob = ob' := by injection hA' with h; injection h with h1 h2; exact ⟨h1, h2⟩
                      obtain ⟨b, Hb⟩ : ∃ b, Hid (t[kk] = b) := ⟨t[kk], rfl⟩
                      have eb : (a :: t)[kk + 1] = b := Hb.out
                      have hmem : b ∈ a :: t := by rw [← eb]; exact List.getElem_mem hkl
                      rw [eb] at d0 d1 d2 d3 d4
                      have HBO : Hid (b.ok w) := HO.out b hmem
                      have HBS := HSZ.out b hmem
                      have HBV : Hid ((b.n : Int) = areaR b.r) := HNA.out b hmem
                      obtain ⟨pb, Hpb⟩ : ∃ p, Hid (atL 0 b.r b.l (bx.x0 + k) (bx.y0 + j) = p) := ⟨_, rfl⟩
                      have bb := atL_byte (r := b.r) HBO.out.byte (bx.x0 + k) (bx.y0 + j)
                      rw [Hpb.out] at bb
                      obtain ⟨v', Hv'⟩ : ∃ v', Hid (mn8 v pb = v') := ⟨_, rfl⟩
                      have bv := mn8_bd v0 v1 bb.1 bb.2
                      have HM := Lib.hid (fun w => rmn8_any v pb w v0 v1 bb.1 bb.2)
                      rw [Hv'.out] at HM bv
                      have HF' : Hid (foldV (t.take (kk + 1)) pa (bx.x0 + k) (bx.y0 + j) = v') := by
                        unfold Hid; rw [take_one hlz, foldV_snoc, HF.out, Hb.out, Hpb.out, Hv'.out]
                      have i1 : (kk : Int) + 1 < (n : Int) := by omega
                      have e1 : ((kk : Int) + 1).toNat = kk + 1 := by omega
                      clear eb hmem hkl HF hA'
                      go_wp2_with fail
                      refine (mva_any b.r b.A b.n b.c b.l _ _ _ (HBO.out.rd.below hwz) HBO.out.ln HBS HBV.out pb Hpb).mono ?_
                      rintro e w12 ⟨rfl, hb12⟩
                      clear d0 d1 d2 d3 d4
                      go_wp2_with fail
                      refine (HM.out _).mono ?_
                      rintro e w13 ⟨rfl, hb13⟩
                      have hB13 : Below w11.heap.size w11 w13 := bstep hb13 (bstep hb12 hbz)
                      go_wp2
                      go_roundw
                      case rel => exact ⟨kk + 1, v', by omega, by rw [show (kk : Int) + 1 + 1 = ((kk + 1 : Nat) : Int) + 1 by omega], rfl, HF', bv.1, bv.2.1, hB13⟩
                      case measure => simp [intOf]; omega
                    · have HE : Hid (v = p) := by
                        unfold Hid
                        rw [← HF.out, ← Hp'.out, List.take_of_length_le (by omega)]
                      obtain rfl : p = v := HE.out.symm
                      have i1 : ((kk : Int) + 1 < (n : Int)) = False := by simp; omega
                      clear HF
                      have q2O := q1O.below hbz
                      have q2R := q1R.below hbz
                      have q2B := q1B.below hbz
                      have qu2 := qu1.below hbz
                      have qB2 := bstep hbz qB1
                      obtain ⟨kcO, kfO, kaO, kgO, klO⟩ := q2O.rules
                      obtain ⟨kcR, kfR, kaR, kgR, klR⟩ := q2R.rules
                      obtain ⟨kcB, kfB, kaB, kgB, klB⟩ := q2B.rules
                      have q3O := q2O.alloc (.cells #[.int .u8 p] 5)
                      have q3R := q2R.alloc (.cells #[.int .u8 p] 5)
                      have q3B := q2B.alloc (.cells #[.int .u8 p] 5)
                      have qu3 := qu2.alloc (.cells #[.int .u8 p] 5)
                      have qB3 := balloc qB2 (.cells #[.int .u8 p] 5)
                      have hsz := qB3.size
                      go_wp2_with (at_builtin; refine wpList_append_one encB_len encB_one 27 Try.infoU8 rfl (by decide) (by decide) Try.underlying27 rfl _ _ rfl (wl.heap.size) u _ rfl qu3 wz.heap.size p rfl (Bk.new _ _ _ rfl) rfl hlen (by simp at hsz ⊢; omega) ?_; intro v5 w5 ho5 hg5 hv5x; obtain ⟨g5, c5, hv5, _⟩ := hv5x; generalize (madeL g bx.x0 bx.y0 wd j ++ rowL g bx.x0 (bx.y0 + (j : Int)) k).length + 1 = n5 at hv5; subst hv5; have q4B := q3B.grown hg5 (qu3.neBk q3B (by decide)); obtain ⟨kc5, kf5, ka5, kg5, kl5⟩ := q4B.rules)
                      have q4O := q3O.grown hg5 (qu3.neBk q3O (by decide))
                      have q4R := q3R.grown hg5 (qu3.neBk q3R (by decide))
                      have q4B := q3B.grown hg5 (qu3.neBk q3B (by decide))
                      have qu4 := ho5
                      have qB4 := below_grown qu3 hg5 qB3 (by first | exact Nat.le_refl _ | omega)
                      clear i1 kcO kfO kaO kgO kcR kfR kaR kgR kcB kfB kaB kgB
                      have HL : Hid (madeL g bx.x0 bx.y0 wd j ++ rowL g bx.x0 (bx.y0 + j) k ++ [p] = madeL g bx.x0 bx.y0 wd j ++ rowL g bx.x0 (bx.y0 + j) (k + 1)) := by
                        unfold Hid; rw [rowL_succ, Hp.out, List.append_assoc]
                      rw [HL.out] at qu4
                      have mB : Bk _ (wl.heap.size) 29 #[.int .i64 bx.x0, .int .i64 bx.y0, .int .i64 bx.x1, .int .i64 bx.y1, .slice (some ⟨g5, 0, none⟩) n5 c5] := q4B.set 4 (.slice (some ⟨g5, 0, none⟩) n5 c5)
                      have mO := q4O.far (p := ⟨wl.heap.size, 4, none⟩) (show w.heap.size ≠ wl.heap.size by omega) (.slice (some ⟨g5, 0, none⟩) n5 c5)
                      have mR := q4R.far (p := ⟨wl.heap.size, 4, none⟩) (show w1.heap.size ≠ wl.heap.size by omega) (.slice (some ⟨g5, 0, none⟩) n5 c5)
                      have ho6 := qu4.setFar q4B (by decide) 4 (.slice (some ⟨g5, 0, none⟩) n5 c5)
                      have hB6 := bset qB4 (p := ⟨wl.heap.size, 4, none⟩) (show w.heap.size ≤ wl.heap.size by omega) (.slice (some ⟨g5, 0, none⟩) n5 c5)
                      clear HL q1O q1R q1B q2O q2R q2B q3O q3R q3B q4O q4R q4B qu1 qu2 qu3 qB1 qB2 qB3 qB4
                      go_wp2
                      go_roundw
                      case rel => exact ⟨k + 1, _, by omega, by rw [show bx.x0 + (k : Int) + 1 = bx.x0 + ((k + 1 : Nat) : Int) by omega], mO, mR, mB, ho6, hB6⟩
                      case measure => simp [intOf]; omega
                · obtain rfl : k = wd := by omega
                  have hu' : OwnL encB 5 1 wr (wl.heap.size) u (madeL g bx.x0 bx.y0 k (j + 1)) := by rw [madeL_succ]; exact qu0
                  go_wp2
                  go_roundw
                  case rel => exact ⟨j + 1, u, by omega, by rw [show bx.y0 + (j : Int) + 1 = bx.y0 + ((j + 1 : Nat) : Int) by omega], q0O, q0R, q0B, hu', qB0⟩
                  case measure => simp [intOf]; omega
            · obtain rfl : j = ht := by omega
              have ho := ho.mono (show w.heap.size ≤ wl.heap.size from hbw0.size)
              obtain ⟨kc', kf', ka', kg', kl'⟩ := jO.rules
              obtain ⟨A0, c0', hv0, _, _⟩ := ho.form encB_len
              generalize (madeL g bx.x0 bx.y0 wd j).length = n0 at hv0
              subst hv0
              have o1 := ho.setFar jO (by decide) 0 (.int .i64 bx.x0)
              have m1 := jO.set 0 (.int .i64 bx.x0)
              have o2 := o1.setFar m1 (by decide) 1 (.int .i64 bx.y0)
              have m2 := m1.set 1 (.int .i64 bx.y0)
              have o3 := o2.setFar m2 (by decide) 2 (.int .i64 bx.x1)
              have m3 := m2.set 2 (.int .i64 bx.x1)
              have o4 := o3.setFar m3 (by decide) 3 (.int .i64 bx.y1)
              have m4 := m3.set 3 (.int .i64 bx.y1)
              have o5 := o4.setFar m4 (by decide) 4 (.slice A0 n0 c0')
              clear o1 o2 o3 o4 m1 m2 m3 m4
              rw [← HPL.out] at o5
              go_wp2
              refine bodyPost_ret (v := _) ?_ rfl ⟨_, rfl, o5, (by repeat (first | (with_reducible exact Below.refl _ _) | (with_reducible refine balloc ?_ _) | (with_reducible refine Below.drew ?_) | (with_reducible refine bdrewN ?_ _) | ((with_reducible refine bset ?_ ?_ _); rotate_left; focus (first | (with_reducible exact Nat.le_refl _) | (simp; done) | (simp; omega) | omega)) | (with_reducible refine bstep (by with_reducible assumption) ?_)))⟩
              simp [results, Try.results18, go_sem, kc']
end Go.Proofs.Ytndablijjkchjaa
