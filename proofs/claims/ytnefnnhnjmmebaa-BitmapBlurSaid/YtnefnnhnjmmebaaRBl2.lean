/-
  The walk of grisailleref30.BoxBlur.
-/
import Derived.Test.YtnefnnhnjmmebaaRBl1
import Derived.Test.YtnefnnhnjmmebaaBm7
namespace Go.Proofs.Ytnefnnhnjmmebaa
open Go.RowKit
set_option linter.unusedSimpArgs false
set_option linter.unusedVariables false


set_option maxHeartbeats 12800000 in
theorem rbb_any (b : Bm) (n : Int) (w : World) (hb : b.ok w) (hnb : b.n ≤ 4000000000) :
    Calls Try.prog 44 #[.agg #[.int .i64 b.r.x0, .int .i64 b.r.y0, .int .i64 b.r.x1, .int .i64 b.r.y1, .slice b.A b.n b.c], .int .i64 n] w (RetBE (bbR b n) (bbL b n) (bbE b n) w) := by
  have HB := Lib.hid hb
  clear hb
  cases vb : vBm b with
  | false =>
    have Hvb : Hid (bmValid b.r b.l = false) := vb
    have e1 : bbR b n = ⟨0, 0, 0, 0⟩ := by unfold bbR bbV; rw [vb]; rfl
    have e2 : bbL b n = [] := by unfold bbL bbV; rw [vb]; rfl
    have e3 : bbE b n = 15 := by unfold bbE; rw [vb]; rfl
    rw [e1, e2, e3]
    clear e1 e2 e3
    clear vb
    go_enter Try.func44, Try.ntmps44
    go_wp2_with fail
    refine (rbvalid_any b.r b.A b.n b.c b.l _ (HB.out.rd.below (by repeat (first | (with_reducible exact Below.refl _ _) | (with_reducible refine balloc ?_ _) | (with_reducible refine Below.drew ?_) | (with_reducible refine bdrewN ?_ _) | ((with_reducible refine bset ?_ ?_ _); rotate_left; focus (first | (with_reducible exact Nat.le_refl _) | (simp; done) | (simp; omega) | omega)) | (with_reducible refine bstep (by with_reducible assumption) ?_)))) HB.out.ln hnb false Hvb).mono ?_
    rintro e w1 ⟨rfl, hb1⟩
    have kO1 : Bk w1 (w.heap.size + 1) 28 #[.int .i64 0, .int .i64 0, .int .i64 0, .int .i64 0, .slice none 0 0] := (by repeat (first | (with_reducible assumption) | ((with_reducible refine Bk.new _ _ _ ?_); first | (with_reducible rfl) | (simp; done)) | (with_reducible refine Bk.alloc ?_ _) | (with_reducible refine Bk.drew ?_) | (with_reducible refine Bk.drewN ?_ _) | ((with_reducible refine Bk.far ?_ ?_ _); rotate_left; focus (first | (simp; done) | (simp; omega))) | (with_reducible refine Bk.below ?_ (by with_reducible assumption)))); obtain ⟨kcO1, kfO1, kaO1, kgO1, klO1⟩ := kO1.rules
    go_wp2
    refine bodyPost_ret (v := _) ?_ rfl (RetBE.no 15 (by repeat (first | (with_reducible exact Below.refl _ _) | (with_reducible refine balloc ?_ _) | (with_reducible refine Below.drew ?_) | (with_reducible refine bdrewN ?_ _) | ((with_reducible refine bset ?_ ?_ _); rotate_left; focus (first | (with_reducible exact Nat.le_refl _) | (simp; done) | (simp; omega) | omega)) | (with_reducible refine bstep (by with_reducible assumption) ?_))))
    simp [results, Try.results44, go_sem, kcO1]
  | true =>
    have Hvb : Hid (bmValid b.r b.l = true) := vb
    cases h2 : bbN n with
    | false =>
      have e1 : bbR b n = ⟨0, 0, 0, 0⟩ := by unfold bbR bbV; rw [vb, h2]; rfl
      have e2 : bbL b n = [] := by unfold bbL bbV; rw [vb, h2]; rfl
      have e3 : bbE b n = 6 := by unfold bbE; rw [vb, h2]; rfl
      rw [e1, e2, e3]
      clear e1 e2 e3
      have hn : n < 0 ∨ 16 < n := by simp [bbN] at h2; omega
      clear vb h2
      rcases hn with hn | hn
      · go_enter Try.func44, Try.ntmps44
        go_wp2_with fail
        refine (rbvalid_any b.r b.A b.n b.c b.l _ (HB.out.rd.below (by repeat (first | (with_reducible exact Below.refl _ _) | (with_reducible refine balloc ?_ _) | (with_reducible refine Below.drew ?_) | (with_reducible refine bdrewN ?_ _) | ((with_reducible refine bset ?_ ?_ _); rotate_left; focus (first | (with_reducible exact Nat.le_refl _) | (simp; done) | (simp; omega) | omega)) | (with_reducible refine bstep (by with_reducible assumption) ?_)))) HB.out.ln hnb true Hvb).mono ?_
        rintro e w1 ⟨rfl, hb1⟩
        have kC1 : Bk w1 (w.heap.size) 28 #[.int .i64 b.r.x0, .int .i64 b.r.y0, .int .i64 b.r.x1, .int .i64 b.r.y1, .slice b.A b.n b.c] := (by repeat (first | (with_reducible assumption) | ((with_reducible refine Bk.new _ _ _ ?_); first | (with_reducible rfl) | (simp; done)) | (with_reducible refine Bk.alloc ?_ _) | (with_reducible refine Bk.drew ?_) | (with_reducible refine Bk.drewN ?_ _) | ((with_reducible refine Bk.far ?_ ?_ _); rotate_left; focus (first | (simp; done) | (simp; omega))) | (with_reducible refine Bk.below ?_ (by with_reducible assumption)))); obtain ⟨kcC1, kfC1, kaC1, kgC1, klC1⟩ := kC1.rules; have kO1 : Bk w1 (w.heap.size + 1) 28 #[.int .i64 0, .int .i64 0, .int .i64 0, .int .i64 0, .slice none 0 0] := (by repeat (first | (with_reducible assumption) | ((with_reducible refine Bk.new _ _ _ ?_); first | (with_reducible rfl) | (simp; done)) | (with_reducible refine Bk.alloc ?_ _) | (with_reducible refine Bk.drew ?_) | (with_reducible refine Bk.drewN ?_ _) | ((with_reducible refine Bk.far ?_ ?_ _); rotate_left; focus (first | (simp; done) | (simp; omega))) | (with_reducible refine Bk.below ?_ (by with_reducible assumption)))); obtain ⟨kcO1, kfO1, kaO1, kgO1, klO1⟩ := kO1.rules
        go_wp2
        refine bodyPost_ret (v := _) ?_ rfl (RetBE.no 6 (by repeat (first | (with_reducible exact Below.refl _ _) | (with_reducible refine balloc ?_ _) | (with_reducible refine Below.drew ?_) | (with_reducible refine bdrewN ?_ _) | ((with_reducible refine bset ?_ ?_ _); rotate_left; focus (first | (with_reducible exact Nat.le_refl _) | (simp; done) | (simp; omega) | omega)) | (with_reducible refine bstep (by with_reducible assumption) ?_))))
        simp [results, Try.results44, go_sem, kcO1]
      · have hn0 : ¬ n < 0 := by omega
        go_enter Try.func44, Try.ntmps44
        go_wp2_with fail
        refine (rbvalid_any b.r b.A b.n b.c b.l _ (HB.out.rd.below (by repeat (first | (with_reducible exact Below.refl _ _) | (with_reducible refine balloc ?_ _) | (with_reducible refine Below.drew ?_) | (with_reducible refine bdrewN ?_ _) | ((with_reducible refine bset ?_ ?_ _); rotate_left; focus (first | (with_reducible exact Nat.le_refl _) | (simp; done) | (simp; omega) | omega)) | (with_reducible refine bstep (by with_reducible assumption) ?_)))) HB.out.ln hnb true Hvb).mono ?_
        rintro e w1 ⟨rfl, hb1⟩
        have kC1 : Bk w1 (w.heap.size) 28 #[.int .i64 b.r.x0, .int .i64 b.r.y0, .int .i64 b.r.x1, .int .i64 b.r.y1, .slice b.A b.n b.c] := (by repeat (first | (with_reducible assumption) | ((with_reducible refine Bk.new _ _ _ ?_); first | (with_reducible rfl) | (simp; done)) | (with_reducible refine Bk.alloc ?_ _) | (with_reducible refine Bk.drew ?_) | (with_reducible refine Bk.drewN ?_ _) | ((with_reducible refine Bk.far ?_ ?_ _); rotate_left; focus (first | (simp; done) | (simp; omega))) | (with_reducible refine Bk.below ?_ (by with_reducible assumption)))); obtain ⟨kcC1, kfC1, kaC1, kgC1, klC1⟩ := kC1.rules; have kO1 : Bk w1 (w.heap.size + 1) 28 #[.int .i64 0, .int .i64 0, .int .i64 0, .int .i64 0, .slice none 0 0] := (by repeat (first | (with_reducible assumption) | ((with_reducible refine Bk.new _ _ _ ?_); first | (with_reducible rfl) | (simp; done)) | (with_reducible refine Bk.alloc ?_ _) | (with_reducible refine Bk.drew ?_) | (with_reducible refine Bk.drewN ?_ _) | ((with_reducible refine Bk.far ?_ ?_ _); rotate_left; focus (first | (simp; done) | (simp; omega))) | (with_reducible refine Bk.below ?_ (by with_reducible assumption)))); obtain ⟨kcO1, kfO1, kaO1, kgO1, klO1⟩ := kO1.rules
        go_wp2
        refine bodyPost_ret (v := _) ?_ rfl (RetBE.no 6 (by repeat (first | (with_reducible exact Below.refl _ _) | (with_reducible refine balloc ?_ _) | (with_reducible refine Below.drew ?_) | (with_reducible refine bdrewN ?_ _) | ((with_reducible refine bset ?_ ?_ _); rotate_left; focus (first | (with_reducible exact Nat.le_refl _) | (simp; done) | (simp; omega) | omega)) | (with_reducible refine bstep (by with_reducible assumption) ?_))))
        simp [results, Try.results44, go_sem, kcO1]
    | true =>
      have e1 : bbR b n = b.r := by unfold bbR bbV; rw [vb, h2]; rfl
      have e2 : bbL b n = pixL (blurG b.l b.r n.toNat) b.r := by unfold bbL bbV; rw [vb, h2]; rfl
      have e3 : bbE b n = 0 := by unfold bbE; rw [vb, h2]; rfl
      rw [e1, e2, e3]
      clear e1 e2 e3
      have hn : 0 ≤ n ∧ n ≤ 16 := by simp [bbN] at h2; omega
      obtain ⟨nn, rfl⟩ : ∃ k : Nat, n = (k : Int) := ⟨n.toNat, by omega⟩
      rw [Int.toNat_natCast]
      have h16 : nn ≤ 16 := by omega
      have d0 : ¬ ((nn : Int) < 0) := by omega
      have d1 : ¬ ((16 : Int) < (nn : Int)) := by omega
      have HV : Hid (vBm b = true) := vb
      have HDC : Hid (canonR b.r = b.r) := (valid_cn vb).1
      obtain ⟨g, Hg⟩ : ∃ g, Hid (blurG b.l b.r nn = g) := ⟨_, rfl⟩
      have HGV : Hid (∀ i j : Nat, blurN b.l (b.r.x1 - b.r.x0).toNat (b.r.y1 - b.r.y0).toNat nn i j = g (b.r.x0 + (i : Int)) (b.r.y0 + (j : Int))) := by
        unfold Hid; intro i j; rw [← Hg.out]; unfold blurG
        rw [show (b.r.x0 + (i : Int) - b.r.x0).toNat = i by omega, show (b.r.y0 + (j : Int) - b.r.y0).toNat = j by omega]
      rw [Hg.out]
      clear vb h2
      go_enter Try.func44, Try.ntmps44
      go_wp2_with fail
      refine (rbvalid_any b.r b.A b.n b.c b.l _ (HB.out.rd.below (by repeat (first | (with_reducible exact Below.refl _ _) | (with_reducible refine balloc ?_ _) | (with_reducible refine Below.drew ?_) | (with_reducible refine bdrewN ?_ _) | ((with_reducible refine bset ?_ ?_ _); rotate_left; focus (first | (with_reducible exact Nat.le_refl _) | (simp; done) | (simp; omega) | omega)) | (with_reducible refine bstep (by with_reducible assumption) ?_)))) HB.out.ln hnb true Hvb).mono ?_
      rintro e w1 ⟨rfl, hb1⟩
      have kC1 : Bk w1 (w.heap.size) 28 #[.int .i64 b.r.x0, .int .i64 b.r.y0, .int .i64 b.r.x1, .int .i64 b.r.y1, .slice b.A b.n b.c] := (by repeat (first | (with_reducible assumption) | ((with_reducible refine Bk.new _ _ _ ?_); first | (with_reducible rfl) | (simp; done)) | (with_reducible refine Bk.alloc ?_ _) | (with_reducible refine Bk.drew ?_) | (with_reducible refine Bk.drewN ?_ _) | ((with_reducible refine Bk.far ?_ ?_ _); rotate_left; focus (first | (simp; done) | (simp; omega))) | (with_reducible refine Bk.below ?_ (by with_reducible assumption)))); obtain ⟨kcC1, kfC1, kaC1, kgC1, klC1⟩ := kC1.rules; have kO1 : Bk w1 (w.heap.size + 1) 28 #[.int .i64 0, .int .i64 0, .int .i64 0, .int .i64 0, .slice none 0 0] := (by repeat (first | (with_reducible assumption) | ((with_reducible refine Bk.new _ _ _ ?_); first | (with_reducible rfl) | (simp; done)) | (with_reducible refine Bk.alloc ?_ _) | (with_reducible refine Bk.drew ?_) | (with_reducible refine Bk.drewN ?_ _) | ((with_reducible refine Bk.far ?_ ?_ _); rotate_left; focus (first | (simp; done) | (simp; omega))) | (with_reducible refine Bk.below ?_ (by with_reducible assumption)))); obtain ⟨kcO1, kfO1, kaO1, kgO1, klO1⟩ := kO1.rules
      have hcb := canon_bd b.r
      rw [HDC.out] at hcb
      clear kcO1 kfO1 kaO1 kgO1 kcC1 kfC1 kaC1 kgC1
      have sO1 := kO1.lt
      have hB1 : Below w.heap.size w w1 := (by repeat (first | (with_reducible exact Below.refl _ _) | (with_reducible refine balloc ?_ _) | (with_reducible refine Below.drew ?_) | (with_reducible refine bdrewN ?_ _) | ((with_reducible refine bset ?_ ?_ _); rotate_left; focus (first | (with_reducible exact Nat.le_refl _) | (simp; done) | (simp; omega) | omega)) | (with_reducible refine bstep (by with_reducible assumption) ?_)))
      clear hb1
      obtain ⟨⟨bx0, bx1, bx2⟩, ⟨by0, by1, by2⟩⟩ := hcb
      obtain ⟨wd, hwd⟩ : ∃ n : Nat, b.r.x1 - b.r.x0 = (n : Int) := ⟨(b.r.x1 - b.r.x0).toNat, by omega⟩
      obtain ⟨ht, hht⟩ : ∃ n : Nat, b.r.y1 - b.r.y0 = (n : Int) := ⟨(b.r.y1 - b.r.y0).toNat, by omega⟩
      have hw1 : b.r.x1 ≤ b.r.x0 + wd ∧ b.r.x0 + wd ≤ b.r.x1 := by omega
      have hh1 : b.r.y1 ≤ b.r.y0 + ht ∧ b.r.y0 + ht ≤ b.r.y1 := by omega
      have hPL : pixL g (b.r) = madeL g b.r.x0 b.r.y0 wd ht := by unfold pixL; rw [hwd, hht, Int.toNat_natCast, Int.toNat_natCast]
      have HPL := Lib.hid hPL
      have hwl : wd ≤ 8192 := by omega
      have hhl : ht ≤ 8192 := by omega
      clear hwd hht hPL
      obtain ⟨kcO1, kfO1, kaO1, kgO1, klO1⟩ := kO1.rules
      obtain ⟨kcC1, kfC1, kaC1, kgC1, klC1⟩ := kC1.rules
      go_wp2_with fail
      clear kcO1 kfO1 kaO1 kgO1 kcC1 kfC1 kaC1 kgC1
      go_loopw [7] (fun i wr => ∃ (j : Nat) (v : Value), j ≤ ht ∧ i = .int .i64 (b.r.y0 + j) ∧ Bk wr (w.heap.size) 28 #[.int .i64 b.r.x0, .int .i64 b.r.y0, .int .i64 b.r.x1, .int .i64 b.r.y1, .slice b.A b.n b.c] ∧ Bk wr (w.heap.size + 1) 28 #[.int .i64 0, .int .i64 0, .int .i64 0, .int .i64 0, .slice none 0 0] ∧ Bk wr (w1.heap.size) 28 #[.int .i64 b.r.x0, .int .i64 b.r.y0, .int .i64 b.r.x1, .int .i64 b.r.y1, v] ∧ OwnL encP 25 4 wr (w1.heap.size) v (madeL g b.r.x0 b.r.y0 wd j) ∧ Below w.heap.size w wr) (fun i _ => (b.r.y1 - intOf i).toNat)
      case atStart => exact ⟨0, _, Nat.zero_le _, by simp, kC1.alloc _, kO1.alloc _, Bk.new _ _ _ rfl, OwnL.nil _ _, (by repeat (first | (with_reducible exact Below.refl _ _) | (with_reducible refine balloc ?_ _) | (with_reducible refine Below.drew ?_) | (with_reducible refine bdrewN ?_ _) | ((with_reducible refine bset ?_ ?_ _); rotate_left; focus (first | (with_reducible exact Nat.le_refl _) | (simp; done) | (simp; omega) | omega)) | (with_reducible refine bstep (by with_reducible assumption) ?_)))⟩
      case round =>
        obtain ⟨j, v, hj, rfl, jC, jO, jB, ho, hbw⟩ := hrel
        obtain ⟨kcC, kfC, kaC, kgC, klC⟩ := jC.rules
        obtain ⟨kcO, kfO, kaO, kgO, klO⟩ := jO.rules
        obtain ⟨kcB, kfB, kaB, kgB, klB⟩ := jB.rules
        by_cases hlt : b.r.y0 + j < b.r.y1
        · go_wp2_with fail
          clear kcC kfC kaC kgC kcO kfO kaO kgO kcB kfB kaB kgB
          go_loopw [8] (fun i wr => ∃ (k : Nat) (u : Value), k ≤ wd ∧ i = .int .i64 (b.r.x0 + k) ∧ Bk wr (w.heap.size) 28 #[.int .i64 b.r.x0, .int .i64 b.r.y0, .int .i64 b.r.x1, .int .i64 b.r.y1, .slice b.A b.n b.c] ∧ Bk wr (w.heap.size + 1) 28 #[.int .i64 0, .int .i64 0, .int .i64 0, .int .i64 0, .slice none 0 0] ∧ Bk wr (w1.heap.size) 28 #[.int .i64 b.r.x0, .int .i64 b.r.y0, .int .i64 b.r.x1, .int .i64 b.r.y1, u] ∧ OwnL encP 25 4 wr (w1.heap.size) u (madeL g b.r.x0 b.r.y0 wd j ++ rowL g b.r.x0 (b.r.y0 + j) k) ∧ Below w.heap.size w wr) (fun i _ => (b.r.x1 - intOf i).toNat)
          case atStart => exact ⟨0, v, Nat.zero_le _, by simp, jC, jO, jB, by simpa [rowL] using ho, hbw⟩
          case round =>
            obtain ⟨k, u, hk, rfl, q0C, q0O, q0B, qu0, qB0⟩ := hrel
            obtain ⟨kcC, kfC, kaC, kgC, klC⟩ := q0C.rules
            obtain ⟨kcO, kfO, kaO, kgO, klO⟩ := q0O.rules
            obtain ⟨kcB, kfB, kaB, kgB, klB⟩ := q0B.rules
            by_cases hlx : b.r.x0 + k < b.r.x1
            · obtain ⟨p, Hp⟩ : ∃ p, Hid (g (b.r.x0 + k) (b.r.y0 + j) = p) := ⟨_, rfl⟩
              have hlen : (madeL g b.r.x0 b.r.y0 wd j ++ rowL g b.r.x0 (b.r.y0 + j) k).length ≤ 4294967296 := by
                rw [List.length_append, madeL_len, rowL_len]
                have : j * wd ≤ 8192 * 8192 := Nat.mul_le_mul (by omega) hwl
                omega
              have Hp0 : Hid (blurN b.l (b.r.x1 - b.r.x0).toNat (b.r.y1 - b.r.y0).toNat nn k j = p) := by
                unfold Hid; rw [HGV.out]; exact Hp.out
              have hkb : k < (b.r.x1 - b.r.x0).toNat := by omega
              have hjb : j < (b.r.y1 - b.r.y0).toNat := by omega
              go_wp2_with fail
              clear kcC kfC kaC kgC kcO kfO kaO kgO kcB kfB kaB kgB
              have q1C := q0C.drew
              have q1O := q0O.drew
              have q1B := q0B.drew
              have qu1 := qu0.drew
              have qB1 := qB0.drew
              refine wp_region_go 10 [(0, true), (1, true), (2, true), (3, true), (4, true), (5, true), (6, false), (7, false), (8, false), (9, true)] (fun w' => Bk w' (w.heap.size) 28 #[.int .i64 b.r.x0, .int .i64 b.r.y0, .int .i64 b.r.x1, .int .i64 b.r.y1, .slice b.A b.n b.c] ∧ Bk w' (w.heap.size + 1) 28 #[.int .i64 0, .int .i64 0, .int .i64 0, .int .i64 0, .slice none 0 0] ∧ Bk w' (w1.heap.size) 28 #[.int .i64 b.r.x0, .int .i64 b.r.y0, .int .i64 b.r.x1, .int .i64 b.r.y1, u] ∧ Below w.heap.size w w') (by kernel_rfl) (by kernel_rfl) (fun c a d v w h => by cases d <;> exact h) ⟨q1C, q1O, q1B, qB1⟩ ?_
              repeat (first | (refine wpGo_pure (v := ?_) rfl rfl (fun w' hS => ?_) ?_; rotate_left; (· obtain ⟨kc0, kf0, ka0, kg0, kl0⟩ := Bk.rules hS.1; obtain ⟨kc1, kf1, ka1, kg1, kl1⟩ := Bk.rules hS.2.1; obtain ⟨kc2, kf2, ka2, kg2, kl2⟩ := Bk.rules hS.2.2.1; have hSB := hS.2.2.2; go_simp; exact rfl); (try simp only [Act.put, List.setIfInBounds_toArray, List.set_cons_zero, List.set_cons_succ])) | ((refine wpGo_skip rfl rfl ?_); (try simp only [Act.put, List.setIfInBounds_toArray, List.set_cons_zero, List.set_cons_succ])))
              refine wpGo_eff rfl (fun K hK => ?_)
              go_simp
              refine (rblurred_any b k j nn _ (HB.out.below qB1) hnb HV.out hkb hjb h16 _ _ rfl rfl p Hp0).mono ?_
              rintro e w11 ⟨rfl, hb11⟩
              have q2C := q1C.below hb11
              have q2O := q1O.below hb11
              have q2B := q1B.below hb11
              have qu2 := qu1.below hb11
              have qB2 := bstep hb11 qB1
              refine hK.out _ _ ⟨q2C, q2O, q2B, qB2⟩ (fun _ => ?_)
              clear hK K
              refine wpGo_eff rfl (fun K hK => ?_)
              go_simp
              have q3C := q2C.alloc (.cells #[.int .u8 p.r, .int .u8 p.g, .int .u8 p.b, .int .u8 p.a] 25)
              have q3O := q2O.alloc (.cells #[.int .u8 p.r, .int .u8 p.g, .int .u8 p.b, .int .u8 p.a] 25)
              have q3B := q2B.alloc (.cells #[.int .u8 p.r, .int .u8 p.g, .int .u8 p.b, .int .u8 p.a] 25)
              have qu3 := qu2.alloc (.cells #[.int .u8 p.r, .int .u8 p.g, .int .u8 p.b, .int .u8 p.a] 25)
              have qB3 := balloc qB2 (.cells #[.int .u8 p.r, .int .u8 p.g, .int .u8 p.b, .int .u8 p.a] 25)
              refine hK.out _ _ ⟨q3C, q3O, q3B, qB3⟩ (fun _ => ?_)
              clear hK K
              have hsz := qB3.size
              refine wpGo_effp rfl (fun K hK => ?_)
              refine wp_append_one encP_len encP_one 26 Try.infoPx rfl (by decide) (by decide) Try.underlying26 _ _ rfl (w1.heap.size) u _ rfl qu3 w11.heap.size p rfl (Bk.new _ _ _ (by first | rfl | simp)) rfl hlen (by first | (simp at hsz ⊢; omega) | (have h1 := q3B.lt; simp at hsz h1 ⊢; omega) | (have h1 := q3B.lt; simp at hsz ⊢; omega)) ?_
              intro v5 w5 ho5 hg5 hv5
              have q4C := q3C.grown hg5 (qu3.neBk q3C (by decide))
              have q4O := q3O.grown hg5 (qu3.neBk q3O (by decide))
              have q4B := q3B.grown hg5 (qu3.neBk q3B (by decide))
              have qu4 := ho5
              have qB4 := below_grown qu3 hg5 qB3 (by first | exact Nat.le_refl _ | omega)
              obtain ⟨g5, c5, hv5, _⟩ := hv5
              refine hK.out _ _ ⟨q4C, q4O, q4B, qB4⟩ (fun _ => ?_)
              clear hK K
              simp only [Act.put, List.setIfInBounds_toArray, List.set_cons_zero, List.set_cons_succ]
              repeat (first | (refine wpGo_pure (v := ?_) rfl rfl (fun w' hS => ?_) ?_; rotate_left; (· obtain ⟨kc0, kf0, ka0, kg0, kl0⟩ := Bk.rules hS.1; obtain ⟨kc1, kf1, ka1, kg1, kl1⟩ := Bk.rules hS.2.1; obtain ⟨kc2, kf2, ka2, kg2, kl2⟩ := Bk.rules hS.2.2.1; have hSB := hS.2.2.2; go_simp; exact rfl); (try simp only [Act.put, List.setIfInBounds_toArray, List.set_cons_zero, List.set_cons_succ])) | ((refine wpGo_skip rfl rfl ?_); (try simp only [Act.put, List.setIfInBounds_toArray, List.set_cons_zero, List.set_cons_succ])))
              refine wpGo_nil ?_
              simp only [List.drop_succ_cons, List.drop_zero]
              clear Hp0 hkb hjb
              have HL : Hid (madeL g b.r.x0 b.r.y0 wd j ++ rowL g b.r.x0 (b.r.y0 + j) k ++ [p] = madeL g b.r.x0 b.r.y0 wd j ++ rowL g b.r.x0 (b.r.y0 + j) (k + 1)) := by
                unfold Hid; rw [rowL_succ, Hp.out, List.append_assoc]
              rw [HL.out] at qu4
              obtain ⟨kc5, kf5, ka5, kg5, kl5⟩ := q4B.rules
              have mB : Bk _ (w1.heap.size) 28 #[.int .i64 b.r.x0, .int .i64 b.r.y0, .int .i64 b.r.x1, .int .i64 b.r.y1, v5] := q4B.set 4 v5
              have mC := q4C.far (p := ⟨w1.heap.size, 4, none⟩) (show w.heap.size ≠ w1.heap.size by omega) v5
              have mO := q4O.far (p := ⟨w1.heap.size, 4, none⟩) (show w.heap.size + 1 ≠ w1.heap.size by omega) v5
              have ho6 := qu4.setFar q4B (by decide) 4 v5
              have hB6 := bset qB4 (p := ⟨w1.heap.size, 4, none⟩) (show w.heap.size ≤ w1.heap.size by omega) v5
              clear HL q1C q1O q1B q2C q2O q2B q3C q3O q3B q4C q4O q4B qu1 qu2 qu3 qB1 qB2 qB3 qB4
              generalize (madeL g b.r.x0 b.r.y0 wd j ++ rowL g b.r.x0 (b.r.y0 + (j : Int)) k).length + 1 = n5 at hv5
              subst hv5
              go_wp2
              go_roundw
              case rel => exact ⟨k + 1, _, by omega, by rw [show b.r.x0 + (k : Int) + 1 = b.r.x0 + ((k + 1 : Nat) : Int) by omega], mC, mO, mB, ho6, hB6⟩
              case measure => simp [intOf]; omega
            · obtain rfl : k = wd := by omega
              have hu' : OwnL encP 25 4 wr (w1.heap.size) u (madeL g b.r.x0 b.r.y0 k (j + 1)) := by rw [madeL_succ]; exact qu0
              go_wp2
              go_roundw
              case rel => exact ⟨j + 1, u, by omega, by rw [show b.r.y0 + (j : Int) + 1 = b.r.y0 + ((j + 1 : Nat) : Int) by omega], q0C, q0O, q0B, hu', qB0⟩
              case measure => simp [intOf]; omega
        · obtain rfl : j = ht := by omega
          have ho := ho.mono (show w.heap.size ≤ w1.heap.size by omega)
          obtain ⟨kc', kf', ka', kg', kl'⟩ := jO.rules
          obtain ⟨A0, c0', hv0, _, _⟩ := ho.form encP_len
          generalize (madeL g b.r.x0 b.r.y0 wd j).length = n0 at hv0
          subst hv0
          have o1 := ho.setFar jO (by decide) 0 (.int .i64 b.r.x0)
          have m1 := jO.set 0 (.int .i64 b.r.x0)
          have o2 := o1.setFar m1 (by decide) 1 (.int .i64 b.r.y0)
          have m2 := m1.set 1 (.int .i64 b.r.y0)
          have o3 := o2.setFar m2 (by decide) 2 (.int .i64 b.r.x1)
          have m3 := m2.set 2 (.int .i64 b.r.x1)
          have o4 := o3.setFar m3 (by decide) 3 (.int .i64 b.r.y1)
          have m4 := m3.set 3 (.int .i64 b.r.y1)
          have o5 := o4.setFar m4 (by decide) 4 (.slice A0 n0 c0')
          clear o1 o2 o3 o4 m1 m2 m3 m4
          rw [← HPL.out] at o5
          go_wp2
          refine bodyPost_ret (v := _) ?_ rfl ⟨_, rfl, o5, (by repeat (first | (with_reducible exact Below.refl _ _) | (with_reducible refine balloc ?_ _) | (with_reducible refine Below.drew ?_) | (with_reducible refine bdrewN ?_ _) | ((with_reducible refine bset ?_ ?_ _); rotate_left; focus (first | (with_reducible exact Nat.le_refl _) | (simp; done) | (simp; omega) | omega)) | (with_reducible refine bstep (by with_reducible assumption) ?_)))⟩
          simp [results, Try.results44, go_sem, kc']
end Go.Proofs.Ytnefnnhnjmmebaa
