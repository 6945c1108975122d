/- BitmapPixelwise: for every pair of bitmaps with a mask, every mode and every point the law grisaillelaw30.BitmapPixelwise returns true. No conditions. -/
import Derived.Test.YtnefnnhnjmmebaaBmLm
import Derived.Test.YtnefnnhnjmmebaaBm7
import Derived.Test.YtnefnnhnjmmebaaEx30
import Derived.Test.YtnefnnhnjmmebaaOpenX
import Derived.Test.YtnefnnhnjmmebaaPlB
import Derived.Test.YtnefnnhnjmmebaaRef09
import Derived.Test.YtnefnnhnjmmebaaPlC
namespace Go.Proofs.Ytnefnnhnjmmebaa
open Go.ChangeShapes Go.WideShapes Go.ChangeAt Go.RowKit
set_option linter.unusedSimpArgs false
set_option linter.unusedVariables false
theorem bwc_pv {mode : Int} (hm : validModeB mode = true) {s d : Px} (hs : s.byte) (hd : d.byte) {k : Int} (h0 : 0 ≤ k) (h1 : k ≤ 255) : pvB (bwcP mode s d k) = true := by
  have h := (blend_ok hm (scale_byte hs h0 h1) hd).1
  exact decide_eq_true ⟨h.r1, h.g1, h.b1⟩

set_option maxHeartbeats 1600000 in
theorem spair_any (s d : Bm) (m : Mk) (w : World) (v : Bool) (hv : Hid ((decide (s.n ≤ 2000) && decide (d.n ≤ 2000) && decide (m.n ≤ 2000)) = v)) :
    Calls Try.prog 22 #[.agg #[.int .i64 s.r.x0, .int .i64 s.r.y0, .int .i64 s.r.x1, .int .i64 s.r.y1, .slice s.A s.n s.c, .int .i64 d.r.x0, .int .i64 d.r.y0, .int .i64 d.r.x1, .int .i64 d.r.y1, .slice d.A d.n d.c, .int .i64 m.r.x0, .int .i64 m.r.y0, .int .i64 m.r.x1, .int .i64 m.r.y1, .slice m.A m.n m.c]] w fun e w' => e = .returned (.bool v) ∧ Below w.heap.size w w' := by
  cases h1 : decide (s.n ≤ 2000) with
  | false =>
    have H1 := Lib.hid h1
    obtain rfl : false = v := by have h := hv.out; rw [h1] at h; exact h
    clear h1 hv
    go_enter Try.func22, Try.ntmps22
    go_wp2_with fail
    refine (small_any s.r s.A s.n s.c _ false H1).mono ?_
    rintro e w1 ⟨rfl, hb1⟩
    go_wp2
    go_ret
    exact ⟨rfl, (by repeat (first | (with_reducible exact Below.refl _ _) | (with_reducible refine balloc ?_ _) | (with_reducible refine Below.drew ?_) | (with_reducible refine bdrewN ?_ _) | ((with_reducible refine bset ?_ ?_ _); rotate_left; focus (first | (with_reducible exact Nat.le_refl _) | (simp; done) | (simp; omega) | omega)) | (with_reducible refine bstep (by with_reducible assumption) ?_)))⟩
  | true =>
    have H1 := Lib.hid h1
    cases h2 : decide (d.n ≤ 2000) with
    | false =>
      have H2 := Lib.hid h2
      obtain rfl : false = v := by have h := hv.out; rw [h1, h2] at h; exact h
      clear h1 h2 hv
      go_enter Try.func22, Try.ntmps22
      go_wp2_with fail
      refine (small_any s.r s.A s.n s.c _ true H1).mono ?_
      rintro e w1 ⟨rfl, hb1⟩
      have kX1 : Bk w1 (w.heap.size) 43 #[.int .i64 s.r.x0, .int .i64 s.r.y0, .int .i64 s.r.x1, .int .i64 s.r.y1, .slice s.A s.n s.c, .int .i64 d.r.x0, .int .i64 d.r.y0, .int .i64 d.r.x1, .int .i64 d.r.y1, .slice d.A d.n d.c, .int .i64 m.r.x0, .int .i64 m.r.y0, .int .i64 m.r.x1, .int .i64 m.r.y1, .slice m.A m.n m.c] := (by repeat (first | (with_reducible assumption) | ((with_reducible refine Bk.new _ _ _ ?_); first | (with_reducible rfl) | (simp; done)) | (with_reducible refine Bk.alloc ?_ _) | (with_reducible refine Bk.drew ?_) | (with_reducible refine Bk.drewN ?_ _) | ((with_reducible refine Bk.far ?_ ?_ _); rotate_left; focus (first | (simp; done) | (simp; omega))) | (with_reducible refine Bk.below ?_ (by with_reducible assumption)))); obtain ⟨kcX1, kfX1, kaX1, kgX1, klX1⟩ := kX1.rules
      go_wp2_with fail
      refine (small_any d.r d.A d.n d.c _ false H2).mono ?_
      rintro e w2 ⟨rfl, hb2⟩
      clear kcX1 kfX1 kaX1 kgX1
      go_wp2
      go_ret
      exact ⟨rfl, (by repeat (first | (with_reducible exact Below.refl _ _) | (with_reducible refine balloc ?_ _) | (with_reducible refine Below.drew ?_) | (with_reducible refine bdrewN ?_ _) | ((with_reducible refine bset ?_ ?_ _); rotate_left; focus (first | (with_reducible exact Nat.le_refl _) | (simp; done) | (simp; omega) | omega)) | (with_reducible refine bstep (by with_reducible assumption) ?_)))⟩
    | true =>
      have H2 := Lib.hid h2
      have H3 : decide (m.n ≤ 2000) = v := by have h := hv.out; rw [h1, h2] at h; exact h
      clear h1 h2 hv
      cases v with
      | false =>
        have H4 : ¬ (m.n ≤ 2000) := of_decide_eq_false H3
        have H5 : ¬ ((m.n : Int) ≤ 2000) := by omega
        clear H3
        go_enter Try.func22, Try.ntmps22
        go_wp2_with fail
        refine (small_any s.r s.A s.n s.c _ true H1).mono ?_
        rintro e w1 ⟨rfl, hb1⟩
        have kX1 : Bk w1 (w.heap.size) 43 #[.int .i64 s.r.x0, .int .i64 s.r.y0, .int .i64 s.r.x1, .int .i64 s.r.y1, .slice s.A s.n s.c, .int .i64 d.r.x0, .int .i64 d.r.y0, .int .i64 d.r.x1, .int .i64 d.r.y1, .slice d.A d.n d.c, .int .i64 m.r.x0, .int .i64 m.r.y0, .int .i64 m.r.x1, .int .i64 m.r.y1, .slice m.A m.n m.c] := (by repeat (first | (with_reducible assumption) | ((with_reducible refine Bk.new _ _ _ ?_); first | (with_reducible rfl) | (simp; done)) | (with_reducible refine Bk.alloc ?_ _) | (with_reducible refine Bk.drew ?_) | (with_reducible refine Bk.drewN ?_ _) | ((with_reducible refine Bk.far ?_ ?_ _); rotate_left; focus (first | (simp; done) | (simp; omega))) | (with_reducible refine Bk.below ?_ (by with_reducible assumption)))); obtain ⟨kcX1, kfX1, kaX1, kgX1, klX1⟩ := kX1.rules
        go_wp2_with fail
        refine (small_any d.r d.A d.n d.c _ true H2).mono ?_
        rintro e w2 ⟨rfl, hb2⟩
        clear kcX1 kfX1 kaX1 kgX1
        have kX2 : Bk w2 (w.heap.size) 43 #[.int .i64 s.r.x0, .int .i64 s.r.y0, .int .i64 s.r.x1, .int .i64 s.r.y1, .slice s.A s.n s.c, .int .i64 d.r.x0, .int .i64 d.r.y0, .int .i64 d.r.x1, .int .i64 d.r.y1, .slice d.A d.n d.c, .int .i64 m.r.x0, .int .i64 m.r.y0, .int .i64 m.r.x1, .int .i64 m.r.y1, .slice m.A m.n m.c] := (by repeat (first | (with_reducible assumption) | ((with_reducible refine Bk.new _ _ _ ?_); first | (with_reducible rfl) | (simp; done)) | (with_reducible refine Bk.alloc ?_ _) | (with_reducible refine Bk.drew ?_) | (with_reducible refine Bk.drewN ?_ _) | ((with_reducible refine Bk.far ?_ ?_ _); rotate_left; focus (first | (simp; done) | (simp; omega))) | (with_reducible refine Bk.below ?_ (by with_reducible assumption)))); obtain ⟨kcX2, kfX2, kaX2, kgX2, klX2⟩ := kX2.rules
        go_wp2
        go_ret
        exact ⟨by first | rfl | exact ret_bool (by simp; omega) | exact ret_bool (by simp [H4]), (by repeat (first | (with_reducible exact Below.refl _ _) | (with_reducible refine balloc ?_ _) | (with_reducible refine Below.drew ?_) | (with_reducible refine bdrewN ?_ _) | ((with_reducible refine bset ?_ ?_ _); rotate_left; focus (first | (with_reducible exact Nat.le_refl _) | (simp; done) | (simp; omega) | omega)) | (with_reducible refine bstep (by with_reducible assumption) ?_)))⟩
      | true =>
        have H4 : m.n ≤ 2000 := of_decide_eq_true H3
        have H5 : (m.n : Int) ≤ 2000 := by omega
        clear H3
        go_enter Try.func22, Try.ntmps22
        go_wp2_with fail
        refine (small_any s.r s.A s.n s.c _ true H1).mono ?_
        rintro e w1 ⟨rfl, hb1⟩
        have kX1 : Bk w1 (w.heap.size) 43 #[.int .i64 s.r.x0, .int .i64 s.r.y0, .int .i64 s.r.x1, .int .i64 s.r.y1, .slice s.A s.n s.c, .int .i64 d.r.x0, .int .i64 d.r.y0, .int .i64 d.r.x1, .int .i64 d.r.y1, .slice d.A d.n d.c, .int .i64 m.r.x0, .int .i64 m.r.y0, .int .i64 m.r.x1, .int .i64 m.r.y1, .slice m.A m.n m.c] := (by repeat (first | (with_reducible assumption) | ((with_reducible refine Bk.new _ _ _ ?_); first | (with_reducible rfl) | (simp; done)) | (with_reducible refine Bk.alloc ?_ _) | (with_reducible refine Bk.drew ?_) | (with_reducible refine Bk.drewN ?_ _) | ((with_reducible refine Bk.far ?_ ?_ _); rotate_left; focus (first | (simp; done) | (simp; omega))) | (with_reducible refine Bk.below ?_ (by with_reducible assumption)))); obtain ⟨kcX1, kfX1, kaX1, kgX1, klX1⟩ := kX1.rules
        go_wp2_with fail
        refine (small_any d.r d.A d.n d.c _ true H2).mono ?_
        rintro e w2 ⟨rfl, hb2⟩
        clear kcX1 kfX1 kaX1 kgX1
        have kX2 : Bk w2 (w.heap.size) 43 #[.int .i64 s.r.x0, .int .i64 s.r.y0, .int .i64 s.r.x1, .int .i64 s.r.y1, .slice s.A s.n s.c, .int .i64 d.r.x0, .int .i64 d.r.y0, .int .i64 d.r.x1, .int .i64 d.r.y1, .slice d.A d.n d.c, .int .i64 m.r.x0, .int .i64 m.r.y0, .int .i64 m.r.x1, .int .i64 m.r.y1, .slice m.A m.n m.c] := (by repeat (first | (with_reducible assumption) | ((with_reducible refine Bk.new _ _ _ ?_); first | (with_reducible rfl) | (simp; done)) | (with_reducible refine Bk.alloc ?_ _) | (with_reducible refine Bk.drew ?_) | (with_reducible refine Bk.drewN ?_ _) | ((with_reducible refine Bk.far ?_ ?_ _); rotate_left; focus (first | (simp; done) | (simp; omega))) | (with_reducible refine Bk.below ?_ (by with_reducible assumption)))); obtain ⟨kcX2, kfX2, kaX2, kgX2, klX2⟩ := kX2.rules
        go_wp2
        go_ret
        exact ⟨by first | rfl | exact ret_bool (by simp; omega) | exact ret_bool (by simp [H4]), (by repeat (first | (with_reducible exact Below.refl _ _) | (with_reducible refine balloc ?_ _) | (with_reducible refine Below.drew ?_) | (with_reducible refine bdrewN ?_ _) | ((with_reducible refine bset ?_ ?_ _); rotate_left; focus (first | (with_reducible exact Nat.le_refl _) | (simp; done) | (simp; omega) | omega)) | (with_reducible refine bstep (by with_reducible assumption) ?_)))⟩
theorem bo_len (mode : Int) (s d : Bm) (m : Mk) : (boL mode s d m).length ≤ 67108864 := by
  unfold boL
  split
  · next h =>
    have hv : bmValid d.r d.l = true := by unfold boV vBm at h; simp at h; exact h.1.1.2
    have h3 := pix_len (boG mode s d m) d.r
    rw [(valid_cn hv).1] at h3
    have := (area_bd d.r).2
    omega
  · simp
theorem lm_len (s d : Bm) (m : Mk) : (lmL s d m).length ≤ 67108864 := by
  unfold lmL
  split
  · next h =>
    have hv : bmValid s.r s.l = true := by unfold lmV vBm at h; simp at h; exact h.1.1
    have h3 := pix_len (lmG s d m) s.r
    rw [(valid_cn hv).1] at h3
    have := (area_bd s.r).2
    omega
  · simp

set_option maxRecDepth 100000 in
set_option maxHeartbeats 6400000 in
theorem walk_BitmapPixelwise (s d : Bm) (m : Mk) (mode x y : Int) (w : World) (hs : s.ok w) (hd : d.ok w) (hm : m.ok w) :
    Calls Try.prog 5 #[.agg #[.int .i64 s.r.x0, .int .i64 s.r.y0, .int .i64 s.r.x1, .int .i64 s.r.y1, .slice s.A s.n s.c, .int .i64 d.r.x0, .int .i64 d.r.y0, .int .i64 d.r.x1, .int .i64 d.r.y1, .slice d.A d.n d.c, .int .i64 m.r.x0, .int .i64 m.r.y0, .int .i64 m.r.x1, .int .i64 m.r.y1, .slice m.A m.n m.c], .int .i64 mode, .agg #[.int .i64 x, .int .i64 y]] w fun e w' => e = .returned (.bool true) ∧ Below w.heap.size w w' := by
  have HS := Lib.hid hs
  have HD := Lib.hid hd
  have HM := Lib.hid hm
  clear hs hd hm
  cases hsp : (decide (s.n ≤ 2000) && decide (d.n ≤ 2000) && decide (m.n ≤ 2000)) with
  | false =>
    have HSP := Lib.hid hsp
    clear hsp
    go_enter Try.func5, Try.ntmps5
    go_wp2_with fail
    refine (spair_any s d m _ false HSP).mono ?_
    rintro e w1 ⟨rfl, hb1⟩
    go_wp2_with fail
    refine (ex_any _).mono ?_
    rintro e w2 ⟨rfl, hb2⟩
    go_wp2
    go_ret
    exact ⟨rfl, (by repeat (first | (with_reducible exact Below.refl _ _) | (with_reducible refine balloc ?_ _) | (with_reducible refine Below.drew ?_) | (with_reducible refine bdrewN ?_ _) | ((with_reducible refine bset ?_ ?_ _); rotate_left; focus (first | (with_reducible exact Nat.le_refl _) | (simp; done) | (simp; omega) | omega)) | (with_reducible refine bstep (by with_reducible assumption) ?_)))⟩
  | true =>
    have HSP := Lib.hid hsp
    obtain ⟨l1, l2, l3⟩ : s.n ≤ 2000 ∧ d.n ≤ 2000 ∧ m.n ≤ 2000 := by simpa [and_assoc] using hsp
    clear hsp
    obtain ⟨R0, HR0⟩ : ∃ u, Hid (boR mode s d m = u) := ⟨_, rfl⟩
    obtain ⟨L0, HL0⟩ : ∃ u, Hid (boL mode s d m = u) := ⟨_, rfl⟩
    obtain ⟨R1, HR1⟩ : ∃ u, Hid (lmR d s m = u) := ⟨_, rfl⟩
    obtain ⟨L1, HL1⟩ : ∃ u, Hid (lmL d s m = u) := ⟨_, rfl⟩
    obtain ⟨n0, Hn0⟩ : ∃ u, Hid (L0.length = u) := ⟨_, rfl⟩
    obtain ⟨n1, Hn1⟩ : ∃ u, Hid (L1.length = u) := ⟨_, rfl⟩
    have hn0 : n0 ≤ 67108864 := by rw [← Hn0.out, ← HL0.out]; exact bo_len _ _ _ _
    have hn1 : n1 ≤ 67108864 := by rw [← Hn1.out, ← HL1.out]; exact lm_len _ _ _
    cases h1 : (vBm s && vBm d) with
    | false =>
      have eb : boE mode s d m = 15 := by unfold boE; rw [h1]; rfl
      have el : lmE d s m = 15 := by unfold lmE; rw [Bool.and_comm, h1]; rfl
      clear h1
      have HBo : Hid (∀ (W : World), s.ok W → d.ok W → m.ok W → Calls Try.prog 23 #[.int .i64 mode, .agg #[.int .i64 s.r.x0, .int .i64 s.r.y0, .int .i64 s.r.x1, .int .i64 s.r.y1, .slice s.A s.n s.c], .agg #[.int .i64 d.r.x0, .int .i64 d.r.y0, .int .i64 d.r.x1, .int .i64 d.r.y1, .slice d.A d.n d.c], .agg #[.int .i64 m.r.x0, .int .i64 m.r.y0, .int .i64 m.r.x1, .int .i64 m.r.y1, .slice m.A m.n m.c]] W (RetBE R0 L0 15 W)) := fun W h1 h2 h3 => by
        have := bo_any mode s d m W h1 h2 h3 (by omega) (by omega) (by omega)
        rw [HR0.out, HL0.out, eb] at this
        exact this
      have HLm : Hid (∀ (W : World), s.ok W → d.ok W → m.ok W → Calls Try.prog 24 #[.agg #[.int .i64 d.r.x0, .int .i64 d.r.y0, .int .i64 d.r.x1, .int .i64 d.r.y1, .slice d.A d.n d.c], .agg #[.int .i64 s.r.x0, .int .i64 s.r.y0, .int .i64 s.r.x1, .int .i64 s.r.y1, .slice s.A s.n s.c], .agg #[.int .i64 m.r.x0, .int .i64 m.r.y0, .int .i64 m.r.x1, .int .i64 m.r.y1, .slice m.A m.n m.c]] W (RetBE R1 L1 15 W)) := fun W h1 h2 h3 => by
        have := lm_any d s m W h2 h1 h3 (by omega) (by omega) (by omega)
        rw [HR1.out, HL1.out, el] at this
        exact this
      clear eb el
      cases hcc : containsB d.r x y with
      | false =>
        have Hcc : Hid (containsB ⟨d.r.x0, d.r.y0, d.r.x1, d.r.y1⟩ x y = false) := hcc
        clear hcc
        go_enter Try.func5, Try.ntmps5
        go_wp2_with fail
        refine (spair_any s d m _ true HSP).mono ?_
        rintro e w1 ⟨rfl, hb1⟩
        have kX1 : Bk w1 (w.heap.size) 43 #[.int .i64 s.r.x0, .int .i64 s.r.y0, .int .i64 s.r.x1, .int .i64 s.r.y1, .slice s.A s.n s.c, .int .i64 d.r.x0, .int .i64 d.r.y0, .int .i64 d.r.x1, .int .i64 d.r.y1, .slice d.A d.n d.c, .int .i64 m.r.x0, .int .i64 m.r.y0, .int .i64 m.r.x1, .int .i64 m.r.y1, .slice m.A m.n m.c] := (by repeat (first | (with_reducible assumption) | ((with_reducible refine Bk.new _ _ _ ?_); first | (with_reducible rfl) | (simp; done)) | (with_reducible refine Bk.alloc ?_ _) | (with_reducible refine Bk.drew ?_) | (with_reducible refine Bk.drewN ?_ _) | ((with_reducible refine Bk.far ?_ ?_ _); rotate_left; focus (first | (simp; done) | (simp; omega))) | (with_reducible refine Bk.below ?_ (by with_reducible assumption)))); obtain ⟨kcX1, kfX1, kaX1, kgX1, klX1⟩ := kX1.rules
        go_wp2_with fail
        refine (HBo.out _ (HS.out.below (by repeat (first | (with_reducible exact Below.refl _ _) | (with_reducible refine balloc ?_ _) | (with_reducible refine Below.drew ?_) | (with_reducible refine bdrewN ?_ _) | ((with_reducible refine bset ?_ ?_ _); rotate_left; focus (first | (with_reducible exact Nat.le_refl _) | (simp; done) | (simp; omega) | omega)) | (with_reducible refine bstep (by with_reducible assumption) ?_)))) (HD.out.below (by repeat (first | (with_reducible exact Below.refl _ _) | (with_reducible refine balloc ?_ _) | (with_reducible refine Below.drew ?_) | (with_reducible refine bdrewN ?_ _) | ((with_reducible refine bset ?_ ?_ _); rotate_left; focus (first | (with_reducible exact Nat.le_refl _) | (simp; done) | (simp; omega) | omega)) | (with_reducible refine bstep (by with_reducible assumption) ?_)))) (HM.out.below (by repeat (first | (with_reducible exact Below.refl _ _) | (with_reducible refine balloc ?_ _) | (with_reducible refine Below.drew ?_) | (with_reducible refine bdrewN ?_ _) | ((with_reducible refine bset ?_ ?_ _); rotate_left; focus (first | (with_reducible exact Nat.le_refl _) | (simp; done) | (simp; omega) | omega)) | (with_reducible refine bstep (by with_reducible assumption) ?_))))).mono ?_
        rintro e w2 ⟨v2, rfl, ho2, hb2⟩
        clear kcX1 kfX1 kaX1 kgX1
        have kX2 : Bk w2 (w.heap.size) 43 #[.int .i64 s.r.x0, .int .i64 s.r.y0, .int .i64 s.r.x1, .int .i64 s.r.y1, .slice s.A s.n s.c, .int .i64 d.r.x0, .int .i64 d.r.y0, .int .i64 d.r.x1, .int .i64 d.r.y1, .slice d.A d.n d.c, .int .i64 m.r.x0, .int .i64 m.r.y0, .int .i64 m.r.x1, .int .i64 m.r.y1, .slice m.A m.n m.c] := (by repeat (first | (with_reducible assumption) | ((with_reducible refine Bk.new _ _ _ ?_); first | (with_reducible rfl) | (simp; done)) | (with_reducible refine Bk.alloc ?_ _) | (with_reducible refine Bk.drew ?_) | (with_reducible refine Bk.drewN ?_ _) | ((with_reducible refine Bk.far ?_ ?_ _); rotate_left; focus (first | (simp; done) | (simp; omega))) | (with_reducible refine Bk.below ?_ (by with_reducible assumption)))); obtain ⟨kcX2, kfX2, kaX2, kgX2, klX2⟩ := kX2.rules
        obtain ⟨A2, c2, hv2, hr2, hle2, hmx2⟩ := ho2.form2 encP_len
        rw [Hn0.out] at hv2 hle2
        subst hv2
        have HR2 := Lib.hid hr2
        have HC2 := Lib.hid (And.intro hle2 hmx2)
        clear hr2 hle2 hmx2
        clear ho2
        
        have kA2 : Bk _ _ _ _ := Bk.new w2 28 #[.int .i64 R0.x0, .int .i64 R0.y0, .int .i64 R0.x1, .int .i64 R0.y1, .slice A2 n0 c2] rfl
        go_wp2_with fail
        refine (HLm.out _ (HS.out.below (by repeat (first | (with_reducible exact Below.refl _ _) | (with_reducible refine balloc ?_ _) | (with_reducible refine Below.drew ?_) | (with_reducible refine bdrewN ?_ _) | ((with_reducible refine bset ?_ ?_ _); rotate_left; focus (first | (with_reducible exact Nat.le_refl _) | (simp; done) | (simp; omega) | omega)) | (with_reducible refine bstep (by with_reducible assumption) ?_)))) (HD.out.below (by repeat (first | (with_reducible exact Below.refl _ _) | (with_reducible refine balloc ?_ _) | (with_reducible refine Below.drew ?_) | (with_reducible refine bdrewN ?_ _) | ((with_reducible refine bset ?_ ?_ _); rotate_left; focus (first | (with_reducible exact Nat.le_refl _) | (simp; done) | (simp; omega) | omega)) | (with_reducible refine bstep (by with_reducible assumption) ?_)))) (HM.out.below (by repeat (first | (with_reducible exact Below.refl _ _) | (with_reducible refine balloc ?_ _) | (with_reducible refine Below.drew ?_) | (with_reducible refine bdrewN ?_ _) | ((with_reducible refine bset ?_ ?_ _); rotate_left; focus (first | (with_reducible exact Nat.le_refl _) | (simp; done) | (simp; omega) | omega)) | (with_reducible refine bstep (by with_reducible assumption) ?_))))).mono ?_
        rintro e w3 ⟨v3, rfl, ho3, hb3⟩
        clear kcX2 kfX2 kaX2 kgX2
        have kX3 : Bk w3 (w.heap.size) 43 #[.int .i64 s.r.x0, .int .i64 s.r.y0, .int .i64 s.r.x1, .int .i64 s.r.y1, .slice s.A s.n s.c, .int .i64 d.r.x0, .int .i64 d.r.y0, .int .i64 d.r.x1, .int .i64 d.r.y1, .slice d.A d.n d.c, .int .i64 m.r.x0, .int .i64 m.r.y0, .int .i64 m.r.x1, .int .i64 m.r.y1, .slice m.A m.n m.c] := (by repeat (first | (with_reducible assumption) | ((with_reducible refine Bk.new _ _ _ ?_); first | (with_reducible rfl) | (simp; done)) | (with_reducible refine Bk.alloc ?_ _) | (with_reducible refine Bk.drew ?_) | (with_reducible refine Bk.drewN ?_ _) | ((with_reducible refine Bk.far ?_ ?_ _); rotate_left; focus (first | (simp; done) | (simp; omega))) | (with_reducible refine Bk.below ?_ (by with_reducible assumption)))); obtain ⟨kcX3, kfX3, kaX3, kgX3, klX3⟩ := kX3.rules; have kQ3 : Bk w3 (w.heap.size + 1) 44 #[.int .i64 x, .int .i64 y] := (by repeat (first | (with_reducible assumption) | ((with_reducible refine Bk.new _ _ _ ?_); first | (with_reducible rfl) | (simp; done)) | (with_reducible refine Bk.alloc ?_ _) | (with_reducible refine Bk.drew ?_) | (with_reducible refine Bk.drewN ?_ _) | ((with_reducible refine Bk.far ?_ ?_ _); rotate_left; focus (first | (simp; done) | (simp; omega))) | (with_reducible refine Bk.below ?_ (by with_reducible assumption)))); obtain ⟨kcQ3, kfQ3, kaQ3, kgQ3, klQ3⟩ := kQ3.rules
        obtain ⟨A3, c3, hv3, hr3, hle3, hmx3⟩ := ho3.form2 encP_len
        rw [Hn1.out] at hv3 hle3
        subst hv3
        have HR3 := Lib.hid hr3
        have HC3 := Lib.hid (And.intro hle3 hmx3)
        clear hr3 hle3 hmx3
        clear ho3
        
        have kX4 : Bk (w3.alloc (.cells #[.int .i64 R1.x0, .int .i64 R1.y0, .int .i64 R1.x1, .int .i64 R1.y1, .slice A3 n1 c3] 28)) (w.heap.size) 43 #[.int .i64 s.r.x0, .int .i64 s.r.y0, .int .i64 s.r.x1, .int .i64 s.r.y1, .slice s.A s.n s.c, .int .i64 d.r.x0, .int .i64 d.r.y0, .int .i64 d.r.x1, .int .i64 d.r.y1, .slice d.A d.n d.c, .int .i64 m.r.x0, .int .i64 m.r.y0, .int .i64 m.r.x1, .int .i64 m.r.y1, .slice m.A m.n m.c] := (by repeat (first | (with_reducible assumption) | ((with_reducible refine Bk.new _ _ _ ?_); first | (with_reducible rfl) | (simp; done)) | (with_reducible refine Bk.alloc ?_ _) | (with_reducible refine Bk.drew ?_) | (with_reducible refine Bk.drewN ?_ _) | ((with_reducible refine Bk.far ?_ ?_ _); rotate_left; focus (first | (simp; done) | (simp; omega))) | (with_reducible refine Bk.below ?_ (by with_reducible assumption))))
        have kQ4 : Bk (w3.alloc (.cells #[.int .i64 R1.x0, .int .i64 R1.y0, .int .i64 R1.x1, .int .i64 R1.y1, .slice A3 n1 c3] 28)) (w.heap.size + 1) 44 #[.int .i64 x, .int .i64 y] := (by repeat (first | (with_reducible assumption) | ((with_reducible refine Bk.new _ _ _ ?_); first | (with_reducible rfl) | (simp; done)) | (with_reducible refine Bk.alloc ?_ _) | (with_reducible refine Bk.drew ?_) | (with_reducible refine Bk.drewN ?_ _) | ((with_reducible refine Bk.far ?_ ?_ _); rotate_left; focus (first | (simp; done) | (simp; omega))) | (with_reducible refine Bk.below ?_ (by with_reducible assumption))))
        have kA4 : Bk (w3.alloc (.cells #[.int .i64 R1.x0, .int .i64 R1.y0, .int .i64 R1.x1, .int .i64 R1.y1, .slice A3 n1 c3] 28)) (w2.heap.size) 28 #[.int .i64 R0.x0, .int .i64 R0.y0, .int .i64 R0.x1, .int .i64 R0.y1, .slice A2 n0 c2] := (by repeat (first | (with_reducible assumption) | ((with_reducible refine Bk.new _ _ _ ?_); first | (with_reducible rfl) | (simp; done)) | (with_reducible refine Bk.alloc ?_ _) | (with_reducible refine Bk.drew ?_) | (with_reducible refine Bk.drewN ?_ _) | ((with_reducible refine Bk.far ?_ ?_ _); rotate_left; focus (first | (simp; done) | (simp; omega))) | (with_reducible refine Bk.below ?_ (by with_reducible assumption))))
        have kB4 : Bk (w3.alloc (.cells #[.int .i64 R1.x0, .int .i64 R1.y0, .int .i64 R1.x1, .int .i64 R1.y1, .slice A3 n1 c3] 28)) (w3.heap.size) 28 #[.int .i64 R1.x0, .int .i64 R1.y0, .int .i64 R1.x1, .int .i64 R1.y1, .slice A3 n1 c3] := Bk.new _ _ _ rfl
        have hB4 : Below w.heap.size w (w3.alloc (.cells #[.int .i64 R1.x0, .int .i64 R1.y0, .int .i64 R1.x1, .int .i64 R1.y1, .slice A3 n1 c3] 28)) := (by repeat (first | (with_reducible exact Below.refl _ _) | (with_reducible refine balloc ?_ _) | (with_reducible refine Below.drew ?_) | (with_reducible refine bdrewN ?_ _) | ((with_reducible refine bset ?_ ?_ _); rotate_left; focus (first | (with_reducible exact Nat.le_refl _) | (simp; done) | (simp; omega) | omega)) | (with_reducible refine bstep (by with_reducible assumption) ?_)))
        have hrA : RdL encP 4 (w3.alloc (.cells #[.int .i64 R1.x0, .int .i64 R1.y0, .int .i64 R1.x1, .int .i64 R1.y1, .slice A3 n1 c3] 28)) A2 L0 := HR2.out.below (by repeat (first | (with_reducible exact Below.refl _ _) | (with_reducible refine balloc ?_ _) | (with_reducible refine Below.drew ?_) | (with_reducible refine bdrewN ?_ _) | ((with_reducible refine bset ?_ ?_ _); rotate_left; focus (first | (with_reducible exact Nat.le_refl _) | (simp; done) | (simp; omega) | omega)) | (with_reducible refine bstep (by with_reducible assumption) ?_)))
        have HXA := Lib.hid hrA
        have hrB : RdL encP 4 (w3.alloc (.cells #[.int .i64 R1.x0, .int .i64 R1.y0, .int .i64 R1.x1, .int .i64 R1.y1, .slice A3 n1 c3] 28)) A3 L1 := HR3.out.below (by repeat (first | (with_reducible exact Below.refl _ _) | (with_reducible refine balloc ?_ _) | (with_reducible refine Below.drew ?_) | (with_reducible refine bdrewN ?_ _) | ((with_reducible refine bset ?_ ?_ _); rotate_left; focus (first | (with_reducible exact Nat.le_refl _) | (simp; done) | (simp; omega) | omega)) | (with_reducible refine bstep (by with_reducible assumption) ?_)))
        have HXB := Lib.hid hrB
        clear hrA hrB
        go_wp2_with fail
        clear kcX3 kfX3 kaX3 kgX3 kcQ3 kfQ3 kaQ3 kgQ3
        generalize (w3.alloc (.cells #[.int .i64 R1.x0, .int .i64 R1.y0, .int .i64 R1.x1, .int .i64 R1.y1, .slice A3 n1 c3] 28)) = W0 at kX4 kQ4 kA4 kB4 hB4 HXA HXB ⊢
        refine wp_region_gob 6 [(0, true), (1, true), (2, true), (3, true), (4, true), (5, true)] (by kernel_rfl) (by kernel_rfl) (fun c a d v w h => by cases d <;> exact h) ?_
        repeat (first | (refine wpGo_pure (v := ?_) rfl rfl (fun w' hS => ?_) ?_; rotate_left; (· have kQp : Bk w' (w.heap.size + 1) 44 #[.int .i64 x, .int .i64 y] := (by repeat (first | (with_reducible assumption) | ((with_reducible refine Bk.new _ _ _ ?_); first | (with_reducible rfl) | (simp; done)) | (with_reducible refine Bk.alloc ?_ _) | (with_reducible refine Bk.drew ?_) | (with_reducible refine Bk.drewN ?_ _) | ((with_reducible refine Bk.far ?_ ?_ _); rotate_left; focus (first | (simp; done) | (simp; omega))) | (with_reducible refine Bk.below ?_ (by with_reducible assumption)))); obtain ⟨kcQp, kfQp, kaQp, kgQp, klQp⟩ := kQp.rules; go_simp; exact rfl); (try simp only [Act.put, List.setIfInBounds_toArray, List.set_cons_zero, List.set_cons_succ])) | ((refine wpGo_skip rfl rfl ?_); (try simp only [Act.put, List.setIfInBounds_toArray, List.set_cons_zero, List.set_cons_succ])))
        refine wpGo_nil ?_
        simp only [List.drop_succ_cons, List.drop_zero]
        have kX5 := kX4.drew
        have kQ5 := kQ4.drew
        have kA5 := kA4.drew
        have kB5 := kB4.drew
        have hB5 := hB4.drew
        clear kQ4
        obtain ⟨kcX5, kfX5, kaX5, kgX5, klX5⟩ := kX5.rules
        go_wp2_with fail
        refine (rcontains_q _ _ _ _ _ _ false Hcc _).mono ?_
        rintro e w6 ⟨rfl, hb6⟩
        clear kcX5 kfX5 kaX5 kgX5
        have hB6 : Below w.heap.size w w6 := bstep hb6 hB5
        clear hB5 hb6
        go_wp2_with fail
        refine (ex_any _).mono ?_
        rintro e w7 ⟨rfl, hb7⟩
        go_wp2
        go_ret
        exact ⟨rfl, bstep hb7 hB6⟩
      | true =>
        have Hcc : Hid (containsB ⟨d.r.x0, d.r.y0, d.r.x1, d.r.y1⟩ x y = true) := hcc
        clear hcc
        go_enter Try.func5, Try.ntmps5
        go_wp2_with fail
        refine (spair_any s d m _ true HSP).mono ?_
        rintro e w1 ⟨rfl, hb1⟩
        have kX1 : Bk w1 (w.heap.size) 43 #[.int .i64 s.r.x0, .int .i64 s.r.y0, .int .i64 s.r.x1, .int .i64 s.r.y1, .slice s.A s.n s.c, .int .i64 d.r.x0, .int .i64 d.r.y0, .int .i64 d.r.x1, .int .i64 d.r.y1, .slice d.A d.n d.c, .int .i64 m.r.x0, .int .i64 m.r.y0, .int .i64 m.r.x1, .int .i64 m.r.y1, .slice m.A m.n m.c] := (by repeat (first | (with_reducible assumption) | ((with_reducible refine Bk.new _ _ _ ?_); first | (with_reducible rfl) | (simp; done)) | (with_reducible refine Bk.alloc ?_ _) | (with_reducible refine Bk.drew ?_) | (with_reducible refine Bk.drewN ?_ _) | ((with_reducible refine Bk.far ?_ ?_ _); rotate_left; focus (first | (simp; done) | (simp; omega))) | (with_reducible refine Bk.below ?_ (by with_reducible assumption)))); obtain ⟨kcX1, kfX1, kaX1, kgX1, klX1⟩ := kX1.rules
        go_wp2_with fail
        refine (HBo.out _ (HS.out.below (by repeat (first | (with_reducible exact Below.refl _ _) | (with_reducible refine balloc ?_ _) | (with_reducible refine Below.drew ?_) | (with_reducible refine bdrewN ?_ _) | ((with_reducible refine bset ?_ ?_ _); rotate_left; focus (first | (with_reducible exact Nat.le_refl _) | (simp; done) | (simp; omega) | omega)) | (with_reducible refine bstep (by with_reducible assumption) ?_)))) (HD.out.below (by repeat (first | (with_reducible exact Below.refl _ _) | (with_reducible refine balloc ?_ _) | (with_reducible refine Below.drew ?_) | (with_reducible refine bdrewN ?_ _) | ((with_reducible refine bset ?_ ?_ _); rotate_left; focus (first | (with_reducible exact Nat.le_refl _) | (simp; done) | (simp; omega) | omega)) | (with_reducible refine bstep (by with_reducible assumption) ?_)))) (HM.out.below (by repeat (first | (with_reducible exact Below.refl _ _) | (with_reducible refine balloc ?_ _) | (with_reducible refine Below.drew ?_) | (with_reducible refine bdrewN ?_ _) | ((with_reducible refine bset ?_ ?_ _); rotate_left; focus (first | (with_reducible exact Nat.le_refl _) | (simp; done) | (simp; omega) | omega)) | (with_reducible refine bstep (by with_reducible assumption) ?_))))).mono ?_
        rintro e w2 ⟨v2, rfl, ho2, hb2⟩
        clear kcX1 kfX1 kaX1 kgX1
        have kX2 : Bk w2 (w.heap.size) 43 #[.int .i64 s.r.x0, .int .i64 s.r.y0, .int .i64 s.r.x1, .int .i64 s.r.y1, .slice s.A s.n s.c, .int .i64 d.r.x0, .int .i64 d.r.y0, .int .i64 d.r.x1, .int .i64 d.r.y1, .slice d.A d.n d.c, .int .i64 m.r.x0, .int .i64 m.r.y0, .int .i64 m.r.x1, .int .i64 m.r.y1, .slice m.A m.n m.c] := (by repeat (first | (with_reducible assumption) | ((with_reducible refine Bk.new _ _ _ ?_); first | (with_reducible rfl) | (simp; done)) | (with_reducible refine Bk.alloc ?_ _) | (with_reducible refine Bk.drew ?_) | (with_reducible refine Bk.drewN ?_ _) | ((with_reducible refine Bk.far ?_ ?_ _); rotate_left; focus (first | (simp; done) | (simp; omega))) | (with_reducible refine Bk.below ?_ (by with_reducible assumption)))); obtain ⟨kcX2, kfX2, kaX2, kgX2, klX2⟩ := kX2.rules
        obtain ⟨A2, c2, hv2, hr2, hle2, hmx2⟩ := ho2.form2 encP_len
        rw [Hn0.out] at hv2 hle2
        subst hv2
        have HR2 := Lib.hid hr2
        have HC2 := Lib.hid (And.intro hle2 hmx2)
        clear hr2 hle2 hmx2
        clear ho2
        
        have kA2 : Bk _ _ _ _ := Bk.new w2 28 #[.int .i64 R0.x0, .int .i64 R0.y0, .int .i64 R0.x1, .int .i64 R0.y1, .slice A2 n0 c2] rfl
        go_wp2_with fail
        refine (HLm.out _ (HS.out.below (by repeat (first | (with_reducible exact Below.refl _ _) | (with_reducible refine balloc ?_ _) | (with_reducible refine Below.drew ?_) | (with_reducible refine bdrewN ?_ _) | ((with_reducible refine bset ?_ ?_ _); rotate_left; focus (first | (with_reducible exact Nat.le_refl _) | (simp; done) | (simp; omega) | omega)) | (with_reducible refine bstep (by with_reducible assumption) ?_)))) (HD.out.below (by repeat (first | (with_reducible exact Below.refl _ _) | (with_reducible refine balloc ?_ _) | (with_reducible refine Below.drew ?_) | (with_reducible refine bdrewN ?_ _) | ((with_reducible refine bset ?_ ?_ _); rotate_left; focus (first | (with_reducible exact Nat.le_refl _) | (simp; done) | (simp; omega) | omega)) | (with_reducible refine bstep (by with_reducible assumption) ?_)))) (HM.out.below (by repeat (first | (with_reducible exact Below.refl _ _) | (with_reducible refine balloc ?_ _) | (with_reducible refine Below.drew ?_) | (with_reducible refine bdrewN ?_ _) | ((with_reducible refine bset ?_ ?_ _); rotate_left; focus (first | (with_reducible exact Nat.le_refl _) | (simp; done) | (simp; omega) | omega)) | (with_reducible refine bstep (by with_reducible assumption) ?_))))).mono ?_
        rintro e w3 ⟨v3, rfl, ho3, hb3⟩
        clear kcX2 kfX2 kaX2 kgX2
        have kX3 : Bk w3 (w.heap.size) 43 #[.int .i64 s.r.x0, .int .i64 s.r.y0, .int .i64 s.r.x1, .int .i64 s.r.y1, .slice s.A s.n s.c, .int .i64 d.r.x0, .int .i64 d.r.y0, .int .i64 d.r.x1, .int .i64 d.r.y1, .slice d.A d.n d.c, .int .i64 m.r.x0, .int .i64 m.r.y0, .int .i64 m.r.x1, .int .i64 m.r.y1, .slice m.A m.n m.c] := (by repeat (first | (with_reducible assumption) | ((with_reducible refine Bk.new _ _ _ ?_); first | (with_reducible rfl) | (simp; done)) | (with_reducible refine Bk.alloc ?_ _) | (with_reducible refine Bk.drew ?_) | (with_reducible refine Bk.drewN ?_ _) | ((with_reducible refine Bk.far ?_ ?_ _); rotate_left; focus (first | (simp; done) | (simp; omega))) | (with_reducible refine Bk.below ?_ (by with_reducible assumption)))); obtain ⟨kcX3, kfX3, kaX3, kgX3, klX3⟩ := kX3.rules; have kQ3 : Bk w3 (w.heap.size + 1) 44 #[.int .i64 x, .int .i64 y] := (by repeat (first | (with_reducible assumption) | ((with_reducible refine Bk.new _ _ _ ?_); first | (with_reducible rfl) | (simp; done)) | (with_reducible refine Bk.alloc ?_ _) | (with_reducible refine Bk.drew ?_) | (with_reducible refine Bk.drewN ?_ _) | ((with_reducible refine Bk.far ?_ ?_ _); rotate_left; focus (first | (simp; done) | (simp; omega))) | (with_reducible refine Bk.below ?_ (by with_reducible assumption)))); obtain ⟨kcQ3, kfQ3, kaQ3, kgQ3, klQ3⟩ := kQ3.rules
        obtain ⟨A3, c3, hv3, hr3, hle3, hmx3⟩ := ho3.form2 encP_len
        rw [Hn1.out] at hv3 hle3
        subst hv3
        have HR3 := Lib.hid hr3
        have HC3 := Lib.hid (And.intro hle3 hmx3)
        clear hr3 hle3 hmx3
        clear ho3
        
        have kX4 : Bk (w3.alloc (.cells #[.int .i64 R1.x0, .int .i64 R1.y0, .int .i64 R1.x1, .int .i64 R1.y1, .slice A3 n1 c3] 28)) (w.heap.size) 43 #[.int .i64 s.r.x0, .int .i64 s.r.y0, .int .i64 s.r.x1, .int .i64 s.r.y1, .slice s.A s.n s.c, .int .i64 d.r.x0, .int .i64 d.r.y0, .int .i64 d.r.x1, .int .i64 d.r.y1, .slice d.A d.n d.c, .int .i64 m.r.x0, .int .i64 m.r.y0, .int .i64 m.r.x1, .int .i64 m.r.y1, .slice m.A m.n m.c] := (by repeat (first | (with_reducible assumption) | ((with_reducible refine Bk.new _ _ _ ?_); first | (with_reducible rfl) | (simp; done)) | (with_reducible refine Bk.alloc ?_ _) | (with_reducible refine Bk.drew ?_) | (with_reducible refine Bk.drewN ?_ _) | ((with_reducible refine Bk.far ?_ ?_ _); rotate_left; focus (first | (simp; done) | (simp; omega))) | (with_reducible refine Bk.below ?_ (by with_reducible assumption))))
        have kQ4 : Bk (w3.alloc (.cells #[.int .i64 R1.x0, .int .i64 R1.y0, .int .i64 R1.x1, .int .i64 R1.y1, .slice A3 n1 c3] 28)) (w.heap.size + 1) 44 #[.int .i64 x, .int .i64 y] := (by repeat (first | (with_reducible assumption) | ((with_reducible refine Bk.new _ _ _ ?_); first | (with_reducible rfl) | (simp; done)) | (with_reducible refine Bk.alloc ?_ _) | (with_reducible refine Bk.drew ?_) | (with_reducible refine Bk.drewN ?_ _) | ((with_reducible refine Bk.far ?_ ?_ _); rotate_left; focus (first | (simp; done) | (simp; omega))) | (with_reducible refine Bk.below ?_ (by with_reducible assumption))))
        have kA4 : Bk (w3.alloc (.cells #[.int .i64 R1.x0, .int .i64 R1.y0, .int .i64 R1.x1, .int .i64 R1.y1, .slice A3 n1 c3] 28)) (w2.heap.size) 28 #[.int .i64 R0.x0, .int .i64 R0.y0, .int .i64 R0.x1, .int .i64 R0.y1, .slice A2 n0 c2] := (by repeat (first | (with_reducible assumption) | ((with_reducible refine Bk.new _ _ _ ?_); first | (with_reducible rfl) | (simp; done)) | (with_reducible refine Bk.alloc ?_ _) | (with_reducible refine Bk.drew ?_) | (with_reducible refine Bk.drewN ?_ _) | ((with_reducible refine Bk.far ?_ ?_ _); rotate_left; focus (first | (simp; done) | (simp; omega))) | (with_reducible refine Bk.below ?_ (by with_reducible assumption))))
        have kB4 : Bk (w3.alloc (.cells #[.int .i64 R1.x0, .int .i64 R1.y0, .int .i64 R1.x1, .int .i64 R1.y1, .slice A3 n1 c3] 28)) (w3.heap.size) 28 #[.int .i64 R1.x0, .int .i64 R1.y0, .int .i64 R1.x1, .int .i64 R1.y1, .slice A3 n1 c3] := Bk.new _ _ _ rfl
        have hB4 : Below w.heap.size w (w3.alloc (.cells #[.int .i64 R1.x0, .int .i64 R1.y0, .int .i64 R1.x1, .int .i64 R1.y1, .slice A3 n1 c3] 28)) := (by repeat (first | (with_reducible exact Below.refl _ _) | (with_reducible refine balloc ?_ _) | (with_reducible refine Below.drew ?_) | (with_reducible refine bdrewN ?_ _) | ((with_reducible refine bset ?_ ?_ _); rotate_left; focus (first | (with_reducible exact Nat.le_refl _) | (simp; done) | (simp; omega) | omega)) | (with_reducible refine bstep (by with_reducible assumption) ?_)))
        have hrA : RdL encP 4 (w3.alloc (.cells #[.int .i64 R1.x0, .int .i64 R1.y0, .int .i64 R1.x1, .int .i64 R1.y1, .slice A3 n1 c3] 28)) A2 L0 := HR2.out.below (by repeat (first | (with_reducible exact Below.refl _ _) | (with_reducible refine balloc ?_ _) | (with_reducible refine Below.drew ?_) | (with_reducible refine bdrewN ?_ _) | ((with_reducible refine bset ?_ ?_ _); rotate_left; focus (first | (with_reducible exact Nat.le_refl _) | (simp; done) | (simp; omega) | omega)) | (with_reducible refine bstep (by with_reducible assumption) ?_)))
        have HXA := Lib.hid hrA
        have hrB : RdL encP 4 (w3.alloc (.cells #[.int .i64 R1.x0, .int .i64 R1.y0, .int .i64 R1.x1, .int .i64 R1.y1, .slice A3 n1 c3] 28)) A3 L1 := HR3.out.below (by repeat (first | (with_reducible exact Below.refl _ _) | (with_reducible refine balloc ?_ _) | (with_reducible refine Below.drew ?_) | (with_reducible refine bdrewN ?_ _) | ((with_reducible refine bset ?_ ?_ _); rotate_left; focus (first | (with_reducible exact Nat.le_refl _) | (simp; done) | (simp; omega) | omega)) | (with_reducible refine bstep (by with_reducible assumption) ?_)))
        have HXB := Lib.hid hrB
        clear hrA hrB
        go_wp2_with fail
        clear kcX3 kfX3 kaX3 kgX3 kcQ3 kfQ3 kaQ3 kgQ3
        generalize (w3.alloc (.cells #[.int .i64 R1.x0, .int .i64 R1.y0, .int .i64 R1.x1, .int .i64 R1.y1, .slice A3 n1 c3] 28)) = W0 at kX4 kQ4 kA4 kB4 hB4 HXA HXB ⊢
        refine wp_region_gob 6 [(0, true), (1, true), (2, true), (3, true), (4, true), (5, true)] (by kernel_rfl) (by kernel_rfl) (fun c a d v w h => by cases d <;> exact h) ?_
        repeat (first | (refine wpGo_pure (v := ?_) rfl rfl (fun w' hS => ?_) ?_; rotate_left; (· have kQp : Bk w' (w.heap.size + 1) 44 #[.int .i64 x, .int .i64 y] := (by repeat (first | (with_reducible assumption) | ((with_reducible refine Bk.new _ _ _ ?_); first | (with_reducible rfl) | (simp; done)) | (with_reducible refine Bk.alloc ?_ _) | (with_reducible refine Bk.drew ?_) | (with_reducible refine Bk.drewN ?_ _) | ((with_reducible refine Bk.far ?_ ?_ _); rotate_left; focus (first | (simp; done) | (simp; omega))) | (with_reducible refine Bk.below ?_ (by with_reducible assumption)))); obtain ⟨kcQp, kfQp, kaQp, kgQp, klQp⟩ := kQp.rules; go_simp; exact rfl); (try simp only [Act.put, List.setIfInBounds_toArray, List.set_cons_zero, List.set_cons_succ])) | ((refine wpGo_skip rfl rfl ?_); (try simp only [Act.put, List.setIfInBounds_toArray, List.set_cons_zero, List.set_cons_succ])))
        refine wpGo_nil ?_
        simp only [List.drop_succ_cons, List.drop_zero]
        have kX5 := kX4.drew
        have kQ5 := kQ4.drew
        have kA5 := kA4.drew
        have kB5 := kB4.drew
        have hB5 := hB4.drew
        clear kQ4
        obtain ⟨kcX5, kfX5, kaX5, kgX5, klX5⟩ := kX5.rules
        go_wp2_with fail
        refine (rcontains_q _ _ _ _ _ _ true Hcc _).mono ?_
        rintro e w6 ⟨rfl, hb6⟩
        clear kcX5 kfX5 kaX5 kgX5
        have hB6 : Below w.heap.size w w6 := bstep hb6 hB5
        clear hB5 hb6
        go_wp2_with fail
        refine (ex_any _).mono ?_
        rintro e w7 ⟨rfl, hb7⟩
        go_wp2
        go_ret
        exact ⟨rfl, bstep hb7 hB6⟩
    | true =>
      cases h2 : vMk m with
      | false =>
        have eb : boE mode s d m = 14 := by unfold boE; rw [h1, h2]; rfl
        have el : lmE d s m = 14 := by unfold lmE; rw [Bool.and_comm, h1, h2]; rfl
        clear h1 h2
        have HBo : Hid (∀ (W : World), s.ok W → d.ok W → m.ok W → Calls Try.prog 23 #[.int .i64 mode, .agg #[.int .i64 s.r.x0, .int .i64 s.r.y0, .int .i64 s.r.x1, .int .i64 s.r.y1, .slice s.A s.n s.c], .agg #[.int .i64 d.r.x0, .int .i64 d.r.y0, .int .i64 d.r.x1, .int .i64 d.r.y1, .slice d.A d.n d.c], .agg #[.int .i64 m.r.x0, .int .i64 m.r.y0, .int .i64 m.r.x1, .int .i64 m.r.y1, .slice m.A m.n m.c]] W (RetBE R0 L0 14 W)) := fun W h1 h2 h3 => by
          have := bo_any mode s d m W h1 h2 h3 (by omega) (by omega) (by omega)
          rw [HR0.out, HL0.out, eb] at this
          exact this
        have HLm : Hid (∀ (W : World), s.ok W → d.ok W → m.ok W → Calls Try.prog 24 #[.agg #[.int .i64 d.r.x0, .int .i64 d.r.y0, .int .i64 d.r.x1, .int .i64 d.r.y1, .slice d.A d.n d.c], .agg #[.int .i64 s.r.x0, .int .i64 s.r.y0, .int .i64 s.r.x1, .int .i64 s.r.y1, .slice s.A s.n s.c], .agg #[.int .i64 m.r.x0, .int .i64 m.r.y0, .int .i64 m.r.x1, .int .i64 m.r.y1, .slice m.A m.n m.c]] W (RetBE R1 L1 14 W)) := fun W h1 h2 h3 => by
          have := lm_any d s m W h2 h1 h3 (by omega) (by omega) (by omega)
          rw [HR1.out, HL1.out, el] at this
          exact this
        clear eb el
        cases hcc : containsB d.r x y with
        | false =>
          have Hcc : Hid (containsB ⟨d.r.x0, d.r.y0, d.r.x1, d.r.y1⟩ x y = false) := hcc
          clear hcc
          go_enter Try.func5, Try.ntmps5
          go_wp2_with fail
          refine (spair_any s d m _ true HSP).mono ?_
          rintro e w1 ⟨rfl, hb1⟩
          have kX1 : Bk w1 (w.heap.size) 43 #[.int .i64 s.r.x0, .int .i64 s.r.y0, .int .i64 s.r.x1, .int .i64 s.r.y1, .slice s.A s.n s.c, .int .i64 d.r.x0, .int .i64 d.r.y0, .int .i64 d.r.x1, .int .i64 d.r.y1, .slice d.A d.n d.c, .int .i64 m.r.x0, .int .i64 m.r.y0, .int .i64 m.r.x1, .int .i64 m.r.y1, .slice m.A m.n m.c] := (by repeat (first | (with_reducible assumption) | ((with_reducible refine Bk.new _ _ _ ?_); first | (with_reducible rfl) | (simp; done)) | (with_reducible refine Bk.alloc ?_ _) | (with_reducible refine Bk.drew ?_) | (with_reducible refine Bk.drewN ?_ _) | ((with_reducible refine Bk.far ?_ ?_ _); rotate_left; focus (first | (simp; done) | (simp; omega))) | (with_reducible refine Bk.below ?_ (by with_reducible assumption)))); obtain ⟨kcX1, kfX1, kaX1, kgX1, klX1⟩ := kX1.rules
          go_wp2_with fail
          refine (HBo.out _ (HS.out.below (by repeat (first | (with_reducible exact Below.refl _ _) | (with_reducible refine balloc ?_ _) | (with_reducible refine Below.drew ?_) | (with_reducible refine bdrewN ?_ _) | ((with_reducible refine bset ?_ ?_ _); rotate_left; focus (first | (with_reducible exact Nat.le_refl _) | (simp; done) | (simp; omega) | omega)) | (with_reducible refine bstep (by with_reducible assumption) ?_)))) (HD.out.below (by repeat (first | (with_reducible exact Below.refl _ _) | (with_reducible refine balloc ?_ _) | (with_reducible refine Below.drew ?_) | (with_reducible refine bdrewN ?_ _) | ((with_reducible refine bset ?_ ?_ _); rotate_left; focus (first | (with_reducible exact Nat.le_refl _) | (simp; done) | (simp; omega) | omega)) | (with_reducible refine bstep (by with_reducible assumption) ?_)))) (HM.out.below (by repeat (first | (with_reducible exact Below.refl _ _) | (with_reducible refine balloc ?_ _) | (with_reducible refine Below.drew ?_) | (with_reducible refine bdrewN ?_ _) | ((with_reducible refine bset ?_ ?_ _); rotate_left; focus (first | (with_reducible exact Nat.le_refl _) | (simp; done) | (simp; omega) | omega)) | (with_reducible refine bstep (by with_reducible assumption) ?_))))).mono ?_
          rintro e w2 ⟨v2, rfl, ho2, hb2⟩
          clear kcX1 kfX1 kaX1 kgX1
          have kX2 : Bk w2 (w.heap.size) 43 #[.int .i64 s.r.x0, .int .i64 s.r.y0, .int .i64 s.r.x1, .int .i64 s.r.y1, .slice s.A s.n s.c, .int .i64 d.r.x0, .int .i64 d.r.y0, .int .i64 d.r.x1, .int .i64 d.r.y1, .slice d.A d.n d.c, .int .i64 m.r.x0, .int .i64 m.r.y0, .int .i64 m.r.x1, .int .i64 m.r.y1, .slice m.A m.n m.c] := (by repeat (first | (with_reducible assumption) | ((with_reducible refine Bk.new _ _ _ ?_); first | (with_reducible rfl) | (simp; done)) | (with_reducible refine Bk.alloc ?_ _) | (with_reducible refine Bk.drew ?_) | (with_reducible refine Bk.drewN ?_ _) | ((with_reducible refine Bk.far ?_ ?_ _); rotate_left; focus (first | (simp; done) | (simp; omega))) | (with_reducible refine Bk.below ?_ (by with_reducible assumption)))); obtain ⟨kcX2, kfX2, kaX2, kgX2, klX2⟩ := kX2.rules
          obtain ⟨A2, c2, hv2, hr2, hle2, hmx2⟩ := ho2.form2 encP_len
          rw [Hn0.out] at hv2 hle2
          subst hv2
          have HR2 := Lib.hid hr2
          have HC2 := Lib.hid (And.intro hle2 hmx2)
          clear hr2 hle2 hmx2
          clear ho2
          
          have kA2 : Bk _ _ _ _ := Bk.new w2 28 #[.int .i64 R0.x0, .int .i64 R0.y0, .int .i64 R0.x1, .int .i64 R0.y1, .slice A2 n0 c2] rfl
          go_wp2_with fail
          refine (HLm.out _ (HS.out.below (by repeat (first | (with_reducible exact Below.refl _ _) | (with_reducible refine balloc ?_ _) | (with_reducible refine Below.drew ?_) | (with_reducible refine bdrewN ?_ _) | ((with_reducible refine bset ?_ ?_ _); rotate_left; focus (first | (with_reducible exact Nat.le_refl _) | (simp; done) | (simp; omega) | omega)) | (with_reducible refine bstep (by with_reducible assumption) ?_)))) (HD.out.below (by repeat (first | (with_reducible exact Below.refl _ _) | (with_reducible refine balloc ?_ _) | (with_reducible refine Below.drew ?_) | (with_reducible refine bdrewN ?_ _) | ((with_reducible refine bset ?_ ?_ _); rotate_left; focus (first | (with_reducible exact Nat.le_refl _) | (simp; done) | (simp; omega) | omega)) | (with_reducible refine bstep (by with_reducible assumption) ?_)))) (HM.out.below (by repeat (first | (with_reducible exact Below.refl _ _) | (with_reducible refine balloc ?_ _) | (with_reducible refine Below.drew ?_) | (with_reducible refine bdrewN ?_ _) | ((with_reducible refine bset ?_ ?_ _); rotate_left; focus (first | (with_reducible exact Nat.le_refl _) | (simp; done) | (simp; omega) | omega)) | (with_reducible refine bstep (by with_reducible assumption) ?_))))).mono ?_
          rintro e w3 ⟨v3, rfl, ho3, hb3⟩
          clear kcX2 kfX2 kaX2 kgX2
          have kX3 : Bk w3 (w.heap.size) 43 #[.int .i64 s.r.x0, .int .i64 s.r.y0, .int .i64 s.r.x1, .int .i64 s.r.y1, .slice s.A s.n s.c, .int .i64 d.r.x0, .int .i64 d.r.y0, .int .i64 d.r.x1, .int .i64 d.r.y1, .slice d.A d.n d.c, .int .i64 m.r.x0, .int .i64 m.r.y0, .int .i64 m.r.x1, .int .i64 m.r.y1, .slice m.A m.n m.c] := (by repeat (first | (with_reducible assumption) | ((with_reducible refine Bk.new _ _ _ ?_); first | (with_reducible rfl) | (simp; done)) | (with_reducible refine Bk.alloc ?_ _) | (with_reducible refine Bk.drew ?_) | (with_reducible refine Bk.drewN ?_ _) | ((with_reducible refine Bk.far ?_ ?_ _); rotate_left; focus (first | (simp; done) | (simp; omega))) | (with_reducible refine Bk.below ?_ (by with_reducible assumption)))); obtain ⟨kcX3, kfX3, kaX3, kgX3, klX3⟩ := kX3.rules; have kQ3 : Bk w3 (w.heap.size + 1) 44 #[.int .i64 x, .int .i64 y] := (by repeat (first | (with_reducible assumption) | ((with_reducible refine Bk.new _ _ _ ?_); first | (with_reducible rfl) | (simp; done)) | (with_reducible refine Bk.alloc ?_ _) | (with_reducible refine Bk.drew ?_) | (with_reducible refine Bk.drewN ?_ _) | ((with_reducible refine Bk.far ?_ ?_ _); rotate_left; focus (first | (simp; done) | (simp; omega))) | (with_reducible refine Bk.below ?_ (by with_reducible assumption)))); obtain ⟨kcQ3, kfQ3, kaQ3, kgQ3, klQ3⟩ := kQ3.rules
          obtain ⟨A3, c3, hv3, hr3, hle3, hmx3⟩ := ho3.form2 encP_len
          rw [Hn1.out] at hv3 hle3
          subst hv3
          have HR3 := Lib.hid hr3
          have HC3 := Lib.hid (And.intro hle3 hmx3)
          clear hr3 hle3 hmx3
          clear ho3
          
          have kX4 : Bk (w3.alloc (.cells #[.int .i64 R1.x0, .int .i64 R1.y0, .int .i64 R1.x1, .int .i64 R1.y1, .slice A3 n1 c3] 28)) (w.heap.size) 43 #[.int .i64 s.r.x0, .int .i64 s.r.y0, .int .i64 s.r.x1, .int .i64 s.r.y1, .slice s.A s.n s.c, .int .i64 d.r.x0, .int .i64 d.r.y0, .int .i64 d.r.x1, .int .i64 d.r.y1, .slice d.A d.n d.c, .int .i64 m.r.x0, .int .i64 m.r.y0, .int .i64 m.r.x1, .int .i64 m.r.y1, .slice m.A m.n m.c] := (by repeat (first | (with_reducible assumption) | ((with_reducible refine Bk.new _ _ _ ?_); first | (with_reducible rfl) | (simp; done)) | (with_reducible refine Bk.alloc ?_ _) | (with_reducible refine Bk.drew ?_) | (with_reducible refine Bk.drewN ?_ _) | ((with_reducible refine Bk.far ?_ ?_ _); rotate_left; focus (first | (simp; done) | (simp; omega))) | (with_reducible refine Bk.below ?_ (by with_reducible assumption))))
          have kQ4 : Bk (w3.alloc (.cells #[.int .i64 R1.x0, .int .i64 R1.y0, .int .i64 R1.x1, .int .i64 R1.y1, .slice A3 n1 c3] 28)) (w.heap.size + 1) 44 #[.int .i64 x, .int .i64 y] := (by repeat (first | (with_reducible assumption) | ((with_reducible refine Bk.new _ _ _ ?_); first | (with_reducible rfl) | (simp; done)) | (with_reducible refine Bk.alloc ?_ _) | (with_reducible refine Bk.drew ?_) | (with_reducible refine Bk.drewN ?_ _) | ((with_reducible refine Bk.far ?_ ?_ _); rotate_left; focus (first | (simp; done) | (simp; omega))) | (with_reducible refine Bk.below ?_ (by with_reducible assumption))))
          have kA4 : Bk (w3.alloc (.cells #[.int .i64 R1.x0, .int .i64 R1.y0, .int .i64 R1.x1, .int .i64 R1.y1, .slice A3 n1 c3] 28)) (w2.heap.size) 28 #[.int .i64 R0.x0, .int .i64 R0.y0, .int .i64 R0.x1, .int .i64 R0.y1, .slice A2 n0 c2] := (by repeat (first | (with_reducible assumption) | ((with_reducible refine Bk.new _ _ _ ?_); first | (with_reducible rfl) | (simp; done)) | (with_reducible refine Bk.alloc ?_ _) | (with_reducible refine Bk.drew ?_) | (with_reducible refine Bk.drewN ?_ _) | ((with_reducible refine Bk.far ?_ ?_ _); rotate_left; focus (first | (simp; done) | (simp; omega))) | (with_reducible refine Bk.below ?_ (by with_reducible assumption))))
          have kB4 : Bk (w3.alloc (.cells #[.int .i64 R1.x0, .int .i64 R1.y0, .int .i64 R1.x1, .int .i64 R1.y1, .slice A3 n1 c3] 28)) (w3.heap.size) 28 #[.int .i64 R1.x0, .int .i64 R1.y0, .int .i64 R1.x1, .int .i64 R1.y1, .slice A3 n1 c3] := Bk.new _ _ _ rfl
          have hB4 : Below w.heap.size w (w3.alloc (.cells #[.int .i64 R1.x0, .int .i64 R1.y0, .int .i64 R1.x1, .int .i64 R1.y1, .slice A3 n1 c3] 28)) := (by repeat (first | (with_reducible exact Below.refl _ _) | (with_reducible refine balloc ?_ _) | (with_reducible refine Below.drew ?_) | (with_reducible refine bdrewN ?_ _) | ((with_reducible refine bset ?_ ?_ _); rotate_left; focus (first | (with_reducible exact Nat.le_refl _) | (simp; done) | (simp; omega) | omega)) | (with_reducible refine bstep (by with_reducible assumption) ?_)))
          have hrA : RdL encP 4 (w3.alloc (.cells #[.int .i64 R1.x0, .int .i64 R1.y0, .int .i64 R1.x1, .int .i64 R1.y1, .slice A3 n1 c3] 28)) A2 L0 := HR2.out.below (by repeat (first | (with_reducible exact Below.refl _ _) | (with_reducible refine balloc ?_ _) | (with_reducible refine Below.drew ?_) | (with_reducible refine bdrewN ?_ _) | ((with_reducible refine bset ?_ ?_ _); rotate_left; focus (first | (with_reducible exact Nat.le_refl _) | (simp; done) | (simp; omega) | omega)) | (with_reducible refine bstep (by with_reducible assumption) ?_)))
          have HXA := Lib.hid hrA
          have hrB : RdL encP 4 (w3.alloc (.cells #[.int .i64 R1.x0, .int .i64 R1.y0, .int .i64 R1.x1, .int .i64 R1.y1, .slice A3 n1 c3] 28)) A3 L1 := HR3.out.below (by repeat (first | (with_reducible exact Below.refl _ _) | (with_reducible refine balloc ?_ _) | (with_reducible refine Below.drew ?_) | (with_reducible refine bdrewN ?_ _) | ((with_reducible refine bset ?_ ?_ _); rotate_left; focus (first | (with_reducible exact Nat.le_refl _) | (simp; done) | (simp; omega) | omega)) | (with_reducible refine bstep (by with_reducible assumption) ?_)))
          have HXB := Lib.hid hrB
          clear hrA hrB
          go_wp2_with fail
          clear kcX3 kfX3 kaX3 kgX3 kcQ3 kfQ3 kaQ3 kgQ3
          generalize (w3.alloc (.cells #[.int .i64 R1.x0, .int .i64 R1.y0, .int .i64 R1.x1, .int .i64 R1.y1, .slice A3 n1 c3] 28)) = W0 at kX4 kQ4 kA4 kB4 hB4 HXA HXB ⊢
          refine wp_region_gob 6 [(0, true), (1, true), (2, true), (3, true), (4, true), (5, true)] (by kernel_rfl) (by kernel_rfl) (fun c a d v w h => by cases d <;> exact h) ?_
          repeat (first | (refine wpGo_pure (v := ?_) rfl rfl (fun w' hS => ?_) ?_; rotate_left; (· have kQp : Bk w' (w.heap.size + 1) 44 #[.int .i64 x, .int .i64 y] := (by repeat (first | (with_reducible assumption) | ((with_reducible refine Bk.new _ _ _ ?_); first | (with_reducible rfl) | (simp; done)) | (with_reducible refine Bk.alloc ?_ _) | (with_reducible refine Bk.drew ?_) | (with_reducible refine Bk.drewN ?_ _) | ((with_reducible refine Bk.far ?_ ?_ _); rotate_left; focus (first | (simp; done) | (simp; omega))) | (with_reducible refine Bk.below ?_ (by with_reducible assumption)))); obtain ⟨kcQp, kfQp, kaQp, kgQp, klQp⟩ := kQp.rules; go_simp; exact rfl); (try simp only [Act.put, List.setIfInBounds_toArray, List.set_cons_zero, List.set_cons_succ])) | ((refine wpGo_skip rfl rfl ?_); (try simp only [Act.put, List.setIfInBounds_toArray, List.set_cons_zero, List.set_cons_succ])))
          refine wpGo_nil ?_
          simp only [List.drop_succ_cons, List.drop_zero]
          have kX5 := kX4.drew
          have kQ5 := kQ4.drew
          have kA5 := kA4.drew
          have kB5 := kB4.drew
          have hB5 := hB4.drew
          clear kQ4
          obtain ⟨kcX5, kfX5, kaX5, kgX5, klX5⟩ := kX5.rules
          go_wp2_with fail
          refine (rcontains_q _ _ _ _ _ _ false Hcc _).mono ?_
          rintro e w6 ⟨rfl, hb6⟩
          clear kcX5 kfX5 kaX5 kgX5
          have hB6 : Below w.heap.size w w6 := bstep hb6 hB5
          clear hB5 hb6
          go_wp2_with fail
          refine (ex_any _).mono ?_
          rintro e w7 ⟨rfl, hb7⟩
          go_wp2
          go_ret
          exact ⟨rfl, bstep hb7 hB6⟩
        | true =>
          have Hcc : Hid (containsB ⟨d.r.x0, d.r.y0, d.r.x1, d.r.y1⟩ x y = true) := hcc
          clear hcc
          go_enter Try.func5, Try.ntmps5
          go_wp2_with fail
          refine (spair_any s d m _ true HSP).mono ?_
          rintro e w1 ⟨rfl, hb1⟩
          have kX1 : Bk w1 (w.heap.size) 43 #[.int .i64 s.r.x0, .int .i64 s.r.y0, .int .i64 s.r.x1, .int .i64 s.r.y1, .slice s.A s.n s.c, .int .i64 d.r.x0, .int .i64 d.r.y0, .int .i64 d.r.x1, .int .i64 d.r.y1, .slice d.A d.n d.c, .int .i64 m.r.x0, .int .i64 m.r.y0, .int .i64 m.r.x1, .int .i64 m.r.y1, .slice m.A m.n m.c] := (by repeat (first | (with_reducible assumption) | ((with_reducible refine Bk.new _ _ _ ?_); first | (with_reducible rfl) | (simp; done)) | (with_reducible refine Bk.alloc ?_ _) | (with_reducible refine Bk.drew ?_) | (with_reducible refine Bk.drewN ?_ _) | ((with_reducible refine Bk.far ?_ ?_ _); rotate_left; focus (first | (simp; done) | (simp; omega))) | (with_reducible refine Bk.below ?_ (by with_reducible assumption)))); obtain ⟨kcX1, kfX1, kaX1, kgX1, klX1⟩ := kX1.rules
          go_wp2_with fail
          refine (HBo.out _ (HS.out.below (by repeat (first | (with_reducible exact Below.refl _ _) | (with_reducible refine balloc ?_ _) | (with_reducible refine Below.drew ?_) | (with_reducible refine bdrewN ?_ _) | ((with_reducible refine bset ?_ ?_ _); rotate_left; focus (first | (with_reducible exact Nat.le_refl _) | (simp; done) | (simp; omega) | omega)) | (with_reducible refine bstep (by with_reducible assumption) ?_)))) (HD.out.below (by repeat (first | (with_reducible exact Below.refl _ _) | (with_reducible refine balloc ?_ _) | (with_reducible refine Below.drew ?_) | (with_reducible refine bdrewN ?_ _) | ((with_reducible refine bset ?_ ?_ _); rotate_left; focus (first | (with_reducible exact Nat.le_refl _) | (simp; done) | (simp; omega) | omega)) | (with_reducible refine bstep (by with_reducible assumption) ?_)))) (HM.out.below (by repeat (first | (with_reducible exact Below.refl _ _) | (with_reducible refine balloc ?_ _) | (with_reducible refine Below.drew ?_) | (with_reducible refine bdrewN ?_ _) | ((with_reducible refine bset ?_ ?_ _); rotate_left; focus (first | (with_reducible exact Nat.le_refl _) | (simp; done) | (simp; omega) | omega)) | (with_reducible refine bstep (by with_reducible assumption) ?_))))).mono ?_
          rintro e w2 ⟨v2, rfl, ho2, hb2⟩
          clear kcX1 kfX1 kaX1 kgX1
          have kX2 : Bk w2 (w.heap.size) 43 #[.int .i64 s.r.x0, .int .i64 s.r.y0, .int .i64 s.r.x1, .int .i64 s.r.y1, .slice s.A s.n s.c, .int .i64 d.r.x0, .int .i64 d.r.y0, .int .i64 d.r.x1, .int .i64 d.r.y1, .slice d.A d.n d.c, .int .i64 m.r.x0, .int .i64 m.r.y0, .int .i64 m.r.x1, .int .i64 m.r.y1, .slice m.A m.n m.c] := (by repeat (first | (with_reducible assumption) | ((with_reducible refine Bk.new _ _ _ ?_); first | (with_reducible rfl) | (simp; done)) | (with_reducible refine Bk.alloc ?_ _) | (with_reducible refine Bk.drew ?_) | (with_reducible refine Bk.drewN ?_ _) | ((with_reducible refine Bk.far ?_ ?_ _); rotate_left; focus (first | (simp; done) | (simp; omega))) | (with_reducible refine Bk.below ?_ (by with_reducible assumption)))); obtain ⟨kcX2, kfX2, kaX2, kgX2, klX2⟩ := kX2.rules
          obtain ⟨A2, c2, hv2, hr2, hle2, hmx2⟩ := ho2.form2 encP_len
          rw [Hn0.out] at hv2 hle2
          subst hv2
          have HR2 := Lib.hid hr2
          have HC2 := Lib.hid (And.intro hle2 hmx2)
          clear hr2 hle2 hmx2
          clear ho2
          
          have kA2 : Bk _ _ _ _ := Bk.new w2 28 #[.int .i64 R0.x0, .int .i64 R0.y0, .int .i64 R0.x1, .int .i64 R0.y1, .slice A2 n0 c2] rfl
          go_wp2_with fail
          refine (HLm.out _ (HS.out.below (by repeat (first | (with_reducible exact Below.refl _ _) | (with_reducible refine balloc ?_ _) | (with_reducible refine Below.drew ?_) | (with_reducible refine bdrewN ?_ _) | ((with_reducible refine bset ?_ ?_ _); rotate_left; focus (first | (with_reducible exact Nat.le_refl _) | (simp; done) | (simp; omega) | omega)) | (with_reducible refine bstep (by with_reducible assumption) ?_)))) (HD.out.below (by repeat (first | (with_reducible exact Below.refl _ _) | (with_reducible refine balloc ?_ _) | (with_reducible refine Below.drew ?_) | (with_reducible refine bdrewN ?_ _) | ((with_reducible refine bset ?_ ?_ _); rotate_left; focus (first | (with_reducible exact Nat.le_refl _) | (simp; done) | (simp; omega) | omega)) | (with_reducible refine bstep (by with_reducible assumption) ?_)))) (HM.out.below (by repeat (first | (with_reducible exact Below.refl _ _) | (with_reducible refine balloc ?_ _) | (with_reducible refine Below.drew ?_) | (with_reducible refine bdrewN ?_ _) | ((with_reducible refine bset ?_ ?_ _); rotate_left; focus (first | (with_reducible exact Nat.le_refl _) | (simp; done) | (simp; omega) | omega)) | (with_reducible refine bstep (by with_reducible assumption) ?_))))).mono ?_
          rintro e w3 ⟨v3, rfl, ho3, hb3⟩
          clear kcX2 kfX2 kaX2 kgX2
          have kX3 : Bk w3 (w.heap.size) 43 #[.int .i64 s.r.x0, .int .i64 s.r.y0, .int .i64 s.r.x1, .int .i64 s.r.y1, .slice s.A s.n s.c, .int .i64 d.r.x0, .int .i64 d.r.y0, .int .i64 d.r.x1, .int .i64 d.r.y1, .slice d.A d.n d.c, .int .i64 m.r.x0, .int .i64 m.r.y0, .int .i64 m.r.x1, .int .i64 m.r.y1, .slice m.A m.n m.c] := (by repeat (first | (with_reducible assumption) | ((with_reducible refine Bk.new _ _ _ ?_); first | (with_reducible rfl) | (simp; done)) | (with_reducible refine Bk.alloc ?_ _) | (with_reducible refine Bk.drew ?_) | (with_reducible refine Bk.drewN ?_ _) | ((with_reducible refine Bk.far ?_ ?_ _); rotate_left; focus (first | (simp; done) | (simp; omega))) | (with_reducible refine Bk.below ?_ (by with_reducible assumption)))); obtain ⟨kcX3, kfX3, kaX3, kgX3, klX3⟩ := kX3.rules; have kQ3 : Bk w3 (w.heap.size + 1) 44 #[.int .i64 x, .int .i64 y] := (by repeat (first | (with_reducible assumption) | ((with_reducible refine Bk.new _ _ _ ?_); first | (with_reducible rfl) | (simp; done)) | (with_reducible refine Bk.alloc ?_ _) | (with_reducible refine Bk.drew ?_) | (with_reducible refine Bk.drewN ?_ _) | ((with_reducible refine Bk.far ?_ ?_ _); rotate_left; focus (first | (simp; done) | (simp; omega))) | (with_reducible refine Bk.below ?_ (by with_reducible assumption)))); obtain ⟨kcQ3, kfQ3, kaQ3, kgQ3, klQ3⟩ := kQ3.rules
          obtain ⟨A3, c3, hv3, hr3, hle3, hmx3⟩ := ho3.form2 encP_len
          rw [Hn1.out] at hv3 hle3
          subst hv3
          have HR3 := Lib.hid hr3
          have HC3 := Lib.hid (And.intro hle3 hmx3)
          clear hr3 hle3 hmx3
          clear ho3
          
          have kX4 : Bk (w3.alloc (.cells #[.int .i64 R1.x0, .int .i64 R1.y0, .int .i64 R1.x1, .int .i64 R1.y1, .slice A3 n1 c3] 28)) (w.heap.size) 43 #[.int .i64 s.r.x0, .int .i64 s.r.y0, .int .i64 s.r.x1, .int .i64 s.r.y1, .slice s.A s.n s.c, .int .i64 d.r.x0, .int .i64 d.r.y0, .int .i64 d.r.x1, .int .i64 d.r.y1, .slice d.A d.n d.c, .int .i64 m.r.x0, .int .i64 m.r.y0, .int .i64 m.r.x1, .int .i64 m.r.y1, .slice m.A m.n m.c] := (by repeat (first | (with_reducible assumption) | ((with_reducible refine Bk.new _ _ _ ?_); first | (with_reducible rfl) | (simp; done)) | (with_reducible refine Bk.alloc ?_ _) | (with_reducible refine Bk.drew ?_) | (with_reducible refine Bk.drewN ?_ _) | ((with_reducible refine Bk.far ?_ ?_ _); rotate_left; focus (first | (simp; done) | (simp; omega))) | (with_reducible refine Bk.below ?_ (by with_reducible assumption))))
          have kQ4 : Bk (w3.alloc (.cells #[.int .i64 R1.x0, .int .i64 R1.y0, .int .i64 R1.x1, .int .i64 R1.y1, .slice A3 n1 c3] 28)) (w.heap.size + 1) 44 #[.int .i64 x, .int .i64 y] := (by repeat (first | (with_reducible assumption) | ((with_reducible refine Bk.new _ _ _ ?_); first | (with_reducible rfl) | (simp; done)) | (with_reducible refine Bk.alloc ?_ _) | (with_reducible refine Bk.drew ?_) | (with_reducible refine Bk.drewN ?_ _) | ((with_reducible refine Bk.far ?_ ?_ _); rotate_left; focus (first | (simp; done) | (simp; omega))) | (with_reducible refine Bk.below ?_ (by with_reducible assumption))))
          have kA4 : Bk (w3.alloc (.cells #[.int .i64 R1.x0, .int .i64 R1.y0, .int .i64 R1.x1, .int .i64 R1.y1, .slice A3 n1 c3] 28)) (w2.heap.size) 28 #[.int .i64 R0.x0, .int .i64 R0.y0, .int .i64 R0.x1, .int .i64 R0.y1, .slice A2 n0 c2] := (by repeat (first | (with_reducible assumption) | ((with_reducible refine Bk.new _ _ _ ?_); first | (with_reducible rfl) | (simp; done)) | (with_reducible refine Bk.alloc ?_ _) | (with_reducible refine Bk.drew ?_) | (with_reducible refine Bk.drewN ?_ _) | ((with_reducible refine Bk.far ?_ ?_ _); rotate_left; focus (first | (simp; done) | (simp; omega))) | (with_reducible refine Bk.below ?_ (by with_reducible assumption))))
          have kB4 : Bk (w3.alloc (.cells #[.int .i64 R1.x0, .int .i64 R1.y0, .int .i64 R1.x1, .int .i64 R1.y1, .slice A3 n1 c3] 28)) (w3.heap.size) 28 #[.int .i64 R1.x0, .int .i64 R1.y0, .int .i64 R1.x1, .int .i64 R1.y1, .slice A3 n1 c3] := Bk.new _ _ _ rfl
          have hB4 : Below w.heap.size w (w3.alloc (.cells #[.int .i64 R1.x0, .int .i64 R1.y0, .int .i64 R1.x1, .int .i64 R1.y1, .slice A3 n1 c3] 28)) := (by repeat (first | (with_reducible exact Below.refl _ _) | (with_reducible refine balloc ?_ _) | (with_reducible refine Below.drew ?_) | (with_reducible refine bdrewN ?_ _) | ((with_reducible refine bset ?_ ?_ _); rotate_left; focus (first | (with_reducible exact Nat.le_refl _) | (simp; done) | (simp; omega) | omega)) | (with_reducible refine bstep (by with_reducible assumption) ?_)))
          have hrA : RdL encP 4 (w3.alloc (.cells #[.int .i64 R1.x0, .int .i64 R1.y0, .int .i64 R1.x1, .int .i64 R1.y1, .slice A3 n1 c3] 28)) A2 L0 := HR2.out.below (by repeat (first | (with_reducible exact Below.refl _ _) | (with_reducible refine balloc ?_ _) | (with_reducible refine Below.drew ?_) | (with_reducible refine bdrewN ?_ _) | ((with_reducible refine bset ?_ ?_ _); rotate_left; focus (first | (with_reducible exact Nat.le_refl _) | (simp; done) | (simp; omega) | omega)) | (with_reducible refine bstep (by with_reducible assumption) ?_)))
          have HXA := Lib.hid hrA
          have hrB : RdL encP 4 (w3.alloc (.cells #[.int .i64 R1.x0, .int .i64 R1.y0, .int .i64 R1.x1, .int .i64 R1.y1, .slice A3 n1 c3] 28)) A3 L1 := HR3.out.below (by repeat (first | (with_reducible exact Below.refl _ _) | (with_reducible refine balloc ?_ _) | (with_reducible refine Below.drew ?_) | (with_reducible refine bdrewN ?_ _) | ((with_reducible refine bset ?_ ?_ _); rotate_left; focus (first | (with_reducible exact Nat.le_refl _) | (simp; done) | (simp; omega) | omega)) | (with_reducible refine bstep (by with_reducible assumption) ?_)))
          have HXB := Lib.hid hrB
          clear hrA hrB
          go_wp2_with fail
          clear kcX3 kfX3 kaX3 kgX3 kcQ3 kfQ3 kaQ3 kgQ3
          generalize (w3.alloc (.cells #[.int .i64 R1.x0, .int .i64 R1.y0, .int .i64 R1.x1, .int .i64 R1.y1, .slice A3 n1 c3] 28)) = W0 at kX4 kQ4 kA4 kB4 hB4 HXA HXB ⊢
          refine wp_region_gob 6 [(0, true), (1, true), (2, true), (3, true), (4, true), (5, true)] (by kernel_rfl) (by kernel_rfl) (fun c a d v w h => by cases d <;> exact h) ?_
          repeat (first | (refine wpGo_pure (v := ?_) rfl rfl (fun w' hS => ?_) ?_; rotate_left; (· have kQp : Bk w' (w.heap.size + 1) 44 #[.int .i64 x, .int .i64 y] := (by repeat (first | (with_reducible assumption) | ((with_reducible refine Bk.new _ _ _ ?_); first | (with_reducible rfl) | (simp; done)) | (with_reducible refine Bk.alloc ?_ _) | (with_reducible refine Bk.drew ?_) | (with_reducible refine Bk.drewN ?_ _) | ((with_reducible refine Bk.far ?_ ?_ _); rotate_left; focus (first | (simp; done) | (simp; omega))) | (with_reducible refine Bk.below ?_ (by with_reducible assumption)))); obtain ⟨kcQp, kfQp, kaQp, kgQp, klQp⟩ := kQp.rules; go_simp; exact rfl); (try simp only [Act.put, List.setIfInBounds_toArray, List.set_cons_zero, List.set_cons_succ])) | ((refine wpGo_skip rfl rfl ?_); (try simp only [Act.put, List.setIfInBounds_toArray, List.set_cons_zero, List.set_cons_succ])))
          refine wpGo_nil ?_
          simp only [List.drop_succ_cons, List.drop_zero]
          have kX5 := kX4.drew
          have kQ5 := kQ4.drew
          have kA5 := kA4.drew
          have kB5 := kB4.drew
          have hB5 := hB4.drew
          clear kQ4
          obtain ⟨kcX5, kfX5, kaX5, kgX5, klX5⟩ := kX5.rules
          go_wp2_with fail
          refine (rcontains_q _ _ _ _ _ _ true Hcc _).mono ?_
          rintro e w6 ⟨rfl, hb6⟩
          clear kcX5 kfX5 kaX5 kgX5
          have hB6 : Below w.heap.size w w6 := bstep hb6 hB5
          clear hB5 hb6
          go_wp2_with fail
          refine (ex_any _).mono ?_
          rintro e w7 ⟨rfl, hb7⟩
          go_wp2
          go_ret
          exact ⟨rfl, bstep hb7 hB6⟩
      | true =>
        cases h3 : validModeB mode with
        | false =>
          have eb : boE mode s d m = 2 := by unfold boE; rw [h1, h2, h3]; rfl
          have el : lmE d s m = 0 := by unfold lmE; rw [Bool.and_comm, h1, h2]; rfl
          clear h1 h2 h3
          have HBo : Hid (∀ (W : World), s.ok W → d.ok W → m.ok W → Calls Try.prog 23 #[.int .i64 mode, .agg #[.int .i64 s.r.x0, .int .i64 s.r.y0, .int .i64 s.r.x1, .int .i64 s.r.y1, .slice s.A s.n s.c], .agg #[.int .i64 d.r.x0, .int .i64 d.r.y0, .int .i64 d.r.x1, .int .i64 d.r.y1, .slice d.A d.n d.c], .agg #[.int .i64 m.r.x0, .int .i64 m.r.y0, .int .i64 m.r.x1, .int .i64 m.r.y1, .slice m.A m.n m.c]] W (RetBE R0 L0 2 W)) := fun W h1 h2 h3 => by
            have := bo_any mode s d m W h1 h2 h3 (by omega) (by omega) (by omega)
            rw [HR0.out, HL0.out, eb] at this
            exact this
          have HLm : Hid (∀ (W : World), s.ok W → d.ok W → m.ok W → Calls Try.prog 24 #[.agg #[.int .i64 d.r.x0, .int .i64 d.r.y0, .int .i64 d.r.x1, .int .i64 d.r.y1, .slice d.A d.n d.c], .agg #[.int .i64 s.r.x0, .int .i64 s.r.y0, .int .i64 s.r.x1, .int .i64 s.r.y1, .slice s.A s.n s.c], .agg #[.int .i64 m.r.x0, .int .i64 m.r.y0, .int .i64 m.r.x1, .int .i64 m.r.y1, .slice m.A m.n m.c]] W (RetBE R1 L1 0 W)) := fun W h1 h2 h3 => by
            have := lm_any d s m W h2 h1 h3 (by omega) (by omega) (by omega)
            rw [HR1.out, HL1.out, el] at this
            exact this
          clear eb el
          cases hcc : containsB d.r x y with
          | false =>
            have Hcc : Hid (containsB ⟨d.r.x0, d.r.y0, d.r.x1, d.r.y1⟩ x y = false) := hcc
            clear hcc
            go_enter Try.func5, Try.ntmps5
            go_wp2_with fail
            refine (spair_any s d m _ true HSP).mono ?_
            rintro e w1 ⟨rfl, hb1⟩
            have kX1 : Bk w1 (w.heap.size) 43 #[.int .i64 s.r.x0, .int .i64 s.r.y0, .int .i64 s.r.x1, .int .i64 s.r.y1, .slice s.A s.n s.c, .int .i64 d.r.x0, .int .i64 d.r.y0, .int .i64 d.r.x1, .int .i64 d.r.y1, .slice d.A d.n d.c, .int .i64 m.r.x0, .int .i64 m.r.y0, .int .i64 m.r.x1, .int .i64 m.r.y1, .slice m.A m.n m.c] := (by repeat (first | (with_reducible assumption) | ((with_reducible refine Bk.new _ _ _ ?_); first | (with_reducible rfl) | (simp; done)) | (with_reducible refine Bk.alloc ?_ _) | (with_reducible refine Bk.drew ?_) | (with_reducible refine Bk.drewN ?_ _) | ((with_reducible refine Bk.far ?_ ?_ _); rotate_left; focus (first | (simp; done) | (simp; omega))) | (with_reducible refine Bk.below ?_ (by with_reducible assumption)))); obtain ⟨kcX1, kfX1, kaX1, kgX1, klX1⟩ := kX1.rules
            go_wp2_with fail
            refine (HBo.out _ (HS.out.below (by repeat (first | (with_reducible exact Below.refl _ _) | (with_reducible refine balloc ?_ _) | (with_reducible refine Below.drew ?_) | (with_reducible refine bdrewN ?_ _) | ((with_reducible refine bset ?_ ?_ _); rotate_left; focus (first | (with_reducible exact Nat.le_refl _) | (simp; done) | (simp; omega) | omega)) | (with_reducible refine bstep (by with_reducible assumption) ?_)))) (HD.out.below (by repeat (first | (with_reducible exact Below.refl _ _) | (with_reducible refine balloc ?_ _) | (with_reducible refine Below.drew ?_) | (with_reducible refine bdrewN ?_ _) | ((with_reducible refine bset ?_ ?_ _); rotate_left; focus (first | (with_reducible exact Nat.le_refl _) | (simp; done) | (simp; omega) | omega)) | (with_reducible refine bstep (by with_reducible assumption) ?_)))) (HM.out.below (by repeat (first | (with_reducible exact Below.refl _ _) | (with_reducible refine balloc ?_ _) | (with_reducible refine Below.drew ?_) | (with_reducible refine bdrewN ?_ _) | ((with_reducible refine bset ?_ ?_ _); rotate_left; focus (first | (with_reducible exact Nat.le_refl _) | (simp; done) | (simp; omega) | omega)) | (with_reducible refine bstep (by with_reducible assumption) ?_))))).mono ?_
            rintro e w2 ⟨v2, rfl, ho2, hb2⟩
            clear kcX1 kfX1 kaX1 kgX1
            have kX2 : Bk w2 (w.heap.size) 43 #[.int .i64 s.r.x0, .int .i64 s.r.y0, .int .i64 s.r.x1, .int .i64 s.r.y1, .slice s.A s.n s.c, .int .i64 d.r.x0, .int .i64 d.r.y0, .int .i64 d.r.x1, .int .i64 d.r.y1, .slice d.A d.n d.c, .int .i64 m.r.x0, .int .i64 m.r.y0, .int .i64 m.r.x1, .int .i64 m.r.y1, .slice m.A m.n m.c] := (by repeat (first | (with_reducible assumption) | ((with_reducible refine Bk.new _ _ _ ?_); first | (with_reducible rfl) | (simp; done)) | (with_reducible refine Bk.alloc ?_ _) | (with_reducible refine Bk.drew ?_) | (with_reducible refine Bk.drewN ?_ _) | ((with_reducible refine Bk.far ?_ ?_ _); rotate_left; focus (first | (simp; done) | (simp; omega))) | (with_reducible refine Bk.below ?_ (by with_reducible assumption)))); obtain ⟨kcX2, kfX2, kaX2, kgX2, klX2⟩ := kX2.rules
            obtain ⟨A2, c2, hv2, hr2, hle2, hmx2⟩ := ho2.form2 encP_len
            rw [Hn0.out] at hv2 hle2
            subst hv2
            have HR2 := Lib.hid hr2
            have HC2 := Lib.hid (And.intro hle2 hmx2)
            clear hr2 hle2 hmx2
            clear ho2
            
            have kA2 : Bk _ _ _ _ := Bk.new w2 28 #[.int .i64 R0.x0, .int .i64 R0.y0, .int .i64 R0.x1, .int .i64 R0.y1, .slice A2 n0 c2] rfl
            go_wp2_with fail
            refine (HLm.out _ (HS.out.below (by repeat (first | (with_reducible exact Below.refl _ _) | (with_reducible refine balloc ?_ _) | (with_reducible refine Below.drew ?_) | (with_reducible refine bdrewN ?_ _) | ((with_reducible refine bset ?_ ?_ _); rotate_left; focus (first | (with_reducible exact Nat.le_refl _) | (simp; done) | (simp; omega) | omega)) | (with_reducible refine bstep (by with_reducible assumption) ?_)))) (HD.out.below (by repeat (first | (with_reducible exact Below.refl _ _) | (with_reducible refine balloc ?_ _) | (with_reducible refine Below.drew ?_) | (with_reducible refine bdrewN ?_ _) | ((with_reducible refine bset ?_ ?_ _); rotate_left; focus (first | (with_reducible exact Nat.le_refl _) | (simp; done) | (simp; omega) | omega)) | (with_reducible refine bstep (by with_reducible assumption) ?_)))) (HM.out.below (by repeat (first | (with_reducible exact Below.refl _ _) | (with_reducible refine balloc ?_ _) | (with_reducible refine Below.drew ?_) | (with_reducible refine bdrewN ?_ _) | ((with_reducible refine bset ?_ ?_ _); rotate_left; focus (first | (with_reducible exact Nat.le_refl _) | (simp; done) | (simp; omega) | omega)) | (with_reducible refine bstep (by with_reducible assumption) ?_))))).mono ?_
            rintro e w3 ⟨v3, rfl, ho3, hb3⟩
            clear kcX2 kfX2 kaX2 kgX2
            have kX3 : Bk w3 (w.heap.size) 43 #[.int .i64 s.r.x0, .int .i64 s.r.y0, .int .i64 s.r.x1, .int .i64 s.r.y1, .slice s.A s.n s.c, .int .i64 d.r.x0, .int .i64 d.r.y0, .int .i64 d.r.x1, .int .i64 d.r.y1, .slice d.A d.n d.c, .int .i64 m.r.x0, .int .i64 m.r.y0, .int .i64 m.r.x1, .int .i64 m.r.y1, .slice m.A m.n m.c] := (by repeat (first | (with_reducible assumption) | ((with_reducible refine Bk.new _ _ _ ?_); first | (with_reducible rfl) | (simp; done)) | (with_reducible refine Bk.alloc ?_ _) | (with_reducible refine Bk.drew ?_) | (with_reducible refine Bk.drewN ?_ _) | ((with_reducible refine Bk.far ?_ ?_ _); rotate_left; focus (first | (simp; done) | (simp; omega))) | (with_reducible refine Bk.below ?_ (by with_reducible assumption)))); obtain ⟨kcX3, kfX3, kaX3, kgX3, klX3⟩ := kX3.rules; have kQ3 : Bk w3 (w.heap.size + 1) 44 #[.int .i64 x, .int .i64 y] := (by repeat (first | (with_reducible assumption) | ((with_reducible refine Bk.new _ _ _ ?_); first | (with_reducible rfl) | (simp; done)) | (with_reducible refine Bk.alloc ?_ _) | (with_reducible refine Bk.drew ?_) | (with_reducible refine Bk.drewN ?_ _) | ((with_reducible refine Bk.far ?_ ?_ _); rotate_left; focus (first | (simp; done) | (simp; omega))) | (with_reducible refine Bk.below ?_ (by with_reducible assumption)))); obtain ⟨kcQ3, kfQ3, kaQ3, kgQ3, klQ3⟩ := kQ3.rules
            obtain ⟨A3, c3, hv3, hr3, hle3, hmx3⟩ := ho3.form2 encP_len
            rw [Hn1.out] at hv3 hle3
            subst hv3
            have HR3 := Lib.hid hr3
            have HC3 := Lib.hid (And.intro hle3 hmx3)
            clear hr3 hle3 hmx3
            clear ho3
            
            have kX4 : Bk (w3.alloc (.cells #[.int .i64 R1.x0, .int .i64 R1.y0, .int .i64 R1.x1, .int .i64 R1.y1, .slice A3 n1 c3] 28)) (w.heap.size) 43 #[.int .i64 s.r.x0, .int .i64 s.r.y0, .int .i64 s.r.x1, .int .i64 s.r.y1, .slice s.A s.n s.c, .int .i64 d.r.x0, .int .i64 d.r.y0, .int .i64 d.r.x1, .int .i64 d.r.y1, .slice d.A d.n d.c, .int .i64 m.r.x0, .int .i64 m.r.y0, .int .i64 m.r.x1, .int .i64 m.r.y1, .slice m.A m.n m.c] := (by repeat (first | (with_reducible assumption) | ((with_reducible refine Bk.new _ _ _ ?_); first | (with_reducible rfl) | (simp; done)) | (with_reducible refine Bk.alloc ?_ _) | (with_reducible refine Bk.drew ?_) | (with_reducible refine Bk.drewN ?_ _) | ((with_reducible refine Bk.far ?_ ?_ _); rotate_left; focus (first | (simp; done) | (simp; omega))) | (with_reducible refine Bk.below ?_ (by with_reducible assumption))))
            have kQ4 : Bk (w3.alloc (.cells #[.int .i64 R1.x0, .int .i64 R1.y0, .int .i64 R1.x1, .int .i64 R1.y1, .slice A3 n1 c3] 28)) (w.heap.size + 1) 44 #[.int .i64 x, .int .i64 y] := (by repeat (first | (with_reducible assumption) | ((with_reducible refine Bk.new _ _ _ ?_); first | (with_reducible rfl) | (simp; done)) | (with_reducible refine Bk.alloc ?_ _) | (with_reducible refine Bk.drew ?_) | (with_reducible refine Bk.drewN ?_ _) | ((with_reducible refine Bk.far ?_ ?_ _); rotate_left; focus (first | (simp; done) | (simp; omega))) | (with_reducible refine Bk.below ?_ (by with_reducible assumption))))
            have kA4 : Bk (w3.alloc (.cells #[.int .i64 R1.x0, .int .i64 R1.y0, .int .i64 R1.x1, .int .i64 R1.y1, .slice A3 n1 c3] 28)) (w2.heap.size) 28 #[.int .i64 R0.x0, .int .i64 R0.y0, .int .i64 R0.x1, .int .i64 R0.y1, .slice A2 n0 c2] := (by repeat (first | (with_reducible assumption) | ((with_reducible refine Bk.new _ _ _ ?_); first | (with_reducible rfl) | (simp; done)) | (with_reducible refine Bk.alloc ?_ _) | (with_reducible refine Bk.drew ?_) | (with_reducible refine Bk.drewN ?_ _) | ((with_reducible refine Bk.far ?_ ?_ _); rotate_left; focus (first | (simp; done) | (simp; omega))) | (with_reducible refine Bk.below ?_ (by with_reducible assumption))))
            have kB4 : Bk (w3.alloc (.cells #[.int .i64 R1.x0, .int .i64 R1.y0, .int .i64 R1.x1, .int .i64 R1.y1, .slice A3 n1 c3] 28)) (w3.heap.size) 28 #[.int .i64 R1.x0, .int .i64 R1.y0, .int .i64 R1.x1, .int .i64 R1.y1, .slice A3 n1 c3] := Bk.new _ _ _ rfl
            have hB4 : Below w.heap.size w (w3.alloc (.cells #[.int .i64 R1.x0, .int .i64 R1.y0, .int .i64 R1.x1, .int .i64 R1.y1, .slice A3 n1 c3] 28)) := (by repeat (first | (with_reducible exact Below.refl _ _) | (with_reducible refine balloc ?_ _) | (with_reducible refine Below.drew ?_) | (with_reducible refine bdrewN ?_ _) | ((with_reducible refine bset ?_ ?_ _); rotate_left; focus (first | (with_reducible exact Nat.le_refl _) | (simp; done) | (simp; omega) | omega)) | (with_reducible refine bstep (by with_reducible assumption) ?_)))
            have hrA : RdL encP 4 (w3.alloc (.cells #[.int .i64 R1.x0, .int .i64 R1.y0, .int .i64 R1.x1, .int .i64 R1.y1, .slice A3 n1 c3] 28)) A2 L0 := HR2.out.below (by repeat (first | (with_reducible exact Below.refl _ _) | (with_reducible refine balloc ?_ _) | (with_reducible refine Below.drew ?_) | (with_reducible refine bdrewN ?_ _) | ((with_reducible refine bset ?_ ?_ _); rotate_left; focus (first | (with_reducible exact Nat.le_refl _) | (simp; done) | (simp; omega) | omega)) | (with_reducible refine bstep (by with_reducible assumption) ?_)))
            have HXA := Lib.hid hrA
            have hrB : RdL encP 4 (w3.alloc (.cells #[.int .i64 R1.x0, .int .i64 R1.y0, .int .i64 R1.x1, .int .i64 R1.y1, .slice A3 n1 c3] 28)) A3 L1 := HR3.out.below (by repeat (first | (with_reducible exact Below.refl _ _) | (with_reducible refine balloc ?_ _) | (with_reducible refine Below.drew ?_) | (with_reducible refine bdrewN ?_ _) | ((with_reducible refine bset ?_ ?_ _); rotate_left; focus (first | (with_reducible exact Nat.le_refl _) | (simp; done) | (simp; omega) | omega)) | (with_reducible refine bstep (by with_reducible assumption) ?_)))
            have HXB := Lib.hid hrB
            clear hrA hrB
            go_wp2_with fail
            clear kcX3 kfX3 kaX3 kgX3 kcQ3 kfQ3 kaQ3 kgQ3
            generalize (w3.alloc (.cells #[.int .i64 R1.x0, .int .i64 R1.y0, .int .i64 R1.x1, .int .i64 R1.y1, .slice A3 n1 c3] 28)) = W0 at kX4 kQ4 kA4 kB4 hB4 HXA HXB ⊢
            refine wp_region_gob 6 [(0, true), (1, true), (2, true), (3, true), (4, true), (5, true)] (by kernel_rfl) (by kernel_rfl) (fun c a d v w h => by cases d <;> exact h) ?_
            repeat (first | (refine wpGo_pure (v := ?_) rfl rfl (fun w' hS => ?_) ?_; rotate_left; (· have kQp : Bk w' (w.heap.size + 1) 44 #[.int .i64 x, .int .i64 y] := (by repeat (first | (with_reducible assumption) | ((with_reducible refine Bk.new _ _ _ ?_); first | (with_reducible rfl) | (simp; done)) | (with_reducible refine Bk.alloc ?_ _) | (with_reducible refine Bk.drew ?_) | (with_reducible refine Bk.drewN ?_ _) | ((with_reducible refine Bk.far ?_ ?_ _); rotate_left; focus (first | (simp; done) | (simp; omega))) | (with_reducible refine Bk.below ?_ (by with_reducible assumption)))); obtain ⟨kcQp, kfQp, kaQp, kgQp, klQp⟩ := kQp.rules; go_simp; exact rfl); (try simp only [Act.put, List.setIfInBounds_toArray, List.set_cons_zero, List.set_cons_succ])) | ((refine wpGo_skip rfl rfl ?_); (try simp only [Act.put, List.setIfInBounds_toArray, List.set_cons_zero, List.set_cons_succ])))
            refine wpGo_nil ?_
            simp only [List.drop_succ_cons, List.drop_zero]
            have kX5 := kX4.drew
            have kQ5 := kQ4.drew
            have kA5 := kA4.drew
            have kB5 := kB4.drew
            have hB5 := hB4.drew
            clear kQ4
            obtain ⟨kcX5, kfX5, kaX5, kgX5, klX5⟩ := kX5.rules
            go_wp2_with fail
            refine (rcontains_q _ _ _ _ _ _ false Hcc _).mono ?_
            rintro e w6 ⟨rfl, hb6⟩
            clear kcX5 kfX5 kaX5 kgX5
            have hB6 : Below w.heap.size w w6 := bstep hb6 hB5
            clear hB5 hb6
            go_wp2_with fail
            refine (ex_any _).mono ?_
            rintro e w7 ⟨rfl, hb7⟩
            go_wp2
            go_ret
            exact ⟨rfl, bstep hb7 hB6⟩
          | true =>
            have Hcc : Hid (containsB ⟨d.r.x0, d.r.y0, d.r.x1, d.r.y1⟩ x y = true) := hcc
            clear hcc
            go_enter Try.func5, Try.ntmps5
            go_wp2_with fail
            refine (spair_any s d m _ true HSP).mono ?_
            rintro e w1 ⟨rfl, hb1⟩
            have kX1 : Bk w1 (w.heap.size) 43 #[.int .i64 s.r.x0, .int .i64 s.r.y0, .int .i64 s.r.x1, .int .i64 s.r.y1, .slice s.A s.n s.c, .int .i64 d.r.x0, .int .i64 d.r.y0, .int .i64 d.r.x1, .int .i64 d.r.y1, .slice d.A d.n d.c, .int .i64 m.r.x0, .int .i64 m.r.y0, .int .i64 m.r.x1, .int .i64 m.r.y1, .slice m.A m.n m.c] := (by repeat (first | (with_reducible assumption) | ((with_reducible refine Bk.new _ _ _ ?_); first | (with_reducible rfl) | (simp; done)) | (with_reducible refine Bk.alloc ?_ _) | (with_reducible refine Bk.drew ?_) | (with_reducible refine Bk.drewN ?_ _) | ((with_reducible refine Bk.far ?_ ?_ _); rotate_left; focus (first | (simp; done) | (simp; omega))) | (with_reducible refine Bk.below ?_ (by with_reducible assumption)))); obtain ⟨kcX1, kfX1, kaX1, kgX1, klX1⟩ := kX1.rules
            go_wp2_with fail
            refine (HBo.out _ (HS.out.below (by repeat (first | (with_reducible exact Below.refl _ _) | (with_reducible refine balloc ?_ _) | (with_reducible refine Below.drew ?_) | (with_reducible refine bdrewN ?_ _) | ((with_reducible refine bset ?_ ?_ _); rotate_left; focus (first | (with_reducible exact Nat.le_refl _) | (simp; done) | (simp; omega) | omega)) | (with_reducible refine bstep (by with_reducible assumption) ?_)))) (HD.out.below (by repeat (first | (with_reducible exact Below.refl _ _) | (with_reducible refine balloc ?_ _) | (with_reducible refine Below.drew ?_) | (with_reducible refine bdrewN ?_ _) | ((with_reducible refine bset ?_ ?_ _); rotate_left; focus (first | (with_reducible exact Nat.le_refl _) | (simp; done) | (simp; omega) | omega)) | (with_reducible refine bstep (by with_reducible assumption) ?_)))) (HM.out.below (by repeat (first | (with_reducible exact Below.refl _ _) | (with_reducible refine balloc ?_ _) | (with_reducible refine Below.drew ?_) | (with_reducible refine bdrewN ?_ _) | ((with_reducible refine bset ?_ ?_ _); rotate_left; focus (first | (with_reducible exact Nat.le_refl _) | (simp; done) | (simp; omega) | omega)) | (with_reducible refine bstep (by with_reducible assumption) ?_))))).mono ?_
            rintro e w2 ⟨v2, rfl, ho2, hb2⟩
            clear kcX1 kfX1 kaX1 kgX1
            have kX2 : Bk w2 (w.heap.size) 43 #[.int .i64 s.r.x0, .int .i64 s.r.y0, .int .i64 s.r.x1, .int .i64 s.r.y1, .slice s.A s.n s.c, .int .i64 d.r.x0, .int .i64 d.r.y0, .int .i64 d.r.x1, .int .i64 d.r.y1, .slice d.A d.n d.c, .int .i64 m.r.x0, .int .i64 m.r.y0, .int .i64 m.r.x1, .int .i64 m.r.y1, .slice m.A m.n m.c] := (by repeat (first | (with_reducible assumption) | ((with_reducible refine Bk.new _ _ _ ?_); first | (with_reducible rfl) | (simp; done)) | (with_reducible refine Bk.alloc ?_ _) | (with_reducible refine Bk.drew ?_) | (with_reducible refine Bk.drewN ?_ _) | ((with_reducible refine Bk.far ?_ ?_ _); rotate_left; focus (first | (simp; done) | (simp; omega))) | (with_reducible refine Bk.below ?_ (by with_reducible assumption)))); obtain ⟨kcX2, kfX2, kaX2, kgX2, klX2⟩ := kX2.rules
            obtain ⟨A2, c2, hv2, hr2, hle2, hmx2⟩ := ho2.form2 encP_len
            rw [Hn0.out] at hv2 hle2
            subst hv2
            have HR2 := Lib.hid hr2
            have HC2 := Lib.hid (And.intro hle2 hmx2)
            clear hr2 hle2 hmx2
            clear ho2
            
            have kA2 : Bk _ _ _ _ := Bk.new w2 28 #[.int .i64 R0.x0, .int .i64 R0.y0, .int .i64 R0.x1, .int .i64 R0.y1, .slice A2 n0 c2] rfl
            go_wp2_with fail
            refine (HLm.out _ (HS.out.below (by repeat (first | (with_reducible exact Below.refl _ _) | (with_reducible refine balloc ?_ _) | (with_reducible refine Below.drew ?_) | (with_reducible refine bdrewN ?_ _) | ((with_reducible refine bset ?_ ?_ _); rotate_left; focus (first | (with_reducible exact Nat.le_refl _) | (simp; done) | (simp; omega) | omega)) | (with_reducible refine bstep (by with_reducible assumption) ?_)))) (HD.out.below (by repeat (first | (with_reducible exact Below.refl _ _) | (with_reducible refine balloc ?_ _) | (with_reducible refine Below.drew ?_) | (with_reducible refine bdrewN ?_ _) | ((with_reducible refine bset ?_ ?_ _); rotate_left; focus (first | (with_reducible exact Nat.le_refl _) | (simp; done) | (simp; omega) | omega)) | (with_reducible refine bstep (by with_reducible assumption) ?_)))) (HM.out.below (by repeat (first | (with_reducible exact Below.refl _ _) | (with_reducible refine balloc ?_ _) | (with_reducible refine Below.drew ?_) | (with_reducible refine bdrewN ?_ _) | ((with_reducible refine bset ?_ ?_ _); rotate_left; focus (first | (with_reducible exact Nat.le_refl _) | (simp; done) | (simp; omega) | omega)) | (with_reducible refine bstep (by with_reducible assumption) ?_))))).mono ?_
            rintro e w3 ⟨v3, rfl, ho3, hb3⟩
            clear kcX2 kfX2 kaX2 kgX2
            have kX3 : Bk w3 (w.heap.size) 43 #[.int .i64 s.r.x0, .int .i64 s.r.y0, .int .i64 s.r.x1, .int .i64 s.r.y1, .slice s.A s.n s.c, .int .i64 d.r.x0, .int .i64 d.r.y0, .int .i64 d.r.x1, .int .i64 d.r.y1, .slice d.A d.n d.c, .int .i64 m.r.x0, .int .i64 m.r.y0, .int .i64 m.r.x1, .int .i64 m.r.y1, .slice m.A m.n m.c] := (by repeat (first | (with_reducible assumption) | ((with_reducible refine Bk.new _ _ _ ?_); first | (with_reducible rfl) | (simp; done)) | (with_reducible refine Bk.alloc ?_ _) | (with_reducible refine Bk.drew ?_) | (with_reducible refine Bk.drewN ?_ _) | ((with_reducible refine Bk.far ?_ ?_ _); rotate_left; focus (first | (simp; done) | (simp; omega))) | (with_reducible refine Bk.below ?_ (by with_reducible assumption)))); obtain ⟨kcX3, kfX3, kaX3, kgX3, klX3⟩ := kX3.rules; have kQ3 : Bk w3 (w.heap.size + 1) 44 #[.int .i64 x, .int .i64 y] := (by repeat (first | (with_reducible assumption) | ((with_reducible refine Bk.new _ _ _ ?_); first | (with_reducible rfl) | (simp; done)) | (with_reducible refine Bk.alloc ?_ _) | (with_reducible refine Bk.drew ?_) | (with_reducible refine Bk.drewN ?_ _) | ((with_reducible refine Bk.far ?_ ?_ _); rotate_left; focus (first | (simp; done) | (simp; omega))) | (with_reducible refine Bk.below ?_ (by with_reducible assumption)))); obtain ⟨kcQ3, kfQ3, kaQ3, kgQ3, klQ3⟩ := kQ3.rules
            obtain ⟨A3, c3, hv3, hr3, hle3, hmx3⟩ := ho3.form2 encP_len
            rw [Hn1.out] at hv3 hle3
            subst hv3
            have HR3 := Lib.hid hr3
            have HC3 := Lib.hid (And.intro hle3 hmx3)
            clear hr3 hle3 hmx3
            clear ho3
            
            have kX4 : Bk (w3.alloc (.cells #[.int .i64 R1.x0, .int .i64 R1.y0, .int .i64 R1.x1, .int .i64 R1.y1, .slice A3 n1 c3] 28)) (w.heap.size) 43 #[.int .i64 s.r.x0, .int .i64 s.r.y0, .int .i64 s.r.x1, .int .i64 s.r.y1, .slice s.A s.n s.c, .int .i64 d.r.x0, .int .i64 d.r.y0, .int .i64 d.r.x1, .int .i64 d.r.y1, .slice d.A d.n d.c, .int .i64 m.r.x0, .int .i64 m.r.y0, .int .i64 m.r.x1, .int .i64 m.r.y1, .slice m.A m.n m.c] := (by repeat (first | (with_reducible assumption) | ((with_reducible refine Bk.new _ _ _ ?_); first | (with_reducible rfl) | (simp; done)) | (with_reducible refine Bk.alloc ?_ _) | (with_reducible refine Bk.drew ?_) | (with_reducible refine Bk.drewN ?_ _) | ((with_reducible refine Bk.far ?_ ?_ _); rotate_left; focus (first | (simp; done) | (simp; omega))) | (with_reducible refine Bk.below ?_ (by with_reducible assumption))))
            have kQ4 : Bk (w3.alloc (.cells #[.int .i64 R1.x0, .int .i64 R1.y0, .int .i64 R1.x1, .int .i64 R1.y1, .slice A3 n1 c3] 28)) (w.heap.size + 1) 44 #[.int .i64 x, .int .i64 y] := (by repeat (first | (with_reducible assumption) | ((with_reducible refine Bk.new _ _ _ ?_); first | (with_reducible rfl) | (simp; done)) | (with_reducible refine Bk.alloc ?_ _) | (with_reducible refine Bk.drew ?_) | (with_reducible refine Bk.drewN ?_ _) | ((with_reducible refine Bk.far ?_ ?_ _); rotate_left; focus (first | (simp; done) | (simp; omega))) | (with_reducible refine Bk.below ?_ (by with_reducible assumption))))
            have kA4 : Bk (w3.alloc (.cells #[.int .i64 R1.x0, .int .i64 R1.y0, .int .i64 R1.x1, .int .i64 R1.y1, .slice A3 n1 c3] 28)) (w2.heap.size) 28 #[.int .i64 R0.x0, .int .i64 R0.y0, .int .i64 R0.x1, .int .i64 R0.y1, .slice A2 n0 c2] := (by repeat (first | (with_reducible assumption) | ((with_reducible refine Bk.new _ _ _ ?_); first | (with_reducible rfl) | (simp; done)) | (with_reducible refine Bk.alloc ?_ _) | (with_reducible refine Bk.drew ?_) | (with_reducible refine Bk.drewN ?_ _) | ((with_reducible refine Bk.far ?_ ?_ _); rotate_left; focus (first | (simp; done) | (simp; omega))) | (with_reducible refine Bk.below ?_ (by with_reducible assumption))))
            have kB4 : Bk (w3.alloc (.cells #[.int .i64 R1.x0, .int .i64 R1.y0, .int .i64 R1.x1, .int .i64 R1.y1, .slice A3 n1 c3] 28)) (w3.heap.size) 28 #[.int .i64 R1.x0, .int .i64 R1.y0, .int .i64 R1.x1, .int .i64 R1.y1, .slice A3 n1 c3] := Bk.new _ _ _ rfl
            have hB4 : Below w.heap.size w (w3.alloc (.cells #[.int .i64 R1.x0, .int .i64 R1.y0, .int .i64 R1.x1, .int .i64 R1.y1, .slice A3 n1 c3] 28)) := (by repeat (first | (with_reducible exact Below.refl _ _) | (with_reducible refine balloc ?_ _) | (with_reducible refine Below.drew ?_) | (with_reducible refine bdrewN ?_ _) | ((with_reducible refine bset ?_ ?_ _); rotate_left; focus (first | (with_reducible exact Nat.le_refl _) | (simp; done) | (simp; omega) | omega)) | (with_reducible refine bstep (by with_reducible assumption) ?_)))
            have hrA : RdL encP 4 (w3.alloc (.cells #[.int .i64 R1.x0, .int .i64 R1.y0, .int .i64 R1.x1, .int .i64 R1.y1, .slice A3 n1 c3] 28)) A2 L0 := HR2.out.below (by repeat (first | (with_reducible exact Below.refl _ _) | (with_reducible refine balloc ?_ _) | (with_reducible refine Below.drew ?_) | (with_reducible refine bdrewN ?_ _) | ((with_reducible refine bset ?_ ?_ _); rotate_left; focus (first | (with_reducible exact Nat.le_refl _) | (simp; done) | (simp; omega) | omega)) | (with_reducible refine bstep (by with_reducible assumption) ?_)))
            have HXA := Lib.hid hrA
            have hrB : RdL encP 4 (w3.alloc (.cells #[.int .i64 R1.x0, .int .i64 R1.y0, .int .i64 R1.x1, .int .i64 R1.y1, .slice A3 n1 c3] 28)) A3 L1 := HR3.out.below (by repeat (first | (with_reducible exact Below.refl _ _) | (with_reducible refine balloc ?_ _) | (with_reducible refine Below.drew ?_) | (with_reducible refine bdrewN ?_ _) | ((with_reducible refine bset ?_ ?_ _); rotate_left; focus (first | (with_reducible exact Nat.le_refl _) | (simp; done) | (simp; omega) | omega)) | (with_reducible refine bstep (by with_reducible assumption) ?_)))
            have HXB := Lib.hid hrB
            clear hrA hrB
            go_wp2_with fail
            clear kcX3 kfX3 kaX3 kgX3 kcQ3 kfQ3 kaQ3 kgQ3
            generalize (w3.alloc (.cells #[.int .i64 R1.x0, .int .i64 R1.y0, .int .i64 R1.x1, .int .i64 R1.y1, .slice A3 n1 c3] 28)) = W0 at kX4 kQ4 kA4 kB4 hB4 HXA HXB ⊢
            refine wp_region_gob 6 [(0, true), (1, true), (2, true), (3, true), (4, true), (5, true)] (by kernel_rfl) (by kernel_rfl) (fun c a d v w h => by cases d <;> exact h) ?_
            repeat (first | (refine wpGo_pure (v := ?_) rfl rfl (fun w' hS => ?_) ?_; rotate_left; (· have kQp : Bk w' (w.heap.size + 1) 44 #[.int .i64 x, .int .i64 y] := (by repeat (first | (with_reducible assumption) | ((with_reducible refine Bk.new _ _ _ ?_); first | (with_reducible rfl) | (simp; done)) | (with_reducible refine Bk.alloc ?_ _) | (with_reducible refine Bk.drew ?_) | (with_reducible refine Bk.drewN ?_ _) | ((with_reducible refine Bk.far ?_ ?_ _); rotate_left; focus (first | (simp; done) | (simp; omega))) | (with_reducible refine Bk.below ?_ (by with_reducible assumption)))); obtain ⟨kcQp, kfQp, kaQp, kgQp, klQp⟩ := kQp.rules; go_simp; exact rfl); (try simp only [Act.put, List.setIfInBounds_toArray, List.set_cons_zero, List.set_cons_succ])) | ((refine wpGo_skip rfl rfl ?_); (try simp only [Act.put, List.setIfInBounds_toArray, List.set_cons_zero, List.set_cons_succ])))
            refine wpGo_nil ?_
            simp only [List.drop_succ_cons, List.drop_zero]
            have kX5 := kX4.drew
            have kQ5 := kQ4.drew
            have kA5 := kA4.drew
            have kB5 := kB4.drew
            have hB5 := hB4.drew
            clear kQ4
            obtain ⟨kcX5, kfX5, kaX5, kgX5, klX5⟩ := kX5.rules
            go_wp2_with fail
            refine (rcontains_q _ _ _ _ _ _ true Hcc _).mono ?_
            rintro e w6 ⟨rfl, hb6⟩
            clear kcX5 kfX5 kaX5 kgX5
            have hB6 : Below w.heap.size w w6 := bstep hb6 hB5
            clear hB5 hb6
            go_wp2_with fail
            refine (ex_any _).mono ?_
            rintro e w7 ⟨rfl, hb7⟩
            go_wp2
            go_ret
            exact ⟨rfl, bstep hb7 hB6⟩
        | true =>
          have eb : boE mode s d m = 0 := by unfold boE; rw [h1, h2, h3]; rfl
          have el : lmE d s m = 0 := by unfold lmE; rw [Bool.and_comm, h1, h2]; rfl
          have HBo : Hid (∀ (W : World), s.ok W → d.ok W → m.ok W → Calls Try.prog 23 #[.int .i64 mode, .agg #[.int .i64 s.r.x0, .int .i64 s.r.y0, .int .i64 s.r.x1, .int .i64 s.r.y1, .slice s.A s.n s.c], .agg #[.int .i64 d.r.x0, .int .i64 d.r.y0, .int .i64 d.r.x1, .int .i64 d.r.y1, .slice d.A d.n d.c], .agg #[.int .i64 m.r.x0, .int .i64 m.r.y0, .int .i64 m.r.x1, .int .i64 m.r.y1, .slice m.A m.n m.c]] W (RetBE R0 L0 0 W)) := fun W h1 h2 h3 => by
            have := bo_any mode s d m W h1 h2 h3 (by omega) (by omega) (by omega)
            rw [HR0.out, HL0.out, eb] at this
            exact this
          have HLm : Hid (∀ (W : World), s.ok W → d.ok W → m.ok W → Calls Try.prog 24 #[.agg #[.int .i64 d.r.x0, .int .i64 d.r.y0, .int .i64 d.r.x1, .int .i64 d.r.y1, .slice d.A d.n d.c], .agg #[.int .i64 s.r.x0, .int .i64 s.r.y0, .int .i64 s.r.x1, .int .i64 s.r.y1, .slice s.A s.n s.c], .agg #[.int .i64 m.r.x0, .int .i64 m.r.y0, .int .i64 m.r.x1, .int .i64 m.r.y1, .slice m.A m.n m.c]] W (RetBE R1 L1 0 W)) := fun W h1 h2 h3 => by
            have := lm_any d s m W h2 h1 h3 (by omega) (by omega) (by omega)
            rw [HR1.out, HL1.out, el] at this
            exact this
          clear eb el
          cases hcc : containsB d.r x y with
          | false =>
            have Hcc : Hid (containsB ⟨d.r.x0, d.r.y0, d.r.x1, d.r.y1⟩ x y = false) := hcc
            clear hcc h1 h2 h3
            go_enter Try.func5, Try.ntmps5
            go_wp2_with fail
            refine (spair_any s d m _ true HSP).mono ?_
            rintro e w1 ⟨rfl, hb1⟩
            have kX1 : Bk w1 (w.heap.size) 43 #[.int .i64 s.r.x0, .int .i64 s.r.y0, .int .i64 s.r.x1, .int .i64 s.r.y1, .slice s.A s.n s.c, .int .i64 d.r.x0, .int .i64 d.r.y0, .int .i64 d.r.x1, .int .i64 d.r.y1, .slice d.A d.n d.c, .int .i64 m.r.x0, .int .i64 m.r.y0, .int .i64 m.r.x1, .int .i64 m.r.y1, .slice m.A m.n m.c] := (by repeat (first | (with_reducible assumption) | ((with_reducible refine Bk.new _ _ _ ?_); first | (with_reducible rfl) | (simp; done)) | (with_reducible refine Bk.alloc ?_ _) | (with_reducible refine Bk.drew ?_) | (with_reducible refine Bk.drewN ?_ _) | ((with_reducible refine Bk.far ?_ ?_ _); rotate_left; focus (first | (simp; done) | (simp; omega))) | (with_reducible refine Bk.below ?_ (by with_reducible assumption)))); obtain ⟨kcX1, kfX1, kaX1, kgX1, klX1⟩ := kX1.rules
            go_wp2_with fail
            refine (HBo.out _ (HS.out.below (by repeat (first | (with_reducible exact Below.refl _ _) | (with_reducible refine balloc ?_ _) | (with_reducible refine Below.drew ?_) | (with_reducible refine bdrewN ?_ _) | ((with_reducible refine bset ?_ ?_ _); rotate_left; focus (first | (with_reducible exact Nat.le_refl _) | (simp; done) | (simp; omega) | omega)) | (with_reducible refine bstep (by with_reducible assumption) ?_)))) (HD.out.below (by repeat (first | (with_reducible exact Below.refl _ _) | (with_reducible refine balloc ?_ _) | (with_reducible refine Below.drew ?_) | (with_reducible refine bdrewN ?_ _) | ((with_reducible refine bset ?_ ?_ _); rotate_left; focus (first | (with_reducible exact Nat.le_refl _) | (simp; done) | (simp; omega) | omega)) | (with_reducible refine bstep (by with_reducible assumption) ?_)))) (HM.out.below (by repeat (first | (with_reducible exact Below.refl _ _) | (with_reducible refine balloc ?_ _) | (with_reducible refine Below.drew ?_) | (with_reducible refine bdrewN ?_ _) | ((with_reducible refine bset ?_ ?_ _); rotate_left; focus (first | (with_reducible exact Nat.le_refl _) | (simp; done) | (simp; omega) | omega)) | (with_reducible refine bstep (by with_reducible assumption) ?_))))).mono ?_
            rintro e w2 ⟨v2, rfl, ho2, hb2⟩
            clear kcX1 kfX1 kaX1 kgX1
            have kX2 : Bk w2 (w.heap.size) 43 #[.int .i64 s.r.x0, .int .i64 s.r.y0, .int .i64 s.r.x1, .int .i64 s.r.y1, .slice s.A s.n s.c, .int .i64 d.r.x0, .int .i64 d.r.y0, .int .i64 d.r.x1, .int .i64 d.r.y1, .slice d.A d.n d.c, .int .i64 m.r.x0, .int .i64 m.r.y0, .int .i64 m.r.x1, .int .i64 m.r.y1, .slice m.A m.n m.c] := (by repeat (first | (with_reducible assumption) | ((with_reducible refine Bk.new _ _ _ ?_); first | (with_reducible rfl) | (simp; done)) | (with_reducible refine Bk.alloc ?_ _) | (with_reducible refine Bk.drew ?_) | (with_reducible refine Bk.drewN ?_ _) | ((with_reducible refine Bk.far ?_ ?_ _); rotate_left; focus (first | (simp; done) | (simp; omega))) | (with_reducible refine Bk.below ?_ (by with_reducible assumption)))); obtain ⟨kcX2, kfX2, kaX2, kgX2, klX2⟩ := kX2.rules
            obtain ⟨A2, c2, hv2, hr2, hle2, hmx2⟩ := ho2.form2 encP_len
            rw [Hn0.out] at hv2 hle2
            subst hv2
            have HR2 := Lib.hid hr2
            have HC2 := Lib.hid (And.intro hle2 hmx2)
            clear hr2 hle2 hmx2
            clear ho2
            
            have kA2 : Bk _ _ _ _ := Bk.new w2 28 #[.int .i64 R0.x0, .int .i64 R0.y0, .int .i64 R0.x1, .int .i64 R0.y1, .slice A2 n0 c2] rfl
            go_wp2_with fail
            refine (HLm.out _ (HS.out.below (by repeat (first | (with_reducible exact Below.refl _ _) | (with_reducible refine balloc ?_ _) | (with_reducible refine Below.drew ?_) | (with_reducible refine bdrewN ?_ _) | ((with_reducible refine bset ?_ ?_ _); rotate_left; focus (first | (with_reducible exact Nat.le_refl _) | (simp; done) | (simp; omega) | omega)) | (with_reducible refine bstep (by with_reducible assumption) ?_)))) (HD.out.below (by repeat (first | (with_reducible exact Below.refl _ _) | (with_reducible refine balloc ?_ _) | (with_reducible refine Below.drew ?_) | (with_reducible refine bdrewN ?_ _) | ((with_reducible refine bset ?_ ?_ _); rotate_left; focus (first | (with_reducible exact Nat.le_refl _) | (simp; done) | (simp; omega) | omega)) | (with_reducible refine bstep (by with_reducible assumption) ?_)))) (HM.out.below (by repeat (first | (with_reducible exact Below.refl _ _) | (with_reducible refine balloc ?_ _) | (with_reducible refine Below.drew ?_) | (with_reducible refine bdrewN ?_ _) | ((with_reducible refine bset ?_ ?_ _); rotate_left; focus (first | (with_reducible exact Nat.le_refl _) | (simp; done) | (simp; omega) | omega)) | (with_reducible refine bstep (by with_reducible assumption) ?_))))).mono ?_
            rintro e w3 ⟨v3, rfl, ho3, hb3⟩
            clear kcX2 kfX2 kaX2 kgX2
            have kX3 : Bk w3 (w.heap.size) 43 #[.int .i64 s.r.x0, .int .i64 s.r.y0, .int .i64 s.r.x1, .int .i64 s.r.y1, .slice s.A s.n s.c, .int .i64 d.r.x0, .int .i64 d.r.y0, .int .i64 d.r.x1, .int .i64 d.r.y1, .slice d.A d.n d.c, .int .i64 m.r.x0, .int .i64 m.r.y0, .int .i64 m.r.x1, .int .i64 m.r.y1, .slice m.A m.n m.c] := (by repeat (first | (with_reducible assumption) | ((with_reducible refine Bk.new _ _ _ ?_); first | (with_reducible rfl) | (simp; done)) | (with_reducible refine Bk.alloc ?_ _) | (with_reducible refine Bk.drew ?_) | (with_reducible refine Bk.drewN ?_ _) | ((with_reducible refine Bk.far ?_ ?_ _); rotate_left; focus (first | (simp; done) | (simp; omega))) | (with_reducible refine Bk.below ?_ (by with_reducible assumption)))); obtain ⟨kcX3, kfX3, kaX3, kgX3, klX3⟩ := kX3.rules; have kQ3 : Bk w3 (w.heap.size + 1) 44 #[.int .i64 x, .int .i64 y] := (by repeat (first | (with_reducible assumption) | ((with_reducible refine Bk.new _ _ _ ?_); first | (with_reducible rfl) | (simp; done)) | (with_reducible refine Bk.alloc ?_ _) | (with_reducible refine Bk.drew ?_) | (with_reducible refine Bk.drewN ?_ _) | ((with_reducible refine Bk.far ?_ ?_ _); rotate_left; focus (first | (simp; done) | (simp; omega))) | (with_reducible refine Bk.below ?_ (by with_reducible assumption)))); obtain ⟨kcQ3, kfQ3, kaQ3, kgQ3, klQ3⟩ := kQ3.rules
            obtain ⟨A3, c3, hv3, hr3, hle3, hmx3⟩ := ho3.form2 encP_len
            rw [Hn1.out] at hv3 hle3
            subst hv3
            have HR3 := Lib.hid hr3
            have HC3 := Lib.hid (And.intro hle3 hmx3)
            clear hr3 hle3 hmx3
            clear ho3
            
            have kX4 : Bk (w3.alloc (.cells #[.int .i64 R1.x0, .int .i64 R1.y0, .int .i64 R1.x1, .int .i64 R1.y1, .slice A3 n1 c3] 28)) (w.heap.size) 43 #[.int .i64 s.r.x0, .int .i64 s.r.y0, .int .i64 s.r.x1, .int .i64 s.r.y1, .slice s.A s.n s.c, .int .i64 d.r.x0, .int .i64 d.r.y0, .int .i64 d.r.x1, .int .i64 d.r.y1, .slice d.A d.n d.c, .int .i64 m.r.x0, .int .i64 m.r.y0, .int .i64 m.r.x1, .int .i64 m.r.y1, .slice m.A m.n m.c] := (by repeat (first | (with_reducible assumption) | ((with_reducible refine Bk.new _ _ _ ?_); first | (with_reducible rfl) | (simp; done)) | (with_reducible refine Bk.alloc ?_ _) | (with_reducible refine Bk.drew ?_) | (with_reducible refine Bk.drewN ?_ _) | ((with_reducible refine Bk.far ?_ ?_ _); rotate_left; focus (first | (simp; done) | (simp; omega))) | (with_reducible refine Bk.below ?_ (by with_reducible assumption))))
            have kQ4 : Bk (w3.alloc (.cells #[.int .i64 R1.x0, .int .i64 R1.y0, .int .i64 R1.x1, .int .i64 R1.y1, .slice A3 n1 c3] 28)) (w.heap.size + 1) 44 #[.int .i64 x, .int .i64 y] := (by repeat (first | (with_reducible assumption) | ((with_reducible refine Bk.new _ _ _ ?_); first | (with_reducible rfl) | (simp; done)) | (with_reducible refine Bk.alloc ?_ _) | (with_reducible refine Bk.drew ?_) | (with_reducible refine Bk.drewN ?_ _) | ((with_reducible refine Bk.far ?_ ?_ _); rotate_left; focus (first | (simp; done) | (simp; omega))) | (with_reducible refine Bk.below ?_ (by with_reducible assumption))))
            have kA4 : Bk (w3.alloc (.cells #[.int .i64 R1.x0, .int .i64 R1.y0, .int .i64 R1.x1, .int .i64 R1.y1, .slice A3 n1 c3] 28)) (w2.heap.size) 28 #[.int .i64 R0.x0, .int .i64 R0.y0, .int .i64 R0.x1, .int .i64 R0.y1, .slice A2 n0 c2] := (by repeat (first | (with_reducible assumption) | ((with_reducible refine Bk.new _ _ _ ?_); first | (with_reducible rfl) | (simp; done)) | (with_reducible refine Bk.alloc ?_ _) | (with_reducible refine Bk.drew ?_) | (with_reducible refine Bk.drewN ?_ _) | ((with_reducible refine Bk.far ?_ ?_ _); rotate_left; focus (first | (simp; done) | (simp; omega))) | (with_reducible refine Bk.below ?_ (by with_reducible assumption))))
            have kB4 : Bk (w3.alloc (.cells #[.int .i64 R1.x0, .int .i64 R1.y0, .int .i64 R1.x1, .int .i64 R1.y1, .slice A3 n1 c3] 28)) (w3.heap.size) 28 #[.int .i64 R1.x0, .int .i64 R1.y0, .int .i64 R1.x1, .int .i64 R1.y1, .slice A3 n1 c3] := Bk.new _ _ _ rfl
            have hB4 : Below w.heap.size w (w3.alloc (.cells #[.int .i64 R1.x0, .int .i64 R1.y0, .int .i64 R1.x1, .int .i64 R1.y1, .slice A3 n1 c3] 28)) := (by repeat (first | (with_reducible exact Below.refl _ _) | (with_reducible refine balloc ?_ _) | (with_reducible refine Below.drew ?_) | (with_reducible refine bdrewN ?_ _) | ((with_reducible refine bset ?_ ?_ _); rotate_left; focus (first | (with_reducible exact Nat.le_refl _) | (simp; done) | (simp; omega) | omega)) | (with_reducible refine bstep (by with_reducible assumption) ?_)))
            have hrA : RdL encP 4 (w3.alloc (.cells #[.int .i64 R1.x0, .int .i64 R1.y0, .int .i64 R1.x1, .int .i64 R1.y1, .slice A3 n1 c3] 28)) A2 L0 := HR2.out.below (by repeat (first | (with_reducible exact Below.refl _ _) | (with_reducible refine balloc ?_ _) | (with_reducible refine Below.drew ?_) | (with_reducible refine bdrewN ?_ _) | ((with_reducible refine bset ?_ ?_ _); rotate_left; focus (first | (with_reducible exact Nat.le_refl _) | (simp; done) | (simp; omega) | omega)) | (with_reducible refine bstep (by with_reducible assumption) ?_)))
            have HXA := Lib.hid hrA
            have hrB : RdL encP 4 (w3.alloc (.cells #[.int .i64 R1.x0, .int .i64 R1.y0, .int .i64 R1.x1, .int .i64 R1.y1, .slice A3 n1 c3] 28)) A3 L1 := HR3.out.below (by repeat (first | (with_reducible exact Below.refl _ _) | (with_reducible refine balloc ?_ _) | (with_reducible refine Below.drew ?_) | (with_reducible refine bdrewN ?_ _) | ((with_reducible refine bset ?_ ?_ _); rotate_left; focus (first | (with_reducible exact Nat.le_refl _) | (simp; done) | (simp; omega) | omega)) | (with_reducible refine bstep (by with_reducible assumption) ?_)))
            have HXB := Lib.hid hrB
            clear hrA hrB
            go_wp2_with fail
            clear kcX3 kfX3 kaX3 kgX3 kcQ3 kfQ3 kaQ3 kgQ3
            generalize (w3.alloc (.cells #[.int .i64 R1.x0, .int .i64 R1.y0, .int .i64 R1.x1, .int .i64 R1.y1, .slice A3 n1 c3] 28)) = W0 at kX4 kQ4 kA4 kB4 hB4 HXA HXB ⊢
            refine wp_region_gob 6 [(0, true), (1, true), (2, true), (3, true), (4, true), (5, true)] (by kernel_rfl) (by kernel_rfl) (fun c a d v w h => by cases d <;> exact h) ?_
            repeat (first | (refine wpGo_pure (v := ?_) rfl rfl (fun w' hS => ?_) ?_; rotate_left; (· have kQp : Bk w' (w.heap.size + 1) 44 #[.int .i64 x, .int .i64 y] := (by repeat (first | (with_reducible assumption) | ((with_reducible refine Bk.new _ _ _ ?_); first | (with_reducible rfl) | (simp; done)) | (with_reducible refine Bk.alloc ?_ _) | (with_reducible refine Bk.drew ?_) | (with_reducible refine Bk.drewN ?_ _) | ((with_reducible refine Bk.far ?_ ?_ _); rotate_left; focus (first | (simp; done) | (simp; omega))) | (with_reducible refine Bk.below ?_ (by with_reducible assumption)))); obtain ⟨kcQp, kfQp, kaQp, kgQp, klQp⟩ := kQp.rules; go_simp; exact rfl); (try simp only [Act.put, List.setIfInBounds_toArray, List.set_cons_zero, List.set_cons_succ])) | ((refine wpGo_skip rfl rfl ?_); (try simp only [Act.put, List.setIfInBounds_toArray, List.set_cons_zero, List.set_cons_succ])))
            refine wpGo_nil ?_
            simp only [List.drop_succ_cons, List.drop_zero]
            have kX5 := kX4.drew
            have kQ5 := kQ4.drew
            have kA5 := kA4.drew
            have kB5 := kB4.drew
            have hB5 := hB4.drew
            clear kQ4
            obtain ⟨kcX5, kfX5, kaX5, kgX5, klX5⟩ := kX5.rules
            go_wp2_with fail
            refine (rcontains_q _ _ _ _ _ _ false Hcc _).mono ?_
            rintro e w6 ⟨rfl, hb6⟩
            clear kcX5 kfX5 kaX5 kgX5
            have hB6 : Below w.heap.size w w6 := bstep hb6 hB5
            clear hB5 hb6
            go_wp2_with fail
            refine (ex_any _).mono ?_
            rintro e w7 ⟨rfl, hb7⟩
            go_wp2
            go_ret
            exact ⟨rfl, bstep hb7 hB6⟩
          | true =>
            have Hcc : Hid (containsB ⟨d.r.x0, d.r.y0, d.r.x1, d.r.y1⟩ x y = true) := hcc
            have hvs : bmValid s.r s.l = true := by have := h1; simp at this; exact this.1
            have hvd : bmValid d.r d.l = true := by have := h1; simp at this; exact this.2
            obtain ⟨ps, Hps0⟩ : ∃ p, Hid (atL zP s.r s.l x y = p) := ⟨_, rfl⟩
            obtain ⟨pd, Hpd0⟩ : ∃ p, Hid (atL zP d.r d.l x y = p) := ⟨_, rfl⟩
            obtain ⟨pm, Hpm0⟩ : ∃ p, Hid (atL 0 m.r m.l x y = p) := ⟨_, rfl⟩
            have hbs := atL_px (r := s.r) HS.out.byte x y
            have hbd := atL_px (r := d.r) HD.out.byte x y
            have hbm := atL_byte (r := m.r) HM.out.byte x y
            rw [Hps0.out] at hbs
            rw [Hpd0.out] at hbd
            rw [Hpm0.out] at hbm
            have Hps : Hid ((if bmValid s.r s.l then atL zP s.r s.l x y else zP) = ps) := by unfold Hid; rw [hvs, if_pos rfl]; exact Hps0.out
            have Hpd : Hid ((if bmValid d.r d.l then atL zP d.r d.l x y else zP) = pd) := by unfold Hid; rw [hvd, if_pos rfl]; exact Hpd0.out
            have Hpm : Hid ((if mkValid m.r m.l then atL 0 m.r m.l x y else 0) = pm) := by unfold Hid; rw [show mkValid m.r m.l = true from h2, if_pos rfl]; exact Hpm0.out
            obtain ⟨q0, Hw0⟩ : ∃ p, Hid (bwcP mode ps pd pm = p) := ⟨_, rfl⟩
            obtain ⟨q1, Hw1⟩ : ∃ p, Hid (lerpP pd ps pm = p) := ⟨_, rfl⟩
            obtain ⟨vd0, vd1, vd2, vd3⟩ := valid_cn hvd
            obtain ⟨vs0, vs1, vs2, vs3⟩ := valid_cn hvs
            have hsd : (vBm s && vBm d) = true := h1
            have hds : (vBm d && vBm s) = true := by rw [Bool.and_comm]; exact h1
            have hbv : boV mode s d m = true := by unfold boV; rw [hsd, h2, h3]; rfl
            have hlv : lmV d s m = true := by unfold lmV; rw [hds, h2]; rfl
            have Hq0 : Hid ((if bmValid R0 L0 then atL zP R0 L0 x y else zP) = q0) := by
              unfold Hid
              rw [← HR0.out, ← HL0.out, show boR mode s d m = d.r by unfold boR; rw [hbv]; rfl, show boL mode s d m = pixL (boG mode s d m) d.r by unfold boL; rw [hbv]; rfl,
                bpix_valid (g := boG mode s d m) vd0 vd3 (fun x y => bwc_pv h3 (atL_px HS.out.byte x y) (atL_px HD.out.byte x y) (atL_byte HM.out.byte x y).1 (atL_byte HM.out.byte x y).2), if_pos rfl, atL_pix, if_pos hcc, ← Hw0.out, ← Hps0.out, ← Hpd0.out, ← Hpm0.out]
              rfl
            have Hq1 : Hid ((if bmValid R1 L1 then atL zP R1 L1 x y else zP) = q1) := by
              unfold Hid
              rw [← HR1.out, ← HL1.out, show lmR d s m = d.r by unfold lmR; rw [hlv]; rfl, show lmL d s m = pixL (lmG d s m) d.r by unfold lmL; rw [hlv]; rfl,
                bpix_valid (g := lmG d s m) vd0 vd3 (fun x y => lerp_pv (atL_pv vd2 x y) (atL_pv vs2 x y) (atL_byte HM.out.byte x y).1 (atL_byte HM.out.byte x y).2), if_pos rfl, atL_pix, if_pos hcc, ← Hw1.out, ← Hps0.out, ← Hpd0.out, ← Hpm0.out]
              rfl
            have heq0 := fun w => (eql_px q0 q0 w).trans (by rw [eqP_refl])
            have heq1 := fun w => (eql_px q1 q1 w).trans (by rw [eqP_refl])
            clear hcc h1 h2 h3 hsd hds hbv hlv vd0 vd1 vd2 vd3 vs0 vs1 vs2 vs3 hvs hvd
            go_enter Try.func5, Try.ntmps5
            go_wp2_with fail
            refine (spair_any s d m _ true HSP).mono ?_
            rintro e w1 ⟨rfl, hb1⟩
            have kX1 : Bk w1 (w.heap.size) 43 #[.int .i64 s.r.x0, .int .i64 s.r.y0, .int .i64 s.r.x1, .int .i64 s.r.y1, .slice s.A s.n s.c, .int .i64 d.r.x0, .int .i64 d.r.y0, .int .i64 d.r.x1, .int .i64 d.r.y1, .slice d.A d.n d.c, .int .i64 m.r.x0, .int .i64 m.r.y0, .int .i64 m.r.x1, .int .i64 m.r.y1, .slice m.A m.n m.c] := (by repeat (first | (with_reducible assumption) | ((with_reducible refine Bk.new _ _ _ ?_); first | (with_reducible rfl) | (simp; done)) | (with_reducible refine Bk.alloc ?_ _) | (with_reducible refine Bk.drew ?_) | (with_reducible refine Bk.drewN ?_ _) | ((with_reducible refine Bk.far ?_ ?_ _); rotate_left; focus (first | (simp; done) | (simp; omega))) | (with_reducible refine Bk.below ?_ (by with_reducible assumption)))); obtain ⟨kcX1, kfX1, kaX1, kgX1, klX1⟩ := kX1.rules
            go_wp2_with fail
            refine (HBo.out _ (HS.out.below (by repeat (first | (with_reducible exact Below.refl _ _) | (with_reducible refine balloc ?_ _) | (with_reducible refine Below.drew ?_) | (with_reducible refine bdrewN ?_ _) | ((with_reducible refine bset ?_ ?_ _); rotate_left; focus (first | (with_reducible exact Nat.le_refl _) | (simp; done) | (simp; omega) | omega)) | (with_reducible refine bstep (by with_reducible assumption) ?_)))) (HD.out.below (by repeat (first | (with_reducible exact Below.refl _ _) | (with_reducible refine balloc ?_ _) | (with_reducible refine Below.drew ?_) | (with_reducible refine bdrewN ?_ _) | ((with_reducible refine bset ?_ ?_ _); rotate_left; focus (first | (with_reducible exact Nat.le_refl _) | (simp; done) | (simp; omega) | omega)) | (with_reducible refine bstep (by with_reducible assumption) ?_)))) (HM.out.below (by repeat (first | (with_reducible exact Below.refl _ _) | (with_reducible refine balloc ?_ _) | (with_reducible refine Below.drew ?_) | (with_reducible refine bdrewN ?_ _) | ((with_reducible refine bset ?_ ?_ _); rotate_left; focus (first | (with_reducible exact Nat.le_refl _) | (simp; done) | (simp; omega) | omega)) | (with_reducible refine bstep (by with_reducible assumption) ?_))))).mono ?_
            rintro e w2 ⟨v2, rfl, ho2, hb2⟩
            clear kcX1 kfX1 kaX1 kgX1
            have kX2 : Bk w2 (w.heap.size) 43 #[.int .i64 s.r.x0, .int .i64 s.r.y0, .int .i64 s.r.x1, .int .i64 s.r.y1, .slice s.A s.n s.c, .int .i64 d.r.x0, .int .i64 d.r.y0, .int .i64 d.r.x1, .int .i64 d.r.y1, .slice d.A d.n d.c, .int .i64 m.r.x0, .int .i64 m.r.y0, .int .i64 m.r.x1, .int .i64 m.r.y1, .slice m.A m.n m.c] := (by repeat (first | (with_reducible assumption) | ((with_reducible refine Bk.new _ _ _ ?_); first | (with_reducible rfl) | (simp; done)) | (with_reducible refine Bk.alloc ?_ _) | (with_reducible refine Bk.drew ?_) | (with_reducible refine Bk.drewN ?_ _) | ((with_reducible refine Bk.far ?_ ?_ _); rotate_left; focus (first | (simp; done) | (simp; omega))) | (with_reducible refine Bk.below ?_ (by with_reducible assumption)))); obtain ⟨kcX2, kfX2, kaX2, kgX2, klX2⟩ := kX2.rules
            obtain ⟨A2, c2, hv2, hr2, hle2, hmx2⟩ := ho2.form2 encP_len
            rw [Hn0.out] at hv2 hle2
            subst hv2
            have HR2 := Lib.hid hr2
            have HC2 := Lib.hid (And.intro hle2 hmx2)
            clear hr2 hle2 hmx2
            clear ho2
            
            have kA2 : Bk _ _ _ _ := Bk.new w2 28 #[.int .i64 R0.x0, .int .i64 R0.y0, .int .i64 R0.x1, .int .i64 R0.y1, .slice A2 n0 c2] rfl
            go_wp2_with fail
            refine (HLm.out _ (HS.out.below (by repeat (first | (with_reducible exact Below.refl _ _) | (with_reducible refine balloc ?_ _) | (with_reducible refine Below.drew ?_) | (with_reducible refine bdrewN ?_ _) | ((with_reducible refine bset ?_ ?_ _); rotate_left; focus (first | (with_reducible exact Nat.le_refl _) | (simp; done) | (simp; omega) | omega)) | (with_reducible refine bstep (by with_reducible assumption) ?_)))) (HD.out.below (by repeat (first | (with_reducible exact Below.refl _ _) | (with_reducible refine balloc ?_ _) | (with_reducible refine Below.drew ?_) | (with_reducible refine bdrewN ?_ _) | ((with_reducible refine bset ?_ ?_ _); rotate_left; focus (first | (with_reducible exact Nat.le_refl _) | (simp; done) | (simp; omega) | omega)) | (with_reducible refine bstep (by with_reducible assumption) ?_)))) (HM.out.below (by repeat (first | (with_reducible exact Below.refl _ _) | (with_reducible refine balloc ?_ _) | (with_reducible refine Below.drew ?_) | (with_reducible refine bdrewN ?_ _) | ((with_reducible refine bset ?_ ?_ _); rotate_left; focus (first | (with_reducible exact Nat.le_refl _) | (simp; done) | (simp; omega) | omega)) | (with_reducible refine bstep (by with_reducible assumption) ?_))))).mono ?_
            rintro e w3 ⟨v3, rfl, ho3, hb3⟩
            clear kcX2 kfX2 kaX2 kgX2
            have kX3 : Bk w3 (w.heap.size) 43 #[.int .i64 s.r.x0, .int .i64 s.r.y0, .int .i64 s.r.x1, .int .i64 s.r.y1, .slice s.A s.n s.c, .int .i64 d.r.x0, .int .i64 d.r.y0, .int .i64 d.r.x1, .int .i64 d.r.y1, .slice d.A d.n d.c, .int .i64 m.r.x0, .int .i64 m.r.y0, .int .i64 m.r.x1, .int .i64 m.r.y1, .slice m.A m.n m.c] := (by repeat (first | (with_reducible assumption) | ((with_reducible refine Bk.new _ _ _ ?_); first | (with_reducible rfl) | (simp; done)) | (with_reducible refine Bk.alloc ?_ _) | (with_reducible refine Bk.drew ?_) | (with_reducible refine Bk.drewN ?_ _) | ((with_reducible refine Bk.far ?_ ?_ _); rotate_left; focus (first | (simp; done) | (simp; omega))) | (with_reducible refine Bk.below ?_ (by with_reducible assumption)))); obtain ⟨kcX3, kfX3, kaX3, kgX3, klX3⟩ := kX3.rules; have kQ3 : Bk w3 (w.heap.size + 1) 44 #[.int .i64 x, .int .i64 y] := (by repeat (first | (with_reducible assumption) | ((with_reducible refine Bk.new _ _ _ ?_); first | (with_reducible rfl) | (simp; done)) | (with_reducible refine Bk.alloc ?_ _) | (with_reducible refine Bk.drew ?_) | (with_reducible refine Bk.drewN ?_ _) | ((with_reducible refine Bk.far ?_ ?_ _); rotate_left; focus (first | (simp; done) | (simp; omega))) | (with_reducible refine Bk.below ?_ (by with_reducible assumption)))); obtain ⟨kcQ3, kfQ3, kaQ3, kgQ3, klQ3⟩ := kQ3.rules
            obtain ⟨A3, c3, hv3, hr3, hle3, hmx3⟩ := ho3.form2 encP_len
            rw [Hn1.out] at hv3 hle3
            subst hv3
            have HR3 := Lib.hid hr3
            have HC3 := Lib.hid (And.intro hle3 hmx3)
            clear hr3 hle3 hmx3
            clear ho3
            
            have kX4 : Bk (w3.alloc (.cells #[.int .i64 R1.x0, .int .i64 R1.y0, .int .i64 R1.x1, .int .i64 R1.y1, .slice A3 n1 c3] 28)) (w.heap.size) 43 #[.int .i64 s.r.x0, .int .i64 s.r.y0, .int .i64 s.r.x1, .int .i64 s.r.y1, .slice s.A s.n s.c, .int .i64 d.r.x0, .int .i64 d.r.y0, .int .i64 d.r.x1, .int .i64 d.r.y1, .slice d.A d.n d.c, .int .i64 m.r.x0, .int .i64 m.r.y0, .int .i64 m.r.x1, .int .i64 m.r.y1, .slice m.A m.n m.c] := (by repeat (first | (with_reducible assumption) | ((with_reducible refine Bk.new _ _ _ ?_); first | (with_reducible rfl) | (simp; done)) | (with_reducible refine Bk.alloc ?_ _) | (with_reducible refine Bk.drew ?_) | (with_reducible refine Bk.drewN ?_ _) | ((with_reducible refine Bk.far ?_ ?_ _); rotate_left; focus (first | (simp; done) | (simp; omega))) | (with_reducible refine Bk.below ?_ (by with_reducible assumption))))
            have kQ4 : Bk (w3.alloc (.cells #[.int .i64 R1.x0, .int .i64 R1.y0, .int .i64 R1.x1, .int .i64 R1.y1, .slice A3 n1 c3] 28)) (w.heap.size + 1) 44 #[.int .i64 x, .int .i64 y] := (by repeat (first | (with_reducible assumption) | ((with_reducible refine Bk.new _ _ _ ?_); first | (with_reducible rfl) | (simp; done)) | (with_reducible refine Bk.alloc ?_ _) | (with_reducible refine Bk.drew ?_) | (with_reducible refine Bk.drewN ?_ _) | ((with_reducible refine Bk.far ?_ ?_ _); rotate_left; focus (first | (simp; done) | (simp; omega))) | (with_reducible refine Bk.below ?_ (by with_reducible assumption))))
            have kA4 : Bk (w3.alloc (.cells #[.int .i64 R1.x0, .int .i64 R1.y0, .int .i64 R1.x1, .int .i64 R1.y1, .slice A3 n1 c3] 28)) (w2.heap.size) 28 #[.int .i64 R0.x0, .int .i64 R0.y0, .int .i64 R0.x1, .int .i64 R0.y1, .slice A2 n0 c2] := (by repeat (first | (with_reducible assumption) | ((with_reducible refine Bk.new _ _ _ ?_); first | (with_reducible rfl) | (simp; done)) | (with_reducible refine Bk.alloc ?_ _) | (with_reducible refine Bk.drew ?_) | (with_reducible refine Bk.drewN ?_ _) | ((with_reducible refine Bk.far ?_ ?_ _); rotate_left; focus (first | (simp; done) | (simp; omega))) | (with_reducible refine Bk.below ?_ (by with_reducible assumption))))
            have kB4 : Bk (w3.alloc (.cells #[.int .i64 R1.x0, .int .i64 R1.y0, .int .i64 R1.x1, .int .i64 R1.y1, .slice A3 n1 c3] 28)) (w3.heap.size) 28 #[.int .i64 R1.x0, .int .i64 R1.y0, .int .i64 R1.x1, .int .i64 R1.y1, .slice A3 n1 c3] := Bk.new _ _ _ rfl
            have hB4 : Below w.heap.size w (w3.alloc (.cells #[.int .i64 R1.x0, .int .i64 R1.y0, .int .i64 R1.x1, .int .i64 R1.y1, .slice A3 n1 c3] 28)) := (by repeat (first | (with_reducible exact Below.refl _ _) | (with_reducible refine balloc ?_ _) | (with_reducible refine Below.drew ?_) | (with_reducible refine bdrewN ?_ _) | ((with_reducible refine bset ?_ ?_ _); rotate_left; focus (first | (with_reducible exact Nat.le_refl _) | (simp; done) | (simp; omega) | omega)) | (with_reducible refine bstep (by with_reducible assumption) ?_)))
            have hrA : RdL encP 4 (w3.alloc (.cells #[.int .i64 R1.x0, .int .i64 R1.y0, .int .i64 R1.x1, .int .i64 R1.y1, .slice A3 n1 c3] 28)) A2 L0 := HR2.out.below (by repeat (first | (with_reducible exact Below.refl _ _) | (with_reducible refine balloc ?_ _) | (with_reducible refine Below.drew ?_) | (with_reducible refine bdrewN ?_ _) | ((with_reducible refine bset ?_ ?_ _); rotate_left; focus (first | (with_reducible exact Nat.le_refl _) | (simp; done) | (simp; omega) | omega)) | (with_reducible refine bstep (by with_reducible assumption) ?_)))
            have HXA := Lib.hid hrA
            have hrB : RdL encP 4 (w3.alloc (.cells #[.int .i64 R1.x0, .int .i64 R1.y0, .int .i64 R1.x1, .int .i64 R1.y1, .slice A3 n1 c3] 28)) A3 L1 := HR3.out.below (by repeat (first | (with_reducible exact Below.refl _ _) | (with_reducible refine balloc ?_ _) | (with_reducible refine Below.drew ?_) | (with_reducible refine bdrewN ?_ _) | ((with_reducible refine bset ?_ ?_ _); rotate_left; focus (first | (with_reducible exact Nat.le_refl _) | (simp; done) | (simp; omega) | omega)) | (with_reducible refine bstep (by with_reducible assumption) ?_)))
            have HXB := Lib.hid hrB
            clear hrA hrB
            go_wp2_with fail
            clear kcX3 kfX3 kaX3 kgX3 kcQ3 kfQ3 kaQ3 kgQ3
            generalize (w3.alloc (.cells #[.int .i64 R1.x0, .int .i64 R1.y0, .int .i64 R1.x1, .int .i64 R1.y1, .slice A3 n1 c3] 28)) = W0 at kX4 kQ4 kA4 kB4 hB4 HXA HXB ⊢
            refine wp_region_gob 6 [(0, true), (1, true), (2, true), (3, true), (4, true), (5, true)] (by kernel_rfl) (by kernel_rfl) (fun c a d v w h => by cases d <;> exact h) ?_
            repeat (first | (refine wpGo_pure (v := ?_) rfl rfl (fun w' hS => ?_) ?_; rotate_left; (· have kQp : Bk w' (w.heap.size + 1) 44 #[.int .i64 x, .int .i64 y] := (by repeat (first | (with_reducible assumption) | ((with_reducible refine Bk.new _ _ _ ?_); first | (with_reducible rfl) | (simp; done)) | (with_reducible refine Bk.alloc ?_ _) | (with_reducible refine Bk.drew ?_) | (with_reducible refine Bk.drewN ?_ _) | ((with_reducible refine Bk.far ?_ ?_ _); rotate_left; focus (first | (simp; done) | (simp; omega))) | (with_reducible refine Bk.below ?_ (by with_reducible assumption)))); obtain ⟨kcQp, kfQp, kaQp, kgQp, klQp⟩ := kQp.rules; go_simp; exact rfl); (try simp only [Act.put, List.setIfInBounds_toArray, List.set_cons_zero, List.set_cons_succ])) | ((refine wpGo_skip rfl rfl ?_); (try simp only [Act.put, List.setIfInBounds_toArray, List.set_cons_zero, List.set_cons_succ])))
            refine wpGo_nil ?_
            simp only [List.drop_succ_cons, List.drop_zero]
            have kX5 := kX4.drew
            have kQ5 := kQ4.drew
            have kA5 := kA4.drew
            have kB5 := kB4.drew
            have hB5 := hB4.drew
            clear kQ4
            obtain ⟨kcX5, kfX5, kaX5, kgX5, klX5⟩ := kX5.rules
            go_wp2_with fail
            refine (rcontains_q _ _ _ _ _ _ true Hcc _).mono ?_
            rintro e w6 ⟨rfl, hb6⟩
            clear kcX5 kfX5 kaX5 kgX5
            have hB6 : Below w.heap.size w w6 := bstep hb6 hB5
            have kX6 := kX5.below hb6
            have kA6 := kA5.below hb6
            have kB6 := kB5.below hb6
            have hrA : RdL encP 4 w6 A2 L0 := HXA.out.below (bstep hb6 (Below.refl _ _).drew)
            have HYA := Lib.hid hrA
            have hrB : RdL encP 4 w6 A3 L1 := HXB.out.below (bstep hb6 (Below.refl _ _).drew)
            have HYB := Lib.hid hrB
            clear hrA hrB HXA HXB hB5 hb6 kX5 kA5 kB5 kX4 kA4 kB4 hB4 kQ5
            go_wp2_with fail
            refine wp_region_mix 17 [0, 1, 2, 3, 5, 6, 7, 8, 10, 11, 12, 13] [4, 9, 14] [15, 16] (fun _ => 25) (fun _ => #[.int .u8 0, .int .u8 0, .int .u8 0, .int .u8 0]) (by kernel_rfl) (by kernel_rfl) (fun c a d v w h => by cases d <;> exact h) (fun c a d v w h => by cases d <;> exact h) (fun j hj => by simp only [List.mem_cons, List.not_mem_nil, or_false] at hj; rcases hj with rfl | rfl <;> exact ⟨_, rfl, rfl, fun a w => by go_simp; rfl⟩) ?_
            simp only [List.map_cons, List.map_nil]
            repeat (refine wpGo_pure (v := ?_) rfl rfl (fun w' hS => ?_) ?_; rotate_left; (· have kXp : Bk w' (w.heap.size) 43 #[.int .i64 s.r.x0, .int .i64 s.r.y0, .int .i64 s.r.x1, .int .i64 s.r.y1, .slice s.A s.n s.c, .int .i64 d.r.x0, .int .i64 d.r.y0, .int .i64 d.r.x1, .int .i64 d.r.y1, .slice d.A d.n d.c, .int .i64 m.r.x0, .int .i64 m.r.y0, .int .i64 m.r.x1, .int .i64 m.r.y1, .slice m.A m.n m.c] := (by repeat (first | (with_reducible assumption) | ((with_reducible refine Bk.new _ _ _ ?_); first | (with_reducible rfl) | (simp; done)) | (with_reducible refine Bk.alloc ?_ _) | (with_reducible refine Bk.drew ?_) | (with_reducible refine Bk.drewN ?_ _) | ((with_reducible refine Bk.far ?_ ?_ _); rotate_left; focus (first | (simp; done) | (simp; omega))) | (with_reducible refine Bk.below ?_ (by with_reducible assumption)))); obtain ⟨kcXp, kfXp, kaXp, kgXp, klXp⟩ := kXp.rules; go_simp; exact rfl); (try simp only [Act.put, List.setIfInBounds_toArray, List.set_cons_zero, List.set_cons_succ]))
            refine wpGo_nil ?_
            refine wpMix_call rfl (fun w7a hb7a K hK => ?_)
            go_simp
            refine (At_any s.r s.A s.n s.c s.l x y _ (HS.out.rd.below (bstep (by assumption) hB6.drew)) HS.out.ln (by omega) ps Hps).mono ?_
            rintro e w7 ⟨rfl, hb7⟩
            refine hK.out _ _ hb7 (fun _ => ?_)
            clear hK K
            refine wpMix_call rfl (fun w8a hb8a K hK => ?_)
            go_simp
            refine (At_any d.r d.A d.n d.c d.l x y _ (HD.out.rd.below (bstep (by assumption) (bstep hb7 (bstep hb7a hB6.drew)))) HD.out.ln (by omega) pd Hpd).mono ?_
            rintro e w8 ⟨rfl, hb8⟩
            refine hK.out _ _ hb8 (fun _ => ?_)
            clear hK K
            refine wpMix_call rfl (fun w9a hb9a K hK => ?_)
            go_simp
            refine (rmAt_any m.r m.A m.n m.c m.l x y _ (HM.out.rd.below (bstep (by assumption) (bstep hb8 (bstep hb8a (bstep hb7 (bstep hb7a hB6.drew)))))) HM.out.ln (by omega) pm Hpm).mono ?_
            rintro e w9 ⟨rfl, hb9⟩
            refine hK.out _ _ hb9 (fun _ => ?_)
            clear hK K
            refine wpMix_end (fun β w10 hb10 hbk hne => ?_)
            obtain ⟨k15, l15⟩ := hbk 15 (by simp)
            obtain ⟨k16, l16⟩ := hbk 16 (by simp)
            have ne1516 := hne 15 (by simp) 16 (by simp) (by decide)
            clear hbk hne
            simp only [putAll, dstOf, ptrTo, List.foldl_cons, List.foldl_nil, List.getElem?_toArray, List.getElem?_cons_succ, List.getElem?_cons_zero, Option.bind_some, Act.put, List.setIfInBounds_toArray, List.set_cons_zero, List.set_cons_succ, List.drop_succ_cons, List.drop_zero]
            generalize β 15 = b15 at *
            generalize β 16 = b16 at *
            clear β
            have h610 : Below w6.heap.size w6 w10 := bstep hb10 (bstep hb9 (bstep hb9a (bstep hb8 (bstep hb8a (bstep hb7 (bstep hb7a (Below.refl _ _).drew))))))
            have l15' : w6.heap.size ≤ b15 := l15
            have l16' : w6.heap.size ≤ b16 := l16
            have sX := kX6.lt
            have sA := kA6.lt
            have sB := kB6.lt
            have hB10 : Below w.heap.size w w10 := bstep h610 hB6
            have sw := hB6.size
            have jA := kA6.below h610
            have jB := kB6.below h610
            obtain ⟨kc15, kf15, ka15, kg15, kl15⟩ := k15.rules
            obtain ⟨kc16, kf16, ka16, kg16, kl16⟩ := k16.rules
            clear hb7 hb7a hb8 hb8a hb9 hb9a hb10 l15 l16
            have kP : Bk _ b15 25 #[.int .u8 ps.r, .int .u8 ps.g, .int .u8 ps.b, .int .u8 ps.a] := ((((((((k15.set 0 (.int .u8 ps.r)).set 1 (.int .u8 ps.g)).set 2 (.int .u8 ps.b)).set 3 (.int .u8 ps.a)).far (p := ⟨b16, 0, none⟩) ne1516 (.int .u8 pd.r)).far (p := ⟨b16, 1, none⟩) ne1516 (.int .u8 pd.g)).far (p := ⟨b16, 2, none⟩) ne1516 (.int .u8 pd.b)).far (p := ⟨b16, 3, none⟩) ne1516 (.int .u8 pd.a))
            have kD : Bk _ b16 25 #[.int .u8 pd.r, .int .u8 pd.g, .int .u8 pd.b, .int .u8 pd.a] := ((((((((k16.far (p := ⟨b15, 0, none⟩) ne1516.symm (.int .u8 ps.r)).far (p := ⟨b15, 1, none⟩) ne1516.symm (.int .u8 ps.g)).far (p := ⟨b15, 2, none⟩) ne1516.symm (.int .u8 ps.b)).far (p := ⟨b15, 3, none⟩) ne1516.symm (.int .u8 ps.a)).set 0 (.int .u8 pd.r)).set 1 (.int .u8 pd.g)).set 2 (.int .u8 pd.b)).set 3 (.int .u8 pd.a))
            have iA := ((((((((jA.far (p := ⟨b15, 0, none⟩) (show w2.heap.size ≠ b15 by omega) (.int .u8 ps.r)).far (p := ⟨b15, 1, none⟩) (show w2.heap.size ≠ b15 by omega) (.int .u8 ps.g)).far (p := ⟨b15, 2, none⟩) (show w2.heap.size ≠ b15 by omega) (.int .u8 ps.b)).far (p := ⟨b15, 3, none⟩) (show w2.heap.size ≠ b15 by omega) (.int .u8 ps.a)).far (p := ⟨b16, 0, none⟩) (show w2.heap.size ≠ b16 by omega) (.int .u8 pd.r)).far (p := ⟨b16, 1, none⟩) (show w2.heap.size ≠ b16 by omega) (.int .u8 pd.g)).far (p := ⟨b16, 2, none⟩) (show w2.heap.size ≠ b16 by omega) (.int .u8 pd.b)).far (p := ⟨b16, 3, none⟩) (show w2.heap.size ≠ b16 by omega) (.int .u8 pd.a))
            have iB := ((((((((jB.far (p := ⟨b15, 0, none⟩) (show w3.heap.size ≠ b15 by omega) (.int .u8 ps.r)).far (p := ⟨b15, 1, none⟩) (show w3.heap.size ≠ b15 by omega) (.int .u8 ps.g)).far (p := ⟨b15, 2, none⟩) (show w3.heap.size ≠ b15 by omega) (.int .u8 ps.b)).far (p := ⟨b15, 3, none⟩) (show w3.heap.size ≠ b15 by omega) (.int .u8 ps.a)).far (p := ⟨b16, 0, none⟩) (show w3.heap.size ≠ b16 by omega) (.int .u8 pd.r)).far (p := ⟨b16, 1, none⟩) (show w3.heap.size ≠ b16 by omega) (.int .u8 pd.g)).far (p := ⟨b16, 2, none⟩) (show w3.heap.size ≠ b16 by omega) (.int .u8 pd.b)).far (p := ⟨b16, 3, none⟩) (show w3.heap.size ≠ b16 by omega) (.int .u8 pd.a))
            have iW := (bset (bset (bset (bset (bset (bset (bset (bset hB10 (p := ⟨b15, 0, none⟩) (by show _ ≤ b15; omega) (.int .u8 ps.r)) (p := ⟨b15, 1, none⟩) (by show _ ≤ b15; omega) (.int .u8 ps.g)) (p := ⟨b15, 2, none⟩) (by show _ ≤ b15; omega) (.int .u8 ps.b)) (p := ⟨b15, 3, none⟩) (by show _ ≤ b15; omega) (.int .u8 ps.a)) (p := ⟨b16, 0, none⟩) (by show _ ≤ b16; omega) (.int .u8 pd.r)) (p := ⟨b16, 1, none⟩) (by show _ ≤ b16; omega) (.int .u8 pd.g)) (p := ⟨b16, 2, none⟩) (by show _ ≤ b16; omega) (.int .u8 pd.b)) (p := ⟨b16, 3, none⟩) (by show _ ≤ b16; omega) (.int .u8 pd.a))
            have iW6 := (bset (bset (bset (bset (bset (bset (bset (bset h610 (p := ⟨b15, 0, none⟩) (by show _ ≤ b15; omega) (.int .u8 ps.r)) (p := ⟨b15, 1, none⟩) (by show _ ≤ b15; omega) (.int .u8 ps.g)) (p := ⟨b15, 2, none⟩) (by show _ ≤ b15; omega) (.int .u8 ps.b)) (p := ⟨b15, 3, none⟩) (by show _ ≤ b15; omega) (.int .u8 ps.a)) (p := ⟨b16, 0, none⟩) (by show _ ≤ b16; omega) (.int .u8 pd.r)) (p := ⟨b16, 1, none⟩) (by show _ ≤ b16; omega) (.int .u8 pd.g)) (p := ⟨b16, 2, none⟩) (by show _ ≤ b16; omega) (.int .u8 pd.b)) (p := ⟨b16, 3, none⟩) (by show _ ≤ b16; omega) (.int .u8 pd.a))
            go_wp2_with fail
            clear kc15 kf15 ka15 kg15 kc16 kf16 ka16 kg16
            generalize ((((((((w10.setCell ⟨b15, 0, none⟩ (.int .u8 ps.r)).setCell ⟨b15, 1, none⟩ (.int .u8 ps.g)).setCell ⟨b15, 2, none⟩ (.int .u8 ps.b)).setCell ⟨b15, 3, none⟩ (.int .u8 ps.a)).setCell ⟨b16, 0, none⟩ (.int .u8 pd.r)).setCell ⟨b16, 1, none⟩ (.int .u8 pd.g)).setCell ⟨b16, 2, none⟩ (.int .u8 pd.b)).setCell ⟨b16, 3, none⟩ (.int .u8 pd.a)) = W1 at kP kD iA iB iW iW6 ⊢
            
            clear jA jB kX6 kA6 kB6 k15 k16 hB10 h610
            refine wp_region_gob 25 [(0, true), (1, true), (2, true), (4, true), (5, true), (6, true), (7, true), (3, false), (8, false), (9, true), (10, true), (11, true), (12, true), (13, true), (15, true), (16, true), (17, true), (14, false), (18, false), (19, true), (20, true), (21, true), (22, false), (23, true), (24, true)] (by kernel_rfl) (by kernel_rfl) (fun c a d v w h => by cases d <;> exact h) ?_
            repeat (first | (refine wpGo_pure (v := ?_) rfl rfl (fun w' hS => ?_) ?_; rotate_left; (· have kPp : Bk w' (b15) 25 #[.int .u8 ps.r, .int .u8 ps.g, .int .u8 ps.b, .int .u8 ps.a] := (by repeat (first | (with_reducible assumption) | ((with_reducible refine Bk.new _ _ _ ?_); first | (with_reducible rfl) | (simp; done)) | (with_reducible refine Bk.alloc ?_ _) | (with_reducible refine Bk.drew ?_) | (with_reducible refine Bk.drewN ?_ _) | ((with_reducible refine Bk.far ?_ ?_ _); rotate_left; focus (first | (simp; done) | (simp; omega))) | (with_reducible refine Bk.below ?_ (by with_reducible assumption)))); obtain ⟨kcPp, kfPp, kaPp, kgPp, klPp⟩ := kPp.rules; have kDp : Bk w' (b16) 25 #[.int .u8 pd.r, .int .u8 pd.g, .int .u8 pd.b, .int .u8 pd.a] := (by repeat (first | (with_reducible assumption) | ((with_reducible refine Bk.new _ _ _ ?_); first | (with_reducible rfl) | (simp; done)) | (with_reducible refine Bk.alloc ?_ _) | (with_reducible refine Bk.drew ?_) | (with_reducible refine Bk.drewN ?_ _) | ((with_reducible refine Bk.far ?_ ?_ _); rotate_left; focus (first | (simp; done) | (simp; omega))) | (with_reducible refine Bk.below ?_ (by with_reducible assumption)))); obtain ⟨kcDp, kfDp, kaDp, kgDp, klDp⟩ := kDp.rules; have kAp : Bk w' (w2.heap.size) 28 #[.int .i64 R0.x0, .int .i64 R0.y0, .int .i64 R0.x1, .int .i64 R0.y1, .slice A2 n0 c2] := (by repeat (first | (with_reducible assumption) | ((with_reducible refine Bk.new _ _ _ ?_); first | (with_reducible rfl) | (simp; done)) | (with_reducible refine Bk.alloc ?_ _) | (with_reducible refine Bk.drew ?_) | (with_reducible refine Bk.drewN ?_ _) | ((with_reducible refine Bk.far ?_ ?_ _); rotate_left; focus (first | (simp; done) | (simp; omega))) | (with_reducible refine Bk.below ?_ (by with_reducible assumption)))); obtain ⟨kcAp, kfAp, kaAp, kgAp, klAp⟩ := kAp.rules; have kBp : Bk w' (w3.heap.size) 28 #[.int .i64 R1.x0, .int .i64 R1.y0, .int .i64 R1.x1, .int .i64 R1.y1, .slice A3 n1 c3] := (by repeat (first | (with_reducible assumption) | ((with_reducible refine Bk.new _ _ _ ?_); first | (with_reducible rfl) | (simp; done)) | (with_reducible refine Bk.alloc ?_ _) | (with_reducible refine Bk.drew ?_) | (with_reducible refine Bk.drewN ?_ _) | ((with_reducible refine Bk.far ?_ ?_ _); rotate_left; focus (first | (simp; done) | (simp; omega))) | (with_reducible refine Bk.below ?_ (by with_reducible assumption)))); obtain ⟨kcBp, kfBp, kaBp, kgBp, klBp⟩ := kBp.rules; go_simp; exact rfl); (try simp only [Act.put, List.setIfInBounds_toArray, List.set_cons_zero, List.set_cons_succ])) | ((refine wpGo_skip rfl rfl ?_); (try simp only [Act.put, List.setIfInBounds_toArray, List.set_cons_zero, List.set_cons_succ])))
            refine wpGo_eff rfl (fun K hK => ?_)
            go_simp
            refine (At_any R0 A2 n0 c2 L0 x y _ (HYA.out.below (bstep (by repeat (first | (with_reducible exact Below.refl _ _) | (with_reducible refine balloc ?_ _) | (with_reducible refine Below.drew ?_) | (with_reducible refine bdrewN ?_ _) | ((with_reducible refine bset ?_ ?_ _); rotate_left; focus (first | (with_reducible exact Nat.le_refl _) | (simp; done) | (simp; omega) | omega)) | (with_reducible refine bstep (by with_reducible assumption) ?_))) iW6)) Hn0.out (by omega) q0 Hq0).mono ?_
            rintro e w21 ⟨rfl, hb21⟩
            refine hK.out _ _ (by repeat (first | (with_reducible exact Below.refl _ _) | (with_reducible refine balloc ?_ _) | (with_reducible refine Below.drew ?_) | (with_reducible refine bdrewN ?_ _) | ((with_reducible refine bset ?_ ?_ _); rotate_left; focus (first | (with_reducible exact Nat.le_refl _) | (simp; done) | (simp; omega) | omega)) | (with_reducible refine bstep (by with_reducible assumption) ?_))) (fun hS21 => ?_)
            clear hK K
            refine wpGo_eff rfl (fun K hK => ?_)
            go_simp
            refine (bwc_q mode ps pd pm _ hbs hbd hbm.1 hbm.2 q0 Hw0).mono ?_
            rintro e w22 ⟨rfl, hb22⟩
            refine hK.out _ _ (by repeat (first | (with_reducible exact Below.refl _ _) | (with_reducible refine balloc ?_ _) | (with_reducible refine Below.drew ?_) | (with_reducible refine bdrewN ?_ _) | ((with_reducible refine bset ?_ ?_ _); rotate_left; focus (first | (with_reducible exact Nat.le_refl _) | (simp; done) | (simp; omega) | omega)) | (with_reducible refine bstep (by with_reducible assumption) ?_))) (fun hS22 => ?_)
            clear hK K
            repeat (first | (refine wpGo_pure (v := ?_) rfl rfl (fun w' hS => ?_) ?_; rotate_left; (· have kPp : Bk w' (b15) 25 #[.int .u8 ps.r, .int .u8 ps.g, .int .u8 ps.b, .int .u8 ps.a] := (by repeat (first | (with_reducible assumption) | ((with_reducible refine Bk.new _ _ _ ?_); first | (with_reducible rfl) | (simp; done)) | (with_reducible refine Bk.alloc ?_ _) | (with_reducible refine Bk.drew ?_) | (with_reducible refine Bk.drewN ?_ _) | ((with_reducible refine Bk.far ?_ ?_ _); rotate_left; focus (first | (simp; done) | (simp; omega))) | (with_reducible refine Bk.below ?_ (by with_reducible assumption)))); obtain ⟨kcPp, kfPp, kaPp, kgPp, klPp⟩ := kPp.rules; have kDp : Bk w' (b16) 25 #[.int .u8 pd.r, .int .u8 pd.g, .int .u8 pd.b, .int .u8 pd.a] := (by repeat (first | (with_reducible assumption) | ((with_reducible refine Bk.new _ _ _ ?_); first | (with_reducible rfl) | (simp; done)) | (with_reducible refine Bk.alloc ?_ _) | (with_reducible refine Bk.drew ?_) | (with_reducible refine Bk.drewN ?_ _) | ((with_reducible refine Bk.far ?_ ?_ _); rotate_left; focus (first | (simp; done) | (simp; omega))) | (with_reducible refine Bk.below ?_ (by with_reducible assumption)))); obtain ⟨kcDp, kfDp, kaDp, kgDp, klDp⟩ := kDp.rules; have kAp : Bk w' (w2.heap.size) 28 #[.int .i64 R0.x0, .int .i64 R0.y0, .int .i64 R0.x1, .int .i64 R0.y1, .slice A2 n0 c2] := (by repeat (first | (with_reducible assumption) | ((with_reducible refine Bk.new _ _ _ ?_); first | (with_reducible rfl) | (simp; done)) | (with_reducible refine Bk.alloc ?_ _) | (with_reducible refine Bk.drew ?_) | (with_reducible refine Bk.drewN ?_ _) | ((with_reducible refine Bk.far ?_ ?_ _); rotate_left; focus (first | (simp; done) | (simp; omega))) | (with_reducible refine Bk.below ?_ (by with_reducible assumption)))); obtain ⟨kcAp, kfAp, kaAp, kgAp, klAp⟩ := kAp.rules; have kBp : Bk w' (w3.heap.size) 28 #[.int .i64 R1.x0, .int .i64 R1.y0, .int .i64 R1.x1, .int .i64 R1.y1, .slice A3 n1 c3] := (by repeat (first | (with_reducible assumption) | ((with_reducible refine Bk.new _ _ _ ?_); first | (with_reducible rfl) | (simp; done)) | (with_reducible refine Bk.alloc ?_ _) | (with_reducible refine Bk.drew ?_) | (with_reducible refine Bk.drewN ?_ _) | ((with_reducible refine Bk.far ?_ ?_ _); rotate_left; focus (first | (simp; done) | (simp; omega))) | (with_reducible refine Bk.below ?_ (by with_reducible assumption)))); obtain ⟨kcBp, kfBp, kaBp, kgBp, klBp⟩ := kBp.rules; go_simp; exact rfl); (try simp only [Act.put, List.setIfInBounds_toArray, List.set_cons_zero, List.set_cons_succ])) | ((refine wpGo_skip rfl rfl ?_); (try simp only [Act.put, List.setIfInBounds_toArray, List.set_cons_zero, List.set_cons_succ])))
            refine wpGo_eff rfl (fun K hK => ?_)
            go_simp
            refine (At_any R1 A3 n1 c3 L1 x y _ (HYB.out.below (bstep (by repeat (first | (with_reducible exact Below.refl _ _) | (with_reducible refine balloc ?_ _) | (with_reducible refine Below.drew ?_) | (with_reducible refine bdrewN ?_ _) | ((with_reducible refine bset ?_ ?_ _); rotate_left; focus (first | (with_reducible exact Nat.le_refl _) | (simp; done) | (simp; omega) | omega)) | (with_reducible refine bstep (by with_reducible assumption) ?_))) iW6)) Hn1.out (by omega) q1 Hq1).mono ?_
            rintro e w23 ⟨rfl, hb23⟩
            refine hK.out _ _ (by repeat (first | (with_reducible exact Below.refl _ _) | (with_reducible refine balloc ?_ _) | (with_reducible refine Below.drew ?_) | (with_reducible refine bdrewN ?_ _) | ((with_reducible refine bset ?_ ?_ _); rotate_left; focus (first | (with_reducible exact Nat.le_refl _) | (simp; done) | (simp; omega) | omega)) | (with_reducible refine bstep (by with_reducible assumption) ?_))) (fun hS23 => ?_)
            clear hK K
            refine wpGo_eff rfl (fun K hK => ?_)
            go_simp
            refine (rlerp_q pd ps pm q1 Hw1 _ hbd hbs hbm.1 hbm.2).mono ?_
            rintro e w24 ⟨rfl, hb24⟩
            refine hK.out _ _ (by repeat (first | (with_reducible exact Below.refl _ _) | (with_reducible refine balloc ?_ _) | (with_reducible refine Below.drew ?_) | (with_reducible refine bdrewN ?_ _) | ((with_reducible refine bset ?_ ?_ _); rotate_left; focus (first | (with_reducible exact Nat.le_refl _) | (simp; done) | (simp; omega) | omega)) | (with_reducible refine bstep (by with_reducible assumption) ?_))) (fun hS24 => ?_)
            clear hK K
            repeat (first | (refine wpGo_pure (v := ?_) rfl rfl (fun w' hS => ?_) ?_; rotate_left; (· have kPp : Bk w' (b15) 25 #[.int .u8 ps.r, .int .u8 ps.g, .int .u8 ps.b, .int .u8 ps.a] := (by repeat (first | (with_reducible assumption) | ((with_reducible refine Bk.new _ _ _ ?_); first | (with_reducible rfl) | (simp; done)) | (with_reducible refine Bk.alloc ?_ _) | (with_reducible refine Bk.drew ?_) | (with_reducible refine Bk.drewN ?_ _) | ((with_reducible refine Bk.far ?_ ?_ _); rotate_left; focus (first | (simp; done) | (simp; omega))) | (with_reducible refine Bk.below ?_ (by with_reducible assumption)))); obtain ⟨kcPp, kfPp, kaPp, kgPp, klPp⟩ := kPp.rules; have kDp : Bk w' (b16) 25 #[.int .u8 pd.r, .int .u8 pd.g, .int .u8 pd.b, .int .u8 pd.a] := (by repeat (first | (with_reducible assumption) | ((with_reducible refine Bk.new _ _ _ ?_); first | (with_reducible rfl) | (simp; done)) | (with_reducible refine Bk.alloc ?_ _) | (with_reducible refine Bk.drew ?_) | (with_reducible refine Bk.drewN ?_ _) | ((with_reducible refine Bk.far ?_ ?_ _); rotate_left; focus (first | (simp; done) | (simp; omega))) | (with_reducible refine Bk.below ?_ (by with_reducible assumption)))); obtain ⟨kcDp, kfDp, kaDp, kgDp, klDp⟩ := kDp.rules; have kAp : Bk w' (w2.heap.size) 28 #[.int .i64 R0.x0, .int .i64 R0.y0, .int .i64 R0.x1, .int .i64 R0.y1, .slice A2 n0 c2] := (by repeat (first | (with_reducible assumption) | ((with_reducible refine Bk.new _ _ _ ?_); first | (with_reducible rfl) | (simp; done)) | (with_reducible refine Bk.alloc ?_ _) | (with_reducible refine Bk.drew ?_) | (with_reducible refine Bk.drewN ?_ _) | ((with_reducible refine Bk.far ?_ ?_ _); rotate_left; focus (first | (simp; done) | (simp; omega))) | (with_reducible refine Bk.below ?_ (by with_reducible assumption)))); obtain ⟨kcAp, kfAp, kaAp, kgAp, klAp⟩ := kAp.rules; have kBp : Bk w' (w3.heap.size) 28 #[.int .i64 R1.x0, .int .i64 R1.y0, .int .i64 R1.x1, .int .i64 R1.y1, .slice A3 n1 c3] := (by repeat (first | (with_reducible assumption) | ((with_reducible refine Bk.new _ _ _ ?_); first | (with_reducible rfl) | (simp; done)) | (with_reducible refine Bk.alloc ?_ _) | (with_reducible refine Bk.drew ?_) | (with_reducible refine Bk.drewN ?_ _) | ((with_reducible refine Bk.far ?_ ?_ _); rotate_left; focus (first | (simp; done) | (simp; omega))) | (with_reducible refine Bk.below ?_ (by with_reducible assumption)))); obtain ⟨kcBp, kfBp, kaBp, kgBp, klBp⟩ := kBp.rules; go_simp; exact rfl); (try simp only [Act.put, List.setIfInBounds_toArray, List.set_cons_zero, List.set_cons_succ])) | ((refine wpGo_skip rfl rfl ?_); (try simp only [Act.put, List.setIfInBounds_toArray, List.set_cons_zero, List.set_cons_succ])))
            refine wpGo_eff rfl (fun K hK => ?_)
            go_simp
            refine (ex_any _).mono ?_
            rintro e w25 ⟨rfl, hb25⟩
            refine hK.out _ _ (by repeat (first | (with_reducible exact Below.refl _ _) | (with_reducible refine balloc ?_ _) | (with_reducible refine Below.drew ?_) | (with_reducible refine bdrewN ?_ _) | ((with_reducible refine bset ?_ ?_ _); rotate_left; focus (first | (with_reducible exact Nat.le_refl _) | (simp; done) | (simp; omega) | omega)) | (with_reducible refine bstep (by with_reducible assumption) ?_))) (fun hS25 => ?_)
            clear hK K
            repeat (first | (refine wpGo_pure (v := ?_) rfl rfl (fun w' hS => ?_) ?_; rotate_left; (· have kPp : Bk w' (b15) 25 #[.int .u8 ps.r, .int .u8 ps.g, .int .u8 ps.b, .int .u8 ps.a] := (by repeat (first | (with_reducible assumption) | ((with_reducible refine Bk.new _ _ _ ?_); first | (with_reducible rfl) | (simp; done)) | (with_reducible refine Bk.alloc ?_ _) | (with_reducible refine Bk.drew ?_) | (with_reducible refine Bk.drewN ?_ _) | ((with_reducible refine Bk.far ?_ ?_ _); rotate_left; focus (first | (simp; done) | (simp; omega))) | (with_reducible refine Bk.below ?_ (by with_reducible assumption)))); obtain ⟨kcPp, kfPp, kaPp, kgPp, klPp⟩ := kPp.rules; have kDp : Bk w' (b16) 25 #[.int .u8 pd.r, .int .u8 pd.g, .int .u8 pd.b, .int .u8 pd.a] := (by repeat (first | (with_reducible assumption) | ((with_reducible refine Bk.new _ _ _ ?_); first | (with_reducible rfl) | (simp; done)) | (with_reducible refine Bk.alloc ?_ _) | (with_reducible refine Bk.drew ?_) | (with_reducible refine Bk.drewN ?_ _) | ((with_reducible refine Bk.far ?_ ?_ _); rotate_left; focus (first | (simp; done) | (simp; omega))) | (with_reducible refine Bk.below ?_ (by with_reducible assumption)))); obtain ⟨kcDp, kfDp, kaDp, kgDp, klDp⟩ := kDp.rules; have kAp : Bk w' (w2.heap.size) 28 #[.int .i64 R0.x0, .int .i64 R0.y0, .int .i64 R0.x1, .int .i64 R0.y1, .slice A2 n0 c2] := (by repeat (first | (with_reducible assumption) | ((with_reducible refine Bk.new _ _ _ ?_); first | (with_reducible rfl) | (simp; done)) | (with_reducible refine Bk.alloc ?_ _) | (with_reducible refine Bk.drew ?_) | (with_reducible refine Bk.drewN ?_ _) | ((with_reducible refine Bk.far ?_ ?_ _); rotate_left; focus (first | (simp; done) | (simp; omega))) | (with_reducible refine Bk.below ?_ (by with_reducible assumption)))); obtain ⟨kcAp, kfAp, kaAp, kgAp, klAp⟩ := kAp.rules; have kBp : Bk w' (w3.heap.size) 28 #[.int .i64 R1.x0, .int .i64 R1.y0, .int .i64 R1.x1, .int .i64 R1.y1, .slice A3 n1 c3] := (by repeat (first | (with_reducible assumption) | ((with_reducible refine Bk.new _ _ _ ?_); first | (with_reducible rfl) | (simp; done)) | (with_reducible refine Bk.alloc ?_ _) | (with_reducible refine Bk.drew ?_) | (with_reducible refine Bk.drewN ?_ _) | ((with_reducible refine Bk.far ?_ ?_ _); rotate_left; focus (first | (simp; done) | (simp; omega))) | (with_reducible refine Bk.below ?_ (by with_reducible assumption)))); obtain ⟨kcBp, kfBp, kaBp, kgBp, klBp⟩ := kBp.rules; go_simp; exact rfl); (try simp only [Act.put, List.setIfInBounds_toArray, List.set_cons_zero, List.set_cons_succ])) | ((refine wpGo_skip rfl rfl ?_); (try simp only [Act.put, List.setIfInBounds_toArray, List.set_cons_zero, List.set_cons_succ])))
            refine wpGo_nil ?_
            simp only [List.drop_succ_cons, List.drop_zero]
            go_wp2
            go_ret
            exact ⟨rfl, bstep (show Below W1.heap.size W1 _ from (by repeat (first | (with_reducible exact Below.refl _ _) | (with_reducible refine balloc ?_ _) | (with_reducible refine Below.drew ?_) | (with_reducible refine bdrewN ?_ _) | ((with_reducible refine bset ?_ ?_ _); rotate_left; focus (first | (with_reducible exact Nat.le_refl _) | (simp; done) | (simp; omega) | omega)) | (with_reducible refine bstep (by with_reducible assumption) ?_)))) iW⟩

set_option maxRecDepth 100000 in
theorem lifted_BitmapPixelwise (os : Os) (started : os.Started) (H : Type) (enc : TypeId × Value → H) :
    ReturnsInHanded {} Try.checked os 5 .any (Rows.bitmapPixelwiseSpec.pre6 enc Try.prog Try.f5 Rows.bitmapPixelwiseRow.domain false) (Rows.bitmapPixelwiseSpec.post enc Try.prog Try.f5 false true false false) := by
  refine returnsInHanded_of_change (C := Try.checked) Try.own started (by kernel_rfl) Try.func5
    (ChangeSpec.witness6 (enc := enc) (C := Try.checked) false ⟨#[], #[.agg #[.int .i64 0, .int .i64 0, .int .i64 0, .int .i64 0, .slice none 0 0, .int .i64 0, .int .i64 0, .int .i64 0, .int .i64 0, .slice none 0 0, .int .i64 0, .int .i64 0, .int .i64 0, .int .i64 0, .slice none 0 0], .int .i64 0, .agg #[.int .i64 0, .int .i64 0]], []⟩ 8 (by kernel_rfl) (by kernel_rfl) (by kernel_rfl) (by kernel_rfl)) ?_
  intro W base args ds gs before hval0 hW hcnd _
  have hval : ∀ (j : Nat) t v, Try.f5.params[j]? = some t → args[j]? = some v → Value.okWide Try.prog W .any base t v := hval0
  have hW' := hW
  obtain ⟨p, q, hA0, hV, rfl, hfz, hnd⟩ := hW
  have hA : DataW.TrodAll enc Try.prog W 0 (fun _ => true) true Try.f5.params.toList args.toList ds p := hA0
  rw [Try.params5] at hA hval
  obtain ⟨v0, vs0, d0, ds0, p0, q0, hargs, rfl, rfl, h0, r0⟩ := trodAll_cons hA
  obtain ⟨v1, vs1, d1, ds1, p1, q1, rfl, rfl, rfl, h1, r1⟩ := trodAll_cons r0
  obtain ⟨v2, vs2, d2, ds2, p2, q2, rfl, rfl, rfl, h2, r2⟩ := trodAll_cons r1
  obtain ⟨rfl, rfl, rfl⟩ := trodAll_nil r2
  obtain rfl : args = #[v0, v1, v2] := by cases args; simp_all
  obtain ⟨s0, t0, m0, rfl, hs0, ht0, hm0⟩ := openBoth (hval 0 43 v0 rfl rfl) h0
  obtain ⟨x1, rfl, _, _, g1⟩ := open_int Try.underlying3 (hval 1 3 v1 rfl rfl) h1
  obtain ⟨l2, hl2, rfl, hw2⟩ := open_arr Try.underlying44 Try.underlying3 (by kernel_rfl) (by kernel_rfl) (hval 2 44 v2 rfl rfl) h2
  obtain ⟨x20, x21, rfl⟩ := len2 hl2
  refine (walk_BitmapPixelwise s0 t0 m0 x1 x20 x21 W hs0 ht0 hm0).mono fun e W' ⟨he, hb⟩ => ?_
  subst he
  exact ⟨_, rfl, law_post (tb := 4) Try.laidOut (by kernel_rfl) hW' rfl rfl Try.underlying4 rfl rfl rfl hb⟩

theorem BitmapPixelwise_holds : Rows.BitmapPixelwiseSaid :=
  OpenClaim.holds_of_wide 5 Try.f5 rfl rfl rfl rfl rfl rfl rfl ⟨rfl, rfl, rfl, rfl, rfl⟩ rfl rfl rfl rfl rfl (by kernel_rfl) Try.func5 (by kernel_rfl)
    (of_decide_eq_true (by kernel_rfl)) (by unfold Func.isWrapper; first | (rw [if_pos (by decide +kernel)]; kernel_rfl) | (rw [if_neg (by decide +kernel)]; exact ⟨rfl, rfl⟩))
    (fun os started H enc _ => lifted_BitmapPixelwise os started H enc)
#print axioms BitmapPixelwise_holds
end Go.Proofs.Ytnefnnhnjmmebaa
