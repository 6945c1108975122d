/- BitmapBlend: for every pair of bitmaps with a mask and every mode the law grisaillelaw30.BitmapBlend returns true. No conditions. -/
import Derived.Test.YtnefnnhnjmmebaaGreatRBo
import Derived.Test.YtnefnnhnjmmebaaGreatRLm
import Derived.Test.YtnefnnhnjmmebaaGreatBm8
import Derived.Test.YtnefnnhnjmmebaaGreatEx30
import Derived.Test.YtnefnnhnjmmebaaGreatOpenX
import Derived.Test.YtnefnnhnjmmebaaGreatPlB
import Derived.Test.YtnefnnhnjmmebaaGreatBmClone
import Derived.Test.YtnefnnhnjmmebaaGreatPlC
namespace Go.Proofs.YtnefnnhnjmmebaaGreat
open Go.ChangeShapes Go.WideShapes Go.ChangeAt Go.RowKit
set_option linter.unusedSimpArgs false
set_option linter.unusedVariables false

set_option maxHeartbeats 1600000 in
theorem spair_any (s d : Bm) (m : Mk) (w : World) (v : Bool) (hv : Hid ((decide (s.n ≤ 2000) && decide (d.n ≤ 2000) && decide (m.n ≤ 2000)) = v)) :
    Calls Tryz.prog 4 #[.agg #[.int .i64 s.r.x0, .int .i64 s.r.y0, .int .i64 s.r.x1, .int .i64 s.r.y1, .slice s.A s.n s.c, .int .i64 d.r.x0, .int .i64 d.r.y0, .int .i64 d.r.x1, .int .i64 d.r.y1, .slice d.A d.n d.c, .int .i64 m.r.x0, .int .i64 m.r.y0, .int .i64 m.r.x1, .int .i64 m.r.y1, .slice m.A m.n m.c]] w fun e w' => e = .returned (.bool v) ∧ Below w.heap.size w w' := by
  cases h1 : decide (s.n ≤ 2000) with
  | false =>
    have H1 := Lib.hid h1
    obtain rfl : false = v := by have h := hv.out; rw [h1] at h; exact h
    clear h1 hv
    go_enter Tryz.func4, Tryz.ntmps4
    go_wp2_with fail
    refine (small_any s.r s.A s.n s.c _ false H1).mono ?_
    rintro e w1 ⟨rfl, hb1⟩
    go_wp2
    go_ret
    exact ⟨rfl, (by repeat (first | (with_reducible exact Below.refl _ _) | (with_reducible refine balloc ?_ _) | (with_reducible refine Below.drew ?_) | (with_reducible refine bdrewN ?_ _) | ((with_reducible refine bset ?_ ?_ _); rotate_left; focus (first | (with_reducible exact Nat.le_refl _) | (simp; done) | (simp; omega) | omega)) | (with_reducible refine bstep (by with_reducible assumption) ?_)))⟩
  | true =>
    have H1 := Lib.hid h1
    cases h2 : decide (d.n ≤ 2000) with
    | false =>
      have H2 := Lib.hid h2
      obtain rfl : false = v := by have h := hv.out; rw [h1, h2] at h; exact h
      clear h1 h2 hv
      go_enter Tryz.func4, Tryz.ntmps4
      go_wp2_with fail
      refine (small_any s.r s.A s.n s.c _ true H1).mono ?_
      rintro e w1 ⟨rfl, hb1⟩
      have kX1 : Bk w1 (w.heap.size) 31 #[.int .i64 s.r.x0, .int .i64 s.r.y0, .int .i64 s.r.x1, .int .i64 s.r.y1, .slice s.A s.n s.c, .int .i64 d.r.x0, .int .i64 d.r.y0, .int .i64 d.r.x1, .int .i64 d.r.y1, .slice d.A d.n d.c, .int .i64 m.r.x0, .int .i64 m.r.y0, .int .i64 m.r.x1, .int .i64 m.r.y1, .slice m.A m.n m.c] := (by repeat (first | (with_reducible assumption) | ((with_reducible refine Bk.new _ _ _ ?_); first | (with_reducible rfl) | (simp; done)) | (with_reducible refine Bk.alloc ?_ _) | (with_reducible refine Bk.drew ?_) | (with_reducible refine Bk.drewN ?_ _) | ((with_reducible refine Bk.far ?_ ?_ _); rotate_left; focus (first | (simp; done) | (simp; omega))) | (with_reducible refine Bk.below ?_ (by with_reducible assumption)))); obtain ⟨kcX1, kfX1, kaX1, kgX1, klX1⟩ := kX1.rules
      go_wp2_with fail
      refine (small_any d.r d.A d.n d.c _ false H2).mono ?_
      rintro e w2 ⟨rfl, hb2⟩
      clear kcX1 kfX1 kaX1 kgX1
      go_wp2
      go_ret
      exact ⟨rfl, (by repeat (first | (with_reducible exact Below.refl _ _) | (with_reducible refine balloc ?_ _) | (with_reducible refine Below.drew ?_) | (with_reducible refine bdrewN ?_ _) | ((with_reducible refine bset ?_ ?_ _); rotate_left; focus (first | (with_reducible exact Nat.le_refl _) | (simp; done) | (simp; omega) | omega)) | (with_reducible refine bstep (by with_reducible assumption) ?_)))⟩
    | true =>
      have H2 := Lib.hid h2
      have H3 : decide (m.n ≤ 2000) = v := by have h := hv.out; rw [h1, h2] at h; exact h
      clear h1 h2 hv
      cases v with
      | false =>
        have H4 : ¬ (m.n ≤ 2000) := of_decide_eq_false H3
        have H5 : ¬ ((m.n : Int) ≤ 2000) := by omega
        clear H3
        go_enter Tryz.func4, Tryz.ntmps4
        go_wp2_with fail
        refine (small_any s.r s.A s.n s.c _ true H1).mono ?_
        rintro e w1 ⟨rfl, hb1⟩
        have kX1 : Bk w1 (w.heap.size) 31 #[.int .i64 s.r.x0, .int .i64 s.r.y0, .int .i64 s.r.x1, .int .i64 s.r.y1, .slice s.A s.n s.c, .int .i64 d.r.x0, .int .i64 d.r.y0, .int .i64 d.r.x1, .int .i64 d.r.y1, .slice d.A d.n d.c, .int .i64 m.r.x0, .int .i64 m.r.y0, .int .i64 m.r.x1, .int .i64 m.r.y1, .slice m.A m.n m.c] := (by repeat (first | (with_reducible assumption) | ((with_reducible refine Bk.new _ _ _ ?_); first | (with_reducible rfl) | (simp; done)) | (with_reducible refine Bk.alloc ?_ _) | (with_reducible refine Bk.drew ?_) | (with_reducible refine Bk.drewN ?_ _) | ((with_reducible refine Bk.far ?_ ?_ _); rotate_left; focus (first | (simp; done) | (simp; omega))) | (with_reducible refine Bk.below ?_ (by with_reducible assumption)))); obtain ⟨kcX1, kfX1, kaX1, kgX1, klX1⟩ := kX1.rules
        go_wp2_with fail
        refine (small_any d.r d.A d.n d.c _ true H2).mono ?_
        rintro e w2 ⟨rfl, hb2⟩
        clear kcX1 kfX1 kaX1 kgX1
        have kX2 : Bk w2 (w.heap.size) 31 #[.int .i64 s.r.x0, .int .i64 s.r.y0, .int .i64 s.r.x1, .int .i64 s.r.y1, .slice s.A s.n s.c, .int .i64 d.r.x0, .int .i64 d.r.y0, .int .i64 d.r.x1, .int .i64 d.r.y1, .slice d.A d.n d.c, .int .i64 m.r.x0, .int .i64 m.r.y0, .int .i64 m.r.x1, .int .i64 m.r.y1, .slice m.A m.n m.c] := (by repeat (first | (with_reducible assumption) | ((with_reducible refine Bk.new _ _ _ ?_); first | (with_reducible rfl) | (simp; done)) | (with_reducible refine Bk.alloc ?_ _) | (with_reducible refine Bk.drew ?_) | (with_reducible refine Bk.drewN ?_ _) | ((with_reducible refine Bk.far ?_ ?_ _); rotate_left; focus (first | (simp; done) | (simp; omega))) | (with_reducible refine Bk.below ?_ (by with_reducible assumption)))); obtain ⟨kcX2, kfX2, kaX2, kgX2, klX2⟩ := kX2.rules
        go_wp2
        go_ret
        exact ⟨by first | rfl | exact ret_bool (by simp; omega) | exact ret_bool (by simp [H4]), (by repeat (first | (with_reducible exact Below.refl _ _) | (with_reducible refine balloc ?_ _) | (with_reducible refine Below.drew ?_) | (with_reducible refine bdrewN ?_ _) | ((with_reducible refine bset ?_ ?_ _); rotate_left; focus (first | (with_reducible exact Nat.le_refl _) | (simp; done) | (simp; omega) | omega)) | (with_reducible refine bstep (by with_reducible assumption) ?_)))⟩
      | true =>
        have H4 : m.n ≤ 2000 := of_decide_eq_true H3
        have H5 : (m.n : Int) ≤ 2000 := by omega
        clear H3
        go_enter Tryz.func4, Tryz.ntmps4
        go_wp2_with fail
        refine (small_any s.r s.A s.n s.c _ true H1).mono ?_
        rintro e w1 ⟨rfl, hb1⟩
        have kX1 : Bk w1 (w.heap.size) 31 #[.int .i64 s.r.x0, .int .i64 s.r.y0, .int .i64 s.r.x1, .int .i64 s.r.y1, .slice s.A s.n s.c, .int .i64 d.r.x0, .int .i64 d.r.y0, .int .i64 d.r.x1, .int .i64 d.r.y1, .slice d.A d.n d.c, .int .i64 m.r.x0, .int .i64 m.r.y0, .int .i64 m.r.x1, .int .i64 m.r.y1, .slice m.A m.n m.c] := (by repeat (first | (with_reducible assumption) | ((with_reducible refine Bk.new _ _ _ ?_); first | (with_reducible rfl) | (simp; done)) | (with_reducible refine Bk.alloc ?_ _) | (with_reducible refine Bk.drew ?_) | (with_reducible refine Bk.drewN ?_ _) | ((with_reducible refine Bk.far ?_ ?_ _); rotate_left; focus (first | (simp; done) | (simp; omega))) | (with_reducible refine Bk.below ?_ (by with_reducible assumption)))); obtain ⟨kcX1, kfX1, kaX1, kgX1, klX1⟩ := kX1.rules
        go_wp2_with fail
        refine (small_any d.r d.A d.n d.c _ true H2).mono ?_
        rintro e w2 ⟨rfl, hb2⟩
        clear kcX1 kfX1 kaX1 kgX1
        have kX2 : Bk w2 (w.heap.size) 31 #[.int .i64 s.r.x0, .int .i64 s.r.y0, .int .i64 s.r.x1, .int .i64 s.r.y1, .slice s.A s.n s.c, .int .i64 d.r.x0, .int .i64 d.r.y0, .int .i64 d.r.x1, .int .i64 d.r.y1, .slice d.A d.n d.c, .int .i64 m.r.x0, .int .i64 m.r.y0, .int .i64 m.r.x1, .int .i64 m.r.y1, .slice m.A m.n m.c] := (by repeat (first | (with_reducible assumption) | ((with_reducible refine Bk.new _ _ _ ?_); first | (with_reducible rfl) | (simp; done)) | (with_reducible refine Bk.alloc ?_ _) | (with_reducible refine Bk.drew ?_) | (with_reducible refine Bk.drewN ?_ _) | ((with_reducible refine Bk.far ?_ ?_ _); rotate_left; focus (first | (simp; done) | (simp; omega))) | (with_reducible refine Bk.below ?_ (by with_reducible assumption)))); obtain ⟨kcX2, kfX2, kaX2, kgX2, klX2⟩ := kX2.rules
        go_wp2
        go_ret
        exact ⟨by first | rfl | exact ret_bool (by simp; omega) | exact ret_bool (by simp [H4]), (by repeat (first | (with_reducible exact Below.refl _ _) | (with_reducible refine balloc ?_ _) | (with_reducible refine Below.drew ?_) | (with_reducible refine bdrewN ?_ _) | ((with_reducible refine bset ?_ ?_ _); rotate_left; focus (first | (with_reducible exact Nat.le_refl _) | (simp; done) | (simp; omega) | omega)) | (with_reducible refine bstep (by with_reducible assumption) ?_)))⟩
theorem bo_len (mode : Int) (s d : Bm) (m : Mk) : (boL mode s d m).length ≤ 67108864 := by
  unfold boL
  split
  · next h =>
    have hv : bmValid d.r d.l = true := by unfold boV vBm at h; simp at h; exact h.1.1.2
    have h3 := pix_len (boG mode s d m) d.r
    rw [(valid_cn hv).1] at h3
    have := (area_bd d.r).2
    omega
  · simp
theorem lm_len (s d : Bm) (m : Mk) : (lmL s d m).length ≤ 67108864 := by
  unfold lmL
  split
  · next h =>
    have hv : bmValid s.r s.l = true := by unfold lmV vBm at h; simp at h; exact h.1.1
    have h3 := pix_len (lmG s d m) s.r
    rw [(valid_cn hv).1] at h3
    have := (area_bd s.r).2
    omega
  · simp
theorem own_rd {w : World} {base n c : Nat} {A : Option Addr} {l : List Px} (h : OwnL encP 45 4 w base (.slice A n c) l) : RdL encP 4 w A l := by
  obtain ⟨A', c', hv, hr, _⟩ := h.form encP_len
  injection hv with h1
  rw [h1]; exact hr
theorem OwnL.grownNe {w w' : World} {base : Nat} {v : Value} {l : List Px} {row : Option Nat} (h : OwnL encP 45 4 w base v l) (hg : w.grownBy w' row) (hne : ∀ g, base ≤ g → some g ≠ row) : OwnL encP 45 4 w' base v l := by
  refine ⟨h.1, ?_⟩
  rcases h.2 with h2 | ⟨g, cap, cur, hv, hbg, hh, r⟩
  · exact Or.inl h2
  · exact Or.inr ⟨g, cap, cur, hv, hbg, Bk.grown (t := 45) hh hg (hne g hbg), r⟩

set_option maxRecDepth 100000 in
set_option maxHeartbeats 6400000 in
theorem walk_BitmapBlend (s d : Bm) (m : Mk) (mode : Int) (w : World) (hs : s.ok w) (hd : d.ok w) (hm : m.ok w) :
    Calls Tryz.prog 3 #[.agg #[.int .i64 s.r.x0, .int .i64 s.r.y0, .int .i64 s.r.x1, .int .i64 s.r.y1, .slice s.A s.n s.c, .int .i64 d.r.x0, .int .i64 d.r.y0, .int .i64 d.r.x1, .int .i64 d.r.y1, .slice d.A d.n d.c, .int .i64 m.r.x0, .int .i64 m.r.y0, .int .i64 m.r.x1, .int .i64 m.r.y1, .slice m.A m.n m.c], .int .i64 mode] w fun e w' => e = .returned (.bool true) ∧ Below w.heap.size w w' := by
  have HS := Lib.hid hs
  have HD := Lib.hid hd
  have HM := Lib.hid hm
  clear hs hd hm
  cases hsp : (decide (s.n ≤ 2000) && decide (d.n ≤ 2000) && decide (m.n ≤ 2000)) with
  | false =>
    have HSP := Lib.hid hsp
    clear hsp
    go_enter Tryz.func3, Tryz.ntmps3
    go_wp2_with fail
    refine (spair_any s d m _ false HSP).mono ?_
    rintro e w1 ⟨rfl, hb1⟩
    go_wp2_with fail
    refine (ex_any _).mono ?_
    rintro e w2 ⟨rfl, hb2⟩
    go_wp2
    go_ret
    exact ⟨rfl, (by repeat (first | (with_reducible exact Below.refl _ _) | (with_reducible refine balloc ?_ _) | (with_reducible refine Below.drew ?_) | (with_reducible refine bdrewN ?_ _) | ((with_reducible refine bset ?_ ?_ _); rotate_left; focus (first | (with_reducible exact Nat.le_refl _) | (simp; done) | (simp; omega) | omega)) | (with_reducible refine bstep (by with_reducible assumption) ?_)))⟩
  | true =>
    have HSP := Lib.hid hsp
    obtain ⟨l1, l2, l3⟩ : s.n ≤ 2000 ∧ d.n ≤ 2000 ∧ m.n ≤ 2000 := by simpa [and_assoc] using hsp
    clear hsp
    obtain ⟨R0, HR0⟩ : ∃ u, Hid (boR mode s d m = u) := ⟨_, rfl⟩
    obtain ⟨L0, HL0⟩ : ∃ u, Hid (boL mode s d m = u) := ⟨_, rfl⟩
    obtain ⟨E0, HE0⟩ : ∃ u, Hid (boE mode s d m = u) := ⟨_, rfl⟩
    obtain ⟨R1, HR1⟩ : ∃ u, Hid (lmR d s m = u) := ⟨_, rfl⟩
    obtain ⟨L1, HL1⟩ : ∃ u, Hid (lmL d s m = u) := ⟨_, rfl⟩
    obtain ⟨E1, HE1⟩ : ∃ u, Hid (lmE d s m = u) := ⟨_, rfl⟩
    obtain ⟨n0, Hn0⟩ : ∃ u, Hid (L0.length = u) := ⟨_, rfl⟩
    obtain ⟨n1, Hn1⟩ : ∃ u, Hid (L1.length = u) := ⟨_, rfl⟩
    have hn0 : n0 ≤ 67108864 := by rw [← Hn0.out, ← HL0.out]; exact bo_len _ _ _ _
    have hn1 : n1 ≤ 67108864 := by rw [← Hn1.out, ← HL1.out]; exact lm_len _ _ _
    have HSL : Hid (s.l.length = s.n) := HS.out.ln
    have HDL : Hid (d.l.length = d.n) := HD.out.ln
    have HBo : Hid (∀ (A2 A3 : Option Addr) (c2 c3 : Nat) (W : World), Bm.ok ⟨s.r, A2, s.n, c2, s.l⟩ W → Bm.ok ⟨d.r, A3, d.n, c3, d.l⟩ W → m.ok W → Calls Tryz.prog 7 #[.int .i64 mode, .agg #[.int .i64 s.r.x0, .int .i64 s.r.y0, .int .i64 s.r.x1, .int .i64 s.r.y1, .slice A2 s.n c2], .agg #[.int .i64 d.r.x0, .int .i64 d.r.y0, .int .i64 d.r.x1, .int .i64 d.r.y1, .slice A3 d.n c3], .agg #[.int .i64 m.r.x0, .int .i64 m.r.y0, .int .i64 m.r.x1, .int .i64 m.r.y1, .slice m.A m.n m.c]] W (RetBE R0 L0 E0 W)) := fun A2 A3 c2 c3 W h1 h2 h3 => by
      have := bo_any mode ⟨s.r, A2, s.n, c2, s.l⟩ ⟨d.r, A3, d.n, c3, d.l⟩ m W h1 h2 h3 (by show s.n ≤ _; omega) (by show d.n ≤ _; omega) (by omega)
      rw [← HR0.out, ← HL0.out, ← HE0.out]
      exact this
    have HRo : Hid (∀ (W : World), s.ok W → d.ok W → m.ok W → Calls Tryz.prog 8 #[.int .i64 mode, .agg #[.int .i64 s.r.x0, .int .i64 s.r.y0, .int .i64 s.r.x1, .int .i64 s.r.y1, .slice s.A s.n s.c], .agg #[.int .i64 d.r.x0, .int .i64 d.r.y0, .int .i64 d.r.x1, .int .i64 d.r.y1, .slice d.A d.n d.c], .agg #[.int .i64 m.r.x0, .int .i64 m.r.y0, .int .i64 m.r.x1, .int .i64 m.r.y1, .slice m.A m.n m.c]] W (RetBE R0 L0 E0 W)) := fun W h1 h2 h3 => by
      have := rbo_any mode s d m W h1 h2 h3 (by omega) (by omega) (by omega)
      rw [HR0.out, HL0.out, HE0.out] at this
      exact this
    have HLm : Hid (∀ (A3 A2 : Option Addr) (c3 c2 : Nat) (W : World), Bm.ok ⟨d.r, A3, d.n, c3, d.l⟩ W → Bm.ok ⟨s.r, A2, s.n, c2, s.l⟩ W → m.ok W → Calls Tryz.prog 9 #[.agg #[.int .i64 d.r.x0, .int .i64 d.r.y0, .int .i64 d.r.x1, .int .i64 d.r.y1, .slice A3 d.n c3], .agg #[.int .i64 s.r.x0, .int .i64 s.r.y0, .int .i64 s.r.x1, .int .i64 s.r.y1, .slice A2 s.n c2], .agg #[.int .i64 m.r.x0, .int .i64 m.r.y0, .int .i64 m.r.x1, .int .i64 m.r.y1, .slice m.A m.n m.c]] W (RetBE R1 L1 E1 W)) := fun A3 A2 c3 c2 W h1 h2 h3 => by
      have := lm_any ⟨d.r, A3, d.n, c3, d.l⟩ ⟨s.r, A2, s.n, c2, s.l⟩ m W h1 h2 h3 (by show d.n ≤ _; omega) (by show s.n ≤ _; omega) (by omega)
      rw [← HR1.out, ← HL1.out, ← HE1.out]
      exact this
    have HRl : Hid (∀ (W : World), d.ok W → s.ok W → m.ok W → Calls Tryz.prog 10 #[.agg #[.int .i64 d.r.x0, .int .i64 d.r.y0, .int .i64 d.r.x1, .int .i64 d.r.y1, .slice d.A d.n d.c], .agg #[.int .i64 s.r.x0, .int .i64 s.r.y0, .int .i64 s.r.x1, .int .i64 s.r.y1, .slice s.A s.n s.c], .agg #[.int .i64 m.r.x0, .int .i64 m.r.y0, .int .i64 m.r.x1, .int .i64 m.r.y1, .slice m.A m.n m.c]] W (RetBE R1 L1 E1 W)) := fun W h1 h2 h3 => by
      have := rlm_any d s m W h1 h2 h3 (by omega) (by omega) (by omega)
      rw [HR1.out, HL1.out, HE1.out] at this
      exact this
    go_enter Tryz.func3, Tryz.ntmps3
    go_wp2_with fail
    refine (spair_any s d m _ true HSP).mono ?_
    rintro e w1 ⟨rfl, hb1⟩
    have kX1 : Bk w1 (w.heap.size) 31 #[.int .i64 s.r.x0, .int .i64 s.r.y0, .int .i64 s.r.x1, .int .i64 s.r.y1, .slice s.A s.n s.c, .int .i64 d.r.x0, .int .i64 d.r.y0, .int .i64 d.r.x1, .int .i64 d.r.y1, .slice d.A d.n d.c, .int .i64 m.r.x0, .int .i64 m.r.y0, .int .i64 m.r.x1, .int .i64 m.r.y1, .slice m.A m.n m.c] := (by repeat (first | (with_reducible assumption) | ((with_reducible refine Bk.new _ _ _ ?_); first | (with_reducible rfl) | (simp; done)) | (with_reducible refine Bk.alloc ?_ _) | (with_reducible refine Bk.drew ?_) | (with_reducible refine Bk.drewN ?_ _) | ((with_reducible refine Bk.far ?_ ?_ _); rotate_left; focus (first | (simp; done) | (simp; omega))) | (with_reducible refine Bk.below ?_ (by with_reducible assumption)))); obtain ⟨kcX1, kfX1, kaX1, kgX1, klX1⟩ := kX1.rules
    go_wp2_with fail
    clear kcX1 kfX1 kaX1 kgX1
    refine wp_region_mixs 10 [0, 1, 3, 4] [2, 5] [6, 7] [8, 9] (fun _ => 26) (fun _ => #[.int .i64 0, .int .i64 0, .int .i64 0, .int .i64 0, .slice none 0 0]) (by kernel_rfl) (by kernel_rfl) (fun c a d v w h => by cases d <;> exact h) (fun c a d v w h => by cases d <;> exact h) (fun j hj => by simp only [List.mem_cons, List.not_mem_nil, or_false] at hj; rcases hj with rfl | rfl <;> exact ⟨_, rfl, rfl, fun a w => by go_simp; rfl⟩) ?_
    simp only [List.map_cons, List.map_nil]
    repeat (refine wpGo_pure (v := ?_) rfl rfl (fun w' hS => ?_) ?_; rotate_left; (· have kXp : Bk w' (w.heap.size) 31 #[.int .i64 s.r.x0, .int .i64 s.r.y0, .int .i64 s.r.x1, .int .i64 s.r.y1, .slice s.A s.n s.c, .int .i64 d.r.x0, .int .i64 d.r.y0, .int .i64 d.r.x1, .int .i64 d.r.y1, .slice d.A d.n d.c, .int .i64 m.r.x0, .int .i64 m.r.y0, .int .i64 m.r.x1, .int .i64 m.r.y1, .slice m.A m.n m.c] := (by repeat (first | (with_reducible assumption) | ((with_reducible refine Bk.new _ _ _ ?_); first | (with_reducible rfl) | (simp; done)) | (with_reducible refine Bk.alloc ?_ _) | (with_reducible refine Bk.drew ?_) | (with_reducible refine Bk.drewN ?_ _) | ((with_reducible refine Bk.far ?_ ?_ _); rotate_left; focus (first | (simp; done) | (simp; omega))) | (with_reducible refine Bk.below ?_ (by with_reducible assumption)))); obtain ⟨kcXp, kfXp, kaXp, kgXp, klXp⟩ := kXp.rules; go_simp; exact rfl); (try simp only [Act.put, List.setIfInBounds_toArray, List.set_cons_zero, List.set_cons_succ]))
    refine wpGo_nil ?_
    refine wpMix_call rfl (fun w2a hb2a K hK => ?_)
    go_simp
    refine (clone_any s _ (HS.out.below (by repeat (first | (with_reducible exact Below.refl _ _) | (with_reducible refine balloc ?_ _) | (with_reducible refine Below.drew ?_) | (with_reducible refine bdrewN ?_ _) | ((with_reducible refine bset ?_ ?_ _); rotate_left; focus (first | (with_reducible exact Nat.le_refl _) | (simp; done) | (simp; omega) | omega)) | (with_reducible refine bstep (by with_reducible assumption) ?_)))) (by omega)).mono ?_
    rintro e w2 ⟨v2, rfl, ho2, hb2⟩
    obtain ⟨A2, c2, hv2, hr2, hle2, hmx2⟩ := ho2.form2 encP_len
    rw [HSL.out] at hv2 hle2
    subst hv2
    have HR2 := Lib.hid hr2
    have HC2 := Lib.hid (And.intro hle2 hmx2)
    clear hr2 hle2 hmx2
    refine hK.out _ _ hb2 (fun _ => ?_)
    clear hK K
    refine wpMix_call rfl (fun w3a hb3a K hK => ?_)
    go_simp
    refine (clone_any d _ (HD.out.below (by repeat (first | (with_reducible exact Below.refl _ _) | (with_reducible refine balloc ?_ _) | (with_reducible refine Below.drew ?_) | (with_reducible refine bdrewN ?_ _) | ((with_reducible refine bset ?_ ?_ _); rotate_left; focus (first | (with_reducible exact Nat.le_refl _) | (simp; done) | (simp; omega) | omega)) | (with_reducible refine bstep (by with_reducible assumption) ?_)))) (by omega)).mono ?_
    rintro e w3 ⟨v3, rfl, ho3, hb3⟩
    obtain ⟨A3, c3, hv3, hr3, hle3, hmx3⟩ := ho3.form2 encP_len
    rw [HDL.out] at hv3 hle3
    subst hv3
    have HR3 := Lib.hid hr3
    have HC3 := Lib.hid (And.intro hle3 hmx3)
    clear hr3 hle3 hmx3
    refine hK.out _ _ hb3 (fun _ => ?_)
    clear hK K
    refine wpMix_end (fun β w4 hb4 hbk hne => ?_)
    obtain ⟨k6, l6⟩ := hbk 6 (by simp)
    obtain ⟨k7, l7⟩ := hbk 7 (by simp)
    have ne67 := hne 6 (by simp) 7 (by simp) (by decide)
    clear hbk hne
    simp only [putAll, dstOf, ptrTo, List.foldl_cons, List.foldl_nil, List.getElem?_toArray, List.getElem?_cons_succ, List.getElem?_cons_zero, Option.bind_some, Act.put, List.setIfInBounds_toArray, List.set_cons_zero, List.set_cons_succ, List.drop_succ_cons, List.drop_zero]
    generalize β 6 = b6 at *
    generalize β 7 = b7 at *
    clear β
    have hB1 : Below w.heap.size w w1 := (by repeat (first | (with_reducible exact Below.refl _ _) | (with_reducible refine balloc ?_ _) | (with_reducible refine Below.drew ?_) | (with_reducible refine bdrewN ?_ _) | ((with_reducible refine bset ?_ ?_ _); rotate_left; focus (first | (with_reducible exact Nat.le_refl _) | (simp; done) | (simp; omega) | omega)) | (with_reducible refine bstep (by with_reducible assumption) ?_)))
    have l6' : w1.heap.size ≤ b6 := by simpa using l6
    have l7' : w1.heap.size ≤ b7 := by simpa using l7
    have lX := kX1.lt
    clear l6 l7
    have kX4 : Bk w4 (w.heap.size) 31 #[.int .i64 s.r.x0, .int .i64 s.r.y0, .int .i64 s.r.x1, .int .i64 s.r.y1, .slice s.A s.n s.c, .int .i64 d.r.x0, .int .i64 d.r.y0, .int .i64 d.r.x1, .int .i64 d.r.y1, .slice d.A d.n d.c, .int .i64 m.r.x0, .int .i64 m.r.y0, .int .i64 m.r.x1, .int .i64 m.r.y1, .slice m.A m.n m.c] := (by repeat (first | (with_reducible assumption) | ((with_reducible refine Bk.new _ _ _ ?_); first | (with_reducible rfl) | (simp; done)) | (with_reducible refine Bk.alloc ?_ _) | (with_reducible refine Bk.drew ?_) | (with_reducible refine Bk.drewN ?_ _) | ((with_reducible refine Bk.far ?_ ?_ _); rotate_left; focus (first | (simp; done) | (simp; omega))) | (with_reducible refine Bk.below ?_ (by with_reducible assumption)))); obtain ⟨kcX4, kfX4, kaX4, kgX4, klX4⟩ := kX4.rules
    clear kcX4 kfX4 kaX4 kgX4
    obtain ⟨kc6, kf6, ka6, kg6, kl6⟩ := k6.rules
    obtain ⟨kc7, kf7, ka7, kg7, kl7⟩ := k7.rules
    refine wpGo_eff rfl (fun K hK => ?_)
    go_simp
    refine hK.out _ _ (by repeat (first | (with_reducible exact Below.refl _ _) | (with_reducible refine balloc ?_ _) | (with_reducible refine Below.drew ?_) | (with_reducible refine bdrewN ?_ _) | ((with_reducible refine bset ?_ ?_ _); rotate_left; focus (first | (with_reducible exact Nat.le_refl _) | (simp; done) | (simp; omega) | omega)) | (with_reducible refine bstep (by with_reducible assumption) ?_))) (fun hS5 => ?_)
    clear hK K
    refine wpGo_eff rfl (fun K hK => ?_)
    go_simp
    refine hK.out _ _ (by repeat (first | (with_reducible exact Below.refl _ _) | (with_reducible refine balloc ?_ _) | (with_reducible refine Below.drew ?_) | (with_reducible refine bdrewN ?_ _) | ((with_reducible refine bset ?_ ?_ _); rotate_left; focus (first | (with_reducible exact Nat.le_refl _) | (simp; done) | (simp; omega) | omega)) | (with_reducible refine bstep (by with_reducible assumption) ?_))) (fun hS6 => ?_)
    clear hK K
    refine wpGo_nil ?_
    have p0 := k6
    have q0 := k7
    have x0 := kX4
    have g0 := ho2.below (show Below w2.heap.size w2 w4 from (by repeat (first | (with_reducible exact Below.refl _ _) | (with_reducible refine balloc ?_ _) | (with_reducible refine Below.drew ?_) | (with_reducible refine bdrewN ?_ _) | ((with_reducible refine bset ?_ ?_ _); rotate_left; focus (first | (with_reducible exact Nat.le_refl _) | (simp; done) | (simp; omega) | omega)) | (with_reducible refine bstep (by with_reducible assumption) ?_))))
    have f0 := ho3.below (show Below w3.heap.size w3 w4 from (by repeat (first | (with_reducible exact Below.refl _ _) | (with_reducible refine balloc ?_ _) | (with_reducible refine Below.drew ?_) | (with_reducible refine bdrewN ?_ _) | ((with_reducible refine bset ?_ ?_ _); rotate_left; focus (first | (with_reducible exact Nat.le_refl _) | (simp; done) | (simp; omega) | omega)) | (with_reducible refine bstep (by with_reducible assumption) ?_))))
    have g1 := g0.setFar p0 (by decide) 0 (.int .i64 s.r.x0)
    have f1 := f0.setFar p0 (by decide) 0 (.int .i64 s.r.x0)
    have p1 := p0.set 0 (.int .i64 s.r.x0)
    have q1 := q0.far (p := ⟨b6, 0, none⟩) ne67.symm (.int .i64 s.r.x0)
    have x1 := x0.far (p := ⟨b6, 0, none⟩) (show w.heap.size ≠ b6 by omega) (.int .i64 s.r.x0)
    have g2 := g1.setFar p1 (by decide) 1 (.int .i64 s.r.y0)
    have f2 := f1.setFar p1 (by decide) 1 (.int .i64 s.r.y0)
    have p2 := p1.set 1 (.int .i64 s.r.y0)
    have q2 := q1.far (p := ⟨b6, 1, none⟩) ne67.symm (.int .i64 s.r.y0)
    have x2 := x1.far (p := ⟨b6, 1, none⟩) (show w.heap.size ≠ b6 by omega) (.int .i64 s.r.y0)
    have g3 := g2.setFar p2 (by decide) 2 (.int .i64 s.r.x1)
    have f3 := f2.setFar p2 (by decide) 2 (.int .i64 s.r.x1)
    have p3 := p2.set 2 (.int .i64 s.r.x1)
    have q3 := q2.far (p := ⟨b6, 2, none⟩) ne67.symm (.int .i64 s.r.x1)
    have x3 := x2.far (p := ⟨b6, 2, none⟩) (show w.heap.size ≠ b6 by omega) (.int .i64 s.r.x1)
    have g4 := g3.setFar p3 (by decide) 3 (.int .i64 s.r.y1)
    have f4 := f3.setFar p3 (by decide) 3 (.int .i64 s.r.y1)
    have p4 := p3.set 3 (.int .i64 s.r.y1)
    have q4 := q3.far (p := ⟨b6, 3, none⟩) ne67.symm (.int .i64 s.r.y1)
    have x4 := x3.far (p := ⟨b6, 3, none⟩) (show w.heap.size ≠ b6 by omega) (.int .i64 s.r.y1)
    have g5 := g4.setFar p4 (by decide) 4 (.slice A2 s.n c2)
    have f5 := f4.setFar p4 (by decide) 4 (.slice A2 s.n c2)
    have p5 := p4.set 4 (.slice A2 s.n c2)
    have q5 := q4.far (p := ⟨b6, 4, none⟩) ne67.symm (.slice A2 s.n c2)
    have x5 := x4.far (p := ⟨b6, 4, none⟩) (show w.heap.size ≠ b6 by omega) (.slice A2 s.n c2)
    have g6 := g5.setFar q5 (by decide) 0 (.int .i64 d.r.x0)
    have f6 := f5.setFar q5 (by decide) 0 (.int .i64 d.r.x0)
    have p6 := p5.far (p := ⟨b7, 0, none⟩) ne67 (.int .i64 d.r.x0)
    have q6 := q5.set 0 (.int .i64 d.r.x0)
    have x6 := x5.far (p := ⟨b7, 0, none⟩) (show w.heap.size ≠ b7 by omega) (.int .i64 d.r.x0)
    have g7 := g6.setFar q6 (by decide) 1 (.int .i64 d.r.y0)
    have f7 := f6.setFar q6 (by decide) 1 (.int .i64 d.r.y0)
    have p7 := p6.far (p := ⟨b7, 1, none⟩) ne67 (.int .i64 d.r.y0)
    have q7 := q6.set 1 (.int .i64 d.r.y0)
    have x7 := x6.far (p := ⟨b7, 1, none⟩) (show w.heap.size ≠ b7 by omega) (.int .i64 d.r.y0)
    have g8 := g7.setFar q7 (by decide) 2 (.int .i64 d.r.x1)
    have f8 := f7.setFar q7 (by decide) 2 (.int .i64 d.r.x1)
    have p8 := p7.far (p := ⟨b7, 2, none⟩) ne67 (.int .i64 d.r.x1)
    have q8 := q7.set 2 (.int .i64 d.r.x1)
    have x8 := x7.far (p := ⟨b7, 2, none⟩) (show w.heap.size ≠ b7 by omega) (.int .i64 d.r.x1)
    have g9 := g8.setFar q8 (by decide) 3 (.int .i64 d.r.y1)
    have f9 := f8.setFar q8 (by decide) 3 (.int .i64 d.r.y1)
    have p9 := p8.far (p := ⟨b7, 3, none⟩) ne67 (.int .i64 d.r.y1)
    have q9 := q8.set 3 (.int .i64 d.r.y1)
    have x9 := x8.far (p := ⟨b7, 3, none⟩) (show w.heap.size ≠ b7 by omega) (.int .i64 d.r.y1)
    have g10 := g9.setFar q9 (by decide) 4 (.slice A3 d.n c3)
    have f10 := f9.setFar q9 (by decide) 4 (.slice A3 d.n c3)
    have p10 := p9.far (p := ⟨b7, 4, none⟩) ne67 (.slice A3 d.n c3)
    have q10 := q9.set 4 (.slice A3 d.n c3)
    have x10 := x9.far (p := ⟨b7, 4, none⟩) (show w.heap.size ≠ b7 by omega) (.slice A3 d.n c3)
    have jS : Bk _ b6 26 #[.int .i64 s.r.x0, .int .i64 s.r.y0, .int .i64 s.r.x1, .int .i64 s.r.y1, .slice A2 s.n c2] := p10
    have jT : Bk _ b7 26 #[.int .i64 d.r.x0, .int .i64 d.r.y0, .int .i64 d.r.x1, .int .i64 d.r.y1, .slice A3 d.n c3] := q10
    have jX : Bk _ w.heap.size 31 #[.int .i64 s.r.x0, .int .i64 s.r.y0, .int .i64 s.r.x1, .int .i64 s.r.y1, .slice s.A s.n s.c, .int .i64 d.r.x0, .int .i64 d.r.y0, .int .i64 d.r.x1, .int .i64 d.r.y1, .slice d.A d.n d.c, .int .i64 m.r.x0, .int .i64 m.r.y0, .int .i64 m.r.x1, .int .i64 m.r.y1, .slice m.A m.n m.c] := x10
    clear g0 f0 g1 f1 g2 f2 g3 f3 g4 f4 g5 f5 g6 f6 g7 f7 g8 f8 g9 f9 p0 q0 x0 p1 q1 x1 p2 q2 x2 p3 q3 x3 p4 q4 x4 p5 q5 x5 p6 q6 x6 p7 q7 x7 p8 q8 x8 p9 q9 x9 p10 q10 x10
    have hW0 : Below w.heap.size w w4 := (by repeat (first | (with_reducible exact Below.refl _ _) | (with_reducible refine balloc ?_ _) | (with_reducible refine Below.drew ?_) | (with_reducible refine bdrewN ?_ _) | ((with_reducible refine bset ?_ ?_ _); rotate_left; focus (first | (with_reducible exact Nat.le_refl _) | (simp; done) | (simp; omega) | omega)) | (with_reducible refine bstep (by with_reducible assumption) ?_)))
    have lw1 := hB1.size
    have hV := (bset (bset (bset (bset (bset (bset (bset (bset (bset (bset hW0 (p := ⟨b6, 0, none⟩) (by show _ ≤ b6; omega) (.int .i64 s.r.x0)) (p := ⟨b6, 1, none⟩) (by show _ ≤ b6; omega) (.int .i64 s.r.y0)) (p := ⟨b6, 2, none⟩) (by show _ ≤ b6; omega) (.int .i64 s.r.x1)) (p := ⟨b6, 3, none⟩) (by show _ ≤ b6; omega) (.int .i64 s.r.y1)) (p := ⟨b6, 4, none⟩) (by show _ ≤ b6; omega) (.slice A2 s.n c2)) (p := ⟨b7, 0, none⟩) (by show _ ≤ b7; omega) (.int .i64 d.r.x0)) (p := ⟨b7, 1, none⟩) (by show _ ≤ b7; omega) (.int .i64 d.r.y0)) (p := ⟨b7, 2, none⟩) (by show _ ≤ b7; omega) (.int .i64 d.r.x1)) (p := ⟨b7, 3, none⟩) (by show _ ≤ b7; omega) (.int .i64 d.r.y1)) (p := ⟨b7, 4, none⟩) (by show _ ≤ b7; omega) (.slice A3 d.n c3))
    clear kc6 kf6 ka6 kg6 kc7 kf7 ka7 kg7
    generalize ((((((((((w4.setCell ⟨b6, 0, none⟩ (.int .i64 s.r.x0)).setCell ⟨b6, 1, none⟩ (.int .i64 s.r.y0)).setCell ⟨b6, 2, none⟩ (.int .i64 s.r.x1)).setCell ⟨b6, 3, none⟩ (.int .i64 s.r.y1)).setCell ⟨b6, 4, none⟩ (.slice A2 s.n c2)).setCell ⟨b7, 0, none⟩ (.int .i64 d.r.x0)).setCell ⟨b7, 1, none⟩ (.int .i64 d.r.y0)).setCell ⟨b7, 2, none⟩ (.int .i64 d.r.x1)).setCell ⟨b7, 3, none⟩ (.int .i64 d.r.y1)).setCell ⟨b7, 4, none⟩ (.slice A3 d.n c3)) = w9 at hV jS jT jX g10 f10 ⊢
    have HO2 : Hid (Bm.ok ⟨s.r, A2, s.n, c2, s.l⟩ w9) := ⟨own_rd g10, HS.out.ln, HS.out.byte, HC2.out.1, HC2.out.2⟩
    have HO3 : Hid (Bm.ok ⟨d.r, A3, d.n, c3, d.l⟩ w9) := ⟨own_rd f10, HD.out.ln, HD.out.byte, HC3.out.1, HC3.out.2⟩
    have hW9 := hV
    clear g10 f10 hb1 hb2a hb2 hb3a hb3 hb4 hW0 hB1 hV ho2 ho3 HR2 HR3 HC2 HC3 hS5 hS6 k6 k7 kX1 kX4
    
    obtain ⟨kcS9, kfS9, kaS9, kgS9, klS9⟩ := jS.rules
    obtain ⟨kcT9, kfT9, kaT9, kgT9, klT9⟩ := jT.rules
    obtain ⟨kcX9, kfX9, kaX9, kgX9, klX9⟩ := jX.rules
    go_wp2_with fail
    refine (HBo.out _ _ _ _ _ (HO2.out.below (by repeat (first | (with_reducible exact Below.refl _ _) | (with_reducible refine balloc ?_ _) | (with_reducible refine Below.drew ?_) | (with_reducible refine bdrewN ?_ _) | ((with_reducible refine bset ?_ ?_ _); rotate_left; focus (first | (with_reducible exact Nat.le_refl _) | (simp; done) | (simp; omega) | omega)) | (with_reducible refine bstep (by with_reducible assumption) ?_)))) (HO3.out.below (by repeat (first | (with_reducible exact Below.refl _ _) | (with_reducible refine balloc ?_ _) | (with_reducible refine Below.drew ?_) | (with_reducible refine bdrewN ?_ _) | ((with_reducible refine bset ?_ ?_ _); rotate_left; focus (first | (with_reducible exact Nat.le_refl _) | (simp; done) | (simp; omega) | omega)) | (with_reducible refine bstep (by with_reducible assumption) ?_)))) (HM.out.below (by repeat (first | (with_reducible exact Below.refl _ _) | (with_reducible refine balloc ?_ _) | (with_reducible refine Below.drew ?_) | (with_reducible refine bdrewN ?_ _) | ((with_reducible refine bset ?_ ?_ _); rotate_left; focus (first | (with_reducible exact Nat.le_refl _) | (simp; done) | (simp; omega) | omega)) | (with_reducible refine bstep (by with_reducible assumption) ?_))))).mono ?_
    rintro e w10 ⟨v10, rfl, ho10, hb10⟩
    clear kcS9 kfS9 kaS9 kgS9 kcT9 kfT9 kaT9 kgT9 kcX9 kfX9 kaX9 kgX9
    have kX10 : Bk w10 (w.heap.size) 31 #[.int .i64 s.r.x0, .int .i64 s.r.y0, .int .i64 s.r.x1, .int .i64 s.r.y1, .slice s.A s.n s.c, .int .i64 d.r.x0, .int .i64 d.r.y0, .int .i64 d.r.x1, .int .i64 d.r.y1, .slice d.A d.n d.c, .int .i64 m.r.x0, .int .i64 m.r.y0, .int .i64 m.r.x1, .int .i64 m.r.y1, .slice m.A m.n m.c] := (by repeat (first | (with_reducible assumption) | ((with_reducible refine Bk.new _ _ _ ?_); first | (with_reducible rfl) | (simp; done)) | (with_reducible refine Bk.alloc ?_ _) | (with_reducible refine Bk.drew ?_) | (with_reducible refine Bk.drewN ?_ _) | ((with_reducible refine Bk.far ?_ ?_ _); rotate_left; focus (first | (simp; done) | (simp; omega))) | (with_reducible refine Bk.below ?_ (by with_reducible assumption)))); obtain ⟨kcX10, kfX10, kaX10, kgX10, klX10⟩ := kX10.rules
    obtain ⟨A10, c10, hv10, hr10, hle10, hmx10⟩ := ho10.form2 encP_len
    rw [Hn0.out] at hv10 hle10
    subst hv10
    have HR10 := Lib.hid hr10
    have HC10 := Lib.hid (And.intro hle10 hmx10)
    clear hr10 hle10 hmx10
    
    go_wp2_with fail
    refine (HRo.out _ (HS.out.below (by repeat (first | (with_reducible exact Below.refl _ _) | (with_reducible refine balloc ?_ _) | (with_reducible refine Below.drew ?_) | (with_reducible refine bdrewN ?_ _) | ((with_reducible refine bset ?_ ?_ _); rotate_left; focus (first | (with_reducible exact Nat.le_refl _) | (simp; done) | (simp; omega) | omega)) | (with_reducible refine bstep (by with_reducible assumption) ?_)))) (HD.out.below (by repeat (first | (with_reducible exact Below.refl _ _) | (with_reducible refine balloc ?_ _) | (with_reducible refine Below.drew ?_) | (with_reducible refine bdrewN ?_ _) | ((with_reducible refine bset ?_ ?_ _); rotate_left; focus (first | (with_reducible exact Nat.le_refl _) | (simp; done) | (simp; omega) | omega)) | (with_reducible refine bstep (by with_reducible assumption) ?_)))) (HM.out.below (by repeat (first | (with_reducible exact Below.refl _ _) | (with_reducible refine balloc ?_ _) | (with_reducible refine Below.drew ?_) | (with_reducible refine bdrewN ?_ _) | ((with_reducible refine bset ?_ ?_ _); rotate_left; focus (first | (with_reducible exact Nat.le_refl _) | (simp; done) | (simp; omega) | omega)) | (with_reducible refine bstep (by with_reducible assumption) ?_))))).mono ?_
    rintro e w11 ⟨v11, rfl, ho11, hb11⟩
    clear kcX10 kfX10 kaX10 kgX10
    have kS11 : Bk w11 (b6) 26 #[.int .i64 s.r.x0, .int .i64 s.r.y0, .int .i64 s.r.x1, .int .i64 s.r.y1, .slice A2 s.n c2] := (by repeat (first | (with_reducible assumption) | ((with_reducible refine Bk.new _ _ _ ?_); first | (with_reducible rfl) | (simp; done)) | (with_reducible refine Bk.alloc ?_ _) | (with_reducible refine Bk.drew ?_) | (with_reducible refine Bk.drewN ?_ _) | ((with_reducible refine Bk.far ?_ ?_ _); rotate_left; focus (first | (simp; done) | (simp; omega))) | (with_reducible refine Bk.below ?_ (by with_reducible assumption)))); obtain ⟨kcS11, kfS11, kaS11, kgS11, klS11⟩ := kS11.rules; have kT11 : Bk w11 (b7) 26 #[.int .i64 d.r.x0, .int .i64 d.r.y0, .int .i64 d.r.x1, .int .i64 d.r.y1, .slice A3 d.n c3] := (by repeat (first | (with_reducible assumption) | ((with_reducible refine Bk.new _ _ _ ?_); first | (with_reducible rfl) | (simp; done)) | (with_reducible refine Bk.alloc ?_ _) | (with_reducible refine Bk.drew ?_) | (with_reducible refine Bk.drewN ?_ _) | ((with_reducible refine Bk.far ?_ ?_ _); rotate_left; focus (first | (simp; done) | (simp; omega))) | (with_reducible refine Bk.below ?_ (by with_reducible assumption)))); obtain ⟨kcT11, kfT11, kaT11, kgT11, klT11⟩ := kT11.rules; have kX11 : Bk w11 (w.heap.size) 31 #[.int .i64 s.r.x0, .int .i64 s.r.y0, .int .i64 s.r.x1, .int .i64 s.r.y1, .slice s.A s.n s.c, .int .i64 d.r.x0, .int .i64 d.r.y0, .int .i64 d.r.x1, .int .i64 d.r.y1, .slice d.A d.n d.c, .int .i64 m.r.x0, .int .i64 m.r.y0, .int .i64 m.r.x1, .int .i64 m.r.y1, .slice m.A m.n m.c] := (by repeat (first | (with_reducible assumption) | ((with_reducible refine Bk.new _ _ _ ?_); first | (with_reducible rfl) | (simp; done)) | (with_reducible refine Bk.alloc ?_ _) | (with_reducible refine Bk.drew ?_) | (with_reducible refine Bk.drewN ?_ _) | ((with_reducible refine Bk.far ?_ ?_ _); rotate_left; focus (first | (simp; done) | (simp; omega))) | (with_reducible refine Bk.below ?_ (by with_reducible assumption)))); obtain ⟨kcX11, kfX11, kaX11, kgX11, klX11⟩ := kX11.rules
    obtain ⟨A11, c11, hv11, hr11, hle11, hmx11⟩ := ho11.form2 encP_len
    rw [Hn0.out] at hv11 hle11
    subst hv11
    have HR11 := Lib.hid hr11
    have HC11 := Lib.hid (And.intro hle11 hmx11)
    clear hr11 hle11 hmx11
    
    go_wp2_with fail
    refine (HLm.out _ _ _ _ _ (HO3.out.below (by repeat (first | (with_reducible exact Below.refl _ _) | (with_reducible refine balloc ?_ _) | (with_reducible refine Below.drew ?_) | (with_reducible refine bdrewN ?_ _) | ((with_reducible refine bset ?_ ?_ _); rotate_left; focus (first | (with_reducible exact Nat.le_refl _) | (simp; done) | (simp; omega) | omega)) | (with_reducible refine bstep (by with_reducible assumption) ?_)))) (HO2.out.below (by repeat (first | (with_reducible exact Below.refl _ _) | (with_reducible refine balloc ?_ _) | (with_reducible refine Below.drew ?_) | (with_reducible refine bdrewN ?_ _) | ((with_reducible refine bset ?_ ?_ _); rotate_left; focus (first | (with_reducible exact Nat.le_refl _) | (simp; done) | (simp; omega) | omega)) | (with_reducible refine bstep (by with_reducible assumption) ?_)))) (HM.out.below (by repeat (first | (with_reducible exact Below.refl _ _) | (with_reducible refine balloc ?_ _) | (with_reducible refine Below.drew ?_) | (with_reducible refine bdrewN ?_ _) | ((with_reducible refine bset ?_ ?_ _); rotate_left; focus (first | (with_reducible exact Nat.le_refl _) | (simp; done) | (simp; omega) | omega)) | (with_reducible refine bstep (by with_reducible assumption) ?_))))).mono ?_
    rintro e w12 ⟨v12, rfl, ho12, hb12⟩
    clear kcS11 kfS11 kaS11 kgS11 kcT11 kfT11 kaT11 kgT11 kcX11 kfX11 kaX11 kgX11
    have kX12 : Bk w12 (w.heap.size) 31 #[.int .i64 s.r.x0, .int .i64 s.r.y0, .int .i64 s.r.x1, .int .i64 s.r.y1, .slice s.A s.n s.c, .int .i64 d.r.x0, .int .i64 d.r.y0, .int .i64 d.r.x1, .int .i64 d.r.y1, .slice d.A d.n d.c, .int .i64 m.r.x0, .int .i64 m.r.y0, .int .i64 m.r.x1, .int .i64 m.r.y1, .slice m.A m.n m.c] := (by repeat (first | (with_reducible assumption) | ((with_reducible refine Bk.new _ _ _ ?_); first | (with_reducible rfl) | (simp; done)) | (with_reducible refine Bk.alloc ?_ _) | (with_reducible refine Bk.drew ?_) | (with_reducible refine Bk.drewN ?_ _) | ((with_reducible refine Bk.far ?_ ?_ _); rotate_left; focus (first | (simp; done) | (simp; omega))) | (with_reducible refine Bk.below ?_ (by with_reducible assumption)))); obtain ⟨kcX12, kfX12, kaX12, kgX12, klX12⟩ := kX12.rules
    obtain ⟨A12, c12, hv12, hr12, hle12, hmx12⟩ := ho12.form2 encP_len
    rw [Hn1.out] at hv12 hle12
    subst hv12
    have HR12 := Lib.hid hr12
    have HC12 := Lib.hid (And.intro hle12 hmx12)
    clear hr12 hle12 hmx12
    
    go_wp2_with fail
    refine (HRl.out _ (HD.out.below (by repeat (first | (with_reducible exact Below.refl _ _) | (with_reducible refine balloc ?_ _) | (with_reducible refine Below.drew ?_) | (with_reducible refine bdrewN ?_ _) | ((with_reducible refine bset ?_ ?_ _); rotate_left; focus (first | (with_reducible exact Nat.le_refl _) | (simp; done) | (simp; omega) | omega)) | (with_reducible refine bstep (by with_reducible assumption) ?_)))) (HS.out.below (by repeat (first | (with_reducible exact Below.refl _ _) | (with_reducible refine balloc ?_ _) | (with_reducible refine Below.drew ?_) | (with_reducible refine bdrewN ?_ _) | ((with_reducible refine bset ?_ ?_ _); rotate_left; focus (first | (with_reducible exact Nat.le_refl _) | (simp; done) | (simp; omega) | omega)) | (with_reducible refine bstep (by with_reducible assumption) ?_)))) (HM.out.below (by repeat (first | (with_reducible exact Below.refl _ _) | (with_reducible refine balloc ?_ _) | (with_reducible refine Below.drew ?_) | (with_reducible refine bdrewN ?_ _) | ((with_reducible refine bset ?_ ?_ _); rotate_left; focus (first | (with_reducible exact Nat.le_refl _) | (simp; done) | (simp; omega) | omega)) | (with_reducible refine bstep (by with_reducible assumption) ?_))))).mono ?_
    rintro e w13 ⟨v13, rfl, ho13, hb13⟩
    clear kcX12 kfX12 kaX12 kgX12
    have kA13 : Bk w13 (w10.heap.size) 26 #[.int .i64 R0.x0, .int .i64 R0.y0, .int .i64 R0.x1, .int .i64 R0.y1, .slice A10 n0 c10] := (by repeat (first | (with_reducible assumption) | ((with_reducible refine Bk.new _ _ _ ?_); first | (with_reducible rfl) | (simp; done)) | (with_reducible refine Bk.alloc ?_ _) | (with_reducible refine Bk.drew ?_) | (with_reducible refine Bk.drewN ?_ _) | ((with_reducible refine Bk.far ?_ ?_ _); rotate_left; focus (first | (simp; done) | (simp; omega))) | (with_reducible refine Bk.below ?_ (by with_reducible assumption)))); obtain ⟨kcA13, kfA13, kaA13, kgA13, klA13⟩ := kA13.rules; have kB13 : Bk w13 (w11.heap.size) 26 #[.int .i64 R0.x0, .int .i64 R0.y0, .int .i64 R0.x1, .int .i64 R0.y1, .slice A11 n0 c11] := (by repeat (first | (with_reducible assumption) | ((with_reducible refine Bk.new _ _ _ ?_); first | (with_reducible rfl) | (simp; done)) | (with_reducible refine Bk.alloc ?_ _) | (with_reducible refine Bk.drew ?_) | (with_reducible refine Bk.drewN ?_ _) | ((with_reducible refine Bk.far ?_ ?_ _); rotate_left; focus (first | (simp; done) | (simp; omega))) | (with_reducible refine Bk.below ?_ (by with_reducible assumption)))); obtain ⟨kcB13, kfB13, kaB13, kgB13, klB13⟩ := kB13.rules
    obtain ⟨A13, c13, hv13, hr13, hle13, hmx13⟩ := ho13.form2 encP_len
    rw [Hn1.out] at hv13 hle13
    subst hv13
    have HR13 := Lib.hid hr13
    have HC13 := Lib.hid (And.intro hle13 hmx13)
    clear hr13 hle13 hmx13
    
    go_wp2_with fail
    refine (requal_any R0 R0 A10 A11 n0 n0 c10 c11 L0 L0 _ (HR10.out.below (by repeat (first | (with_reducible exact Below.refl _ _) | (with_reducible refine balloc ?_ _) | (with_reducible refine Below.drew ?_) | (with_reducible refine bdrewN ?_ _) | ((with_reducible refine bset ?_ ?_ _); rotate_left; focus (first | (with_reducible exact Nat.le_refl _) | (simp; done) | (simp; omega) | omega)) | (with_reducible refine bstep (by with_reducible assumption) ?_)))) (HR11.out.below (by repeat (first | (with_reducible exact Below.refl _ _) | (with_reducible refine balloc ?_ _) | (with_reducible refine Below.drew ?_) | (with_reducible refine bdrewN ?_ _) | ((with_reducible refine bset ?_ ?_ _); rotate_left; focus (first | (with_reducible exact Nat.le_refl _) | (simp; done) | (simp; omega) | omega)) | (with_reducible refine bstep (by with_reducible assumption) ?_)))) Hn0.out Hn0.out (by omega) (by omega) true ⟨fun _ => ⟨rfl, rfl⟩, fun _ => rfl⟩).mono ?_
    rintro e w14 ⟨rfl, hb14⟩
    clear kcA13 kfA13 kaA13 kgA13 kcB13 kfB13 kaB13 kgB13
    have kU14 : Bk w14 (w12.heap.size) 26 #[.int .i64 R1.x0, .int .i64 R1.y0, .int .i64 R1.x1, .int .i64 R1.y1, .slice A12 n1 c12] := (by repeat (first | (with_reducible assumption) | ((with_reducible refine Bk.new _ _ _ ?_); first | (with_reducible rfl) | (simp; done)) | (with_reducible refine Bk.alloc ?_ _) | (with_reducible refine Bk.drew ?_) | (with_reducible refine Bk.drewN ?_ _) | ((with_reducible refine Bk.far ?_ ?_ _); rotate_left; focus (first | (simp; done) | (simp; omega))) | (with_reducible refine Bk.below ?_ (by with_reducible assumption)))); obtain ⟨kcU14, kfU14, kaU14, kgU14, klU14⟩ := kU14.rules; have kV14 : Bk w14 (w13.heap.size) 26 #[.int .i64 R1.x0, .int .i64 R1.y0, .int .i64 R1.x1, .int .i64 R1.y1, .slice A13 n1 c13] := (by repeat (first | (with_reducible assumption) | ((with_reducible refine Bk.new _ _ _ ?_); first | (with_reducible rfl) | (simp; done)) | (with_reducible refine Bk.alloc ?_ _) | (with_reducible refine Bk.drew ?_) | (with_reducible refine Bk.drewN ?_ _) | ((with_reducible refine Bk.far ?_ ?_ _); rotate_left; focus (first | (simp; done) | (simp; omega))) | (with_reducible refine Bk.below ?_ (by with_reducible assumption)))); obtain ⟨kcV14, kfV14, kaV14, kgV14, klV14⟩ := kV14.rules
    go_wp2_with fail
    refine (requal_any R1 R1 A12 A13 n1 n1 c12 c13 L1 L1 _ (HR12.out.below (by repeat (first | (with_reducible exact Below.refl _ _) | (with_reducible refine balloc ?_ _) | (with_reducible refine Below.drew ?_) | (with_reducible refine bdrewN ?_ _) | ((with_reducible refine bset ?_ ?_ _); rotate_left; focus (first | (with_reducible exact Nat.le_refl _) | (simp; done) | (simp; omega) | omega)) | (with_reducible refine bstep (by with_reducible assumption) ?_)))) (HR13.out.below (by repeat (first | (with_reducible exact Below.refl _ _) | (with_reducible refine balloc ?_ _) | (with_reducible refine Below.drew ?_) | (with_reducible refine bdrewN ?_ _) | ((with_reducible refine bset ?_ ?_ _); rotate_left; focus (first | (with_reducible exact Nat.le_refl _) | (simp; done) | (simp; omega) | omega)) | (with_reducible refine bstep (by with_reducible assumption) ?_)))) Hn1.out Hn1.out (by omega) (by omega) true ⟨fun _ => ⟨rfl, rfl⟩, fun _ => rfl⟩).mono ?_
    rintro e w15 ⟨rfl, hb15⟩
    clear kcU14 kfU14 kaU14 kgU14 kcV14 kfV14 kaV14 kgV14
    have kA15 : Bk w15 (w10.heap.size) 26 #[.int .i64 R0.x0, .int .i64 R0.y0, .int .i64 R0.x1, .int .i64 R0.y1, .slice A10 n0 c10] := (by repeat (first | (with_reducible assumption) | ((with_reducible refine Bk.new _ _ _ ?_); first | (with_reducible rfl) | (simp; done)) | (with_reducible refine Bk.alloc ?_ _) | (with_reducible refine Bk.drew ?_) | (with_reducible refine Bk.drewN ?_ _) | ((with_reducible refine Bk.far ?_ ?_ _); rotate_left; focus (first | (simp; done) | (simp; omega))) | (with_reducible refine Bk.below ?_ (by with_reducible assumption)))); obtain ⟨kcA15, kfA15, kaA15, kgA15, klA15⟩ := kA15.rules; have kU15 : Bk w15 (w12.heap.size) 26 #[.int .i64 R1.x0, .int .i64 R1.y0, .int .i64 R1.x1, .int .i64 R1.y1, .slice A12 n1 c12] := (by repeat (first | (with_reducible assumption) | ((with_reducible refine Bk.new _ _ _ ?_); first | (with_reducible rfl) | (simp; done)) | (with_reducible refine Bk.alloc ?_ _) | (with_reducible refine Bk.drew ?_) | (with_reducible refine Bk.drewN ?_ _) | ((with_reducible refine Bk.far ?_ ?_ _); rotate_left; focus (first | (simp; done) | (simp; omega))) | (with_reducible refine Bk.below ?_ (by with_reducible assumption)))); obtain ⟨kcU15, kfU15, kaU15, kgU15, klU15⟩ := kU15.rules
    have hB15 : Below w9.heap.size w9 w15 := (by repeat (first | (with_reducible exact Below.refl _ _) | (with_reducible refine balloc ?_ _) | (with_reducible refine Below.drew ?_) | (with_reducible refine bdrewN ?_ _) | ((with_reducible refine bset ?_ ?_ _); rotate_left; focus (first | (with_reducible exact Nat.le_refl _) | (simp; done) | (simp; omega) | omega)) | (with_reducible refine bstep (by with_reducible assumption) ?_)))
    have oA : OwnL encP 45 4 w15 w9.heap.size (.slice A10 n0 c10) L0 := ho10.below (bstep hb15 (bstep hb14 (balloc (bstep hb13 (balloc (bstep hb12 (balloc (bstep hb11 (balloc (Below.refl _ _) _)) _)) _)) _)))
    have sw10 : w10.heap.size ≤ w11.heap.size := by have := hb11.size; simp at this; omega
    have hbU : w10.heap.size ≤ w11.heap.size + 1 := by omega
    have oU := ho12.below (bstep hb15 (bstep hb14 (balloc (bstep hb13 (balloc (Below.refl _ _) _)) _)))
    have lA : ∀ g, Value.ownBlock (.slice A10 n0 c10) = some g → g < w10.heap.size := fun g h => (World.ownsRow.lt ho10 g h).2
    go_wp2_with fail
    clear kcA15 kfA15 kaA15 kgA15 kcU15 kfU15 kaU15 kgU15
    refine (overwrite_any R0 _ L0 n0 _ _ oA Hn0 (by omega) A10 c10 rfl).mono ?_
    rintro e w16 ⟨rfl, hg16⟩
    have hB16 := below_grown oA hg16 hB15 (Nat.le_refl _)
    have oU6 := oU.grownNe hg16 (fun g h0 h1 => by have := lA g h1.symm; simp at h0; omega)
    have kU16 := kU15.grown hg16 (oA.neBk kU15 (by decide))
    obtain ⟨kcU16, kfU16, kaU16, kgU16, klU16⟩ := kU16.rules
    have sw9 : w9.heap.size ≤ w10.heap.size := by have := hb10.size; omega
    go_wp2_with fail
    clear kcU16 kfU16 kaU16 kgU16
    refine (overwrite_any R1 _ L1 n1 _ _ oU6 Hn1 (by omega) A12 c12 rfl).mono ?_
    rintro e w17 ⟨rfl, hg17⟩
    have hB17 := below_grown oU6 hg17 hB16 (by simp; omega)
    have hW17 : Below w.heap.size w w17 := bstep hB17 hW9
    have jS7 := jS.below hB17
    have jT7 := jT.below hB17
    have jX7 := jX.below hB17
    have HP2 : Hid (RdL encP 4 w17 A2 s.l) := HO2.out.rd.below hB17
    have HP3 : Hid (RdL encP 4 w17 A3 d.l) := HO3.out.rd.below hB17
    clear jS jT jX hB15 hB16 hB17 hg16 hg17 oA oU oU6 ho10 ho11 ho12 ho13 hb10 hb11 hb12 hb13 hb14 hb15 hW9 kU15 kU16 HR10 HR11 HR12 HR13
    obtain ⟨kcS17, kfS17, kaS17, kgS17, klS17⟩ := jS7.rules
    obtain ⟨kcT17, kfT17, kaT17, kgT17, klT17⟩ := jT7.rules
    obtain ⟨kcX17, kfX17, kaX17, kgX17, klX17⟩ := jX7.rules
    go_wp2_with fail
    refine (requal_any s.r s.r A2 s.A s.n s.n c2 s.c s.l s.l _ (HP2.out.below (by repeat (first | (with_reducible exact Below.refl _ _) | (with_reducible refine balloc ?_ _) | (with_reducible refine Below.drew ?_) | (with_reducible refine bdrewN ?_ _) | ((with_reducible refine bset ?_ ?_ _); rotate_left; focus (first | (with_reducible exact Nat.le_refl _) | (simp; done) | (simp; omega) | omega)) | (with_reducible refine bstep (by with_reducible assumption) ?_)))) (HS.out.rd.below (by repeat (first | (with_reducible exact Below.refl _ _) | (with_reducible refine balloc ?_ _) | (with_reducible refine Below.drew ?_) | (with_reducible refine bdrewN ?_ _) | ((with_reducible refine bset ?_ ?_ _); rotate_left; focus (first | (with_reducible exact Nat.le_refl _) | (simp; done) | (simp; omega) | omega)) | (with_reducible refine bstep (by with_reducible assumption) ?_)))) HS.out.ln HS.out.ln (by omega) (by omega) true ⟨fun _ => ⟨rfl, rfl⟩, fun _ => rfl⟩).mono ?_
    rintro e w18 ⟨rfl, hb18⟩
    clear kcS17 kfS17 kaS17 kgS17 kcT17 kfT17 kaT17 kgT17 kcX17 kfX17 kaX17 kgX17
    have kT18 : Bk w18 (b7) 26 #[.int .i64 d.r.x0, .int .i64 d.r.y0, .int .i64 d.r.x1, .int .i64 d.r.y1, .slice A3 d.n c3] := (by repeat (first | (with_reducible assumption) | ((with_reducible refine Bk.new _ _ _ ?_); first | (with_reducible rfl) | (simp; done)) | (with_reducible refine Bk.alloc ?_ _) | (with_reducible refine Bk.drew ?_) | (with_reducible refine Bk.drewN ?_ _) | ((with_reducible refine Bk.far ?_ ?_ _); rotate_left; focus (first | (simp; done) | (simp; omega))) | (with_reducible refine Bk.below ?_ (by with_reducible assumption)))); obtain ⟨kcT18, kfT18, kaT18, kgT18, klT18⟩ := kT18.rules; have kX18 : Bk w18 (w.heap.size) 31 #[.int .i64 s.r.x0, .int .i64 s.r.y0, .int .i64 s.r.x1, .int .i64 s.r.y1, .slice s.A s.n s.c, .int .i64 d.r.x0, .int .i64 d.r.y0, .int .i64 d.r.x1, .int .i64 d.r.y1, .slice d.A d.n d.c, .int .i64 m.r.x0, .int .i64 m.r.y0, .int .i64 m.r.x1, .int .i64 m.r.y1, .slice m.A m.n m.c] := (by repeat (first | (with_reducible assumption) | ((with_reducible refine Bk.new _ _ _ ?_); first | (with_reducible rfl) | (simp; done)) | (with_reducible refine Bk.alloc ?_ _) | (with_reducible refine Bk.drew ?_) | (with_reducible refine Bk.drewN ?_ _) | ((with_reducible refine Bk.far ?_ ?_ _); rotate_left; focus (first | (simp; done) | (simp; omega))) | (with_reducible refine Bk.below ?_ (by with_reducible assumption)))); obtain ⟨kcX18, kfX18, kaX18, kgX18, klX18⟩ := kX18.rules
    go_wp2_with fail
    refine (requal_any d.r d.r A3 d.A d.n d.n c3 d.c d.l d.l _ (HP3.out.below (by repeat (first | (with_reducible exact Below.refl _ _) | (with_reducible refine balloc ?_ _) | (with_reducible refine Below.drew ?_) | (with_reducible refine bdrewN ?_ _) | ((with_reducible refine bset ?_ ?_ _); rotate_left; focus (first | (with_reducible exact Nat.le_refl _) | (simp; done) | (simp; omega) | omega)) | (with_reducible refine bstep (by with_reducible assumption) ?_)))) (HD.out.rd.below (by repeat (first | (with_reducible exact Below.refl _ _) | (with_reducible refine balloc ?_ _) | (with_reducible refine Below.drew ?_) | (with_reducible refine bdrewN ?_ _) | ((with_reducible refine bset ?_ ?_ _); rotate_left; focus (first | (with_reducible exact Nat.le_refl _) | (simp; done) | (simp; omega) | omega)) | (with_reducible refine bstep (by with_reducible assumption) ?_)))) HD.out.ln HD.out.ln (by omega) (by omega) true ⟨fun _ => ⟨rfl, rfl⟩, fun _ => rfl⟩).mono ?_
    rintro e w19 ⟨rfl, hb19⟩
    clear kcT18 kfT18 kaT18 kgT18 kcX18 kfX18 kaX18 kgX18
    go_wp2_with fail
    refine (ex_any _).mono ?_
    rintro e w20 ⟨rfl, hb20⟩
    go_wp2
    go_ret
    exact ⟨rfl, (by repeat (first | (with_reducible exact Below.refl _ _) | (with_reducible refine balloc ?_ _) | (with_reducible refine Below.drew ?_) | (with_reducible refine bdrewN ?_ _) | ((with_reducible refine bset ?_ ?_ _); rotate_left; focus (first | (with_reducible exact Nat.le_refl _) | (simp; done) | (simp; omega) | omega)) | (with_reducible refine bstep (by with_reducible assumption) ?_)))⟩

set_option maxRecDepth 100000 in
theorem lifted_BitmapBlend (os : Os) (started : os.Started) (H : Type) (enc : TypeId × Value → H) :
    ReturnsInHanded {} Tryz.checked os 3 .any (Rows.bitmapBlendSpec.pre6 enc Tryz.prog Tryz.f3 Rows.bitmapBlendRow.domain false) (Rows.bitmapBlendSpec.post enc Tryz.prog Tryz.f3 false true false false) := by
  refine returnsInHanded_of_change (C := Tryz.checked) Tryz.own started (by kernel_rfl) Tryz.func3
    (ChangeSpec.witness6 (enc := enc) (C := Tryz.checked) false ⟨#[], #[.agg #[.int .i64 0, .int .i64 0, .int .i64 0, .int .i64 0, .slice none 0 0, .int .i64 0, .int .i64 0, .int .i64 0, .int .i64 0, .slice none 0 0, .int .i64 0, .int .i64 0, .int .i64 0, .int .i64 0, .slice none 0 0], .int .i64 0], []⟩ 8 (by kernel_rfl) (by kernel_rfl) (by kernel_rfl) (by kernel_rfl)) ?_
  intro W base args ds gs before hval0 hW hcnd _
  have hval : ∀ (j : Nat) t v, Tryz.f3.params[j]? = some t → args[j]? = some v → Value.okWide Tryz.prog W .any base t v := hval0
  have hW' := hW
  obtain ⟨p, q, hA0, hV, rfl, hfz, hnd⟩ := hW
  have hA : DataW.TrodAll enc Tryz.prog W 0 (fun _ => true) true Tryz.f3.params.toList args.toList ds p := hA0
  rw [Tryz.params3] at hA hval
  obtain ⟨v0, vs0, d0, ds0, p0, q0, hargs, rfl, rfl, h0, r0⟩ := trodAll_cons hA
  obtain ⟨v1, vs1, d1, ds1, p1, q1, rfl, rfl, rfl, h1, r1⟩ := trodAll_cons r0
  obtain ⟨rfl, rfl, rfl⟩ := trodAll_nil r1
  obtain rfl : args = #[v0, v1] := by cases args; simp_all
  obtain ⟨s0, t0, m0, rfl, hs0, ht0, hm0⟩ := openBoth (hval 0 31 v0 rfl rfl) h0
  obtain ⟨x1, rfl, _, _, g1⟩ := open_int Tryz.underlying3 (hval 1 3 v1 rfl rfl) h1
  refine (walk_BitmapBlend s0 t0 m0 x1 W hs0 ht0 hm0).mono fun e W' ⟨he, hb⟩ => ?_
  subst he
  exact ⟨_, rfl, law_post (tb := 4) Tryz.laidOut (by kernel_rfl) hW' rfl rfl Tryz.underlying4 rfl rfl rfl hb⟩

theorem BitmapBlend_holds : Rows.BitmapBlendSaid :=
  OpenClaim.holds_of_wide 3 Tryz.f3 rfl rfl rfl rfl rfl rfl rfl ⟨rfl, rfl, rfl, rfl, rfl⟩ rfl rfl rfl rfl rfl (by kernel_rfl) Tryz.func3 (by kernel_rfl)
    (of_decide_eq_true (by kernel_rfl)) (by unfold Func.isWrapper; first | (rw [if_pos (by decide +kernel)]; kernel_rfl) | (rw [if_neg (by decide +kernel)]; exact ⟨rfl, rfl⟩))
    (fun os started H enc _ => lifted_BitmapBlend os started H enc)
#print axioms BitmapBlend_holds
end Go.Proofs.YtnefnnhnjmmebaaGreat
