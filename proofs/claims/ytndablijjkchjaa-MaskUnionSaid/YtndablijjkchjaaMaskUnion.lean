/- MaskUnion: for all masks the law grisaillelaw21.MaskUnion returns true. No conditions. -/
import Derived.Test.YtndablijjkchjaaMk5b
import Derived.Test.YtndablijjkchjaaEx21
import Derived.Test.YtndablijjkchjaaOpenM
import Derived.Test.YtndablijjkchjaaMkClone
import Derived.Test.YtndablijjkchjaaList4
namespace Go.Proofs.Ytndablijjkchjaa
open Go.ChangeShapes Go.WideShapes Go.ChangeAt Go.RowKit
set_option linter.unusedSimpArgs false
set_option linter.unusedVariables false

theorem un_len (a b : Mk) : (unML a b).length ≤ 65536 := by
  unfold unML
  cases h : (unB a b && decide (areaR (unionR a.r b.r) ≤ 65536)) with
  | false => simp
  | true =>
    have h2 : areaR (unionR a.r b.r) ≤ 65536 := by simp at h; exact h.2
    rw [if_pos rfl]
    have h3 := pix_len (unG a b) (unionR a.r b.r)
    rw [union_cn] at h3
    omega
set_option maxHeartbeats 6400000 in
theorem walk_MaskUnion (a b : Mk) (w : World) (ha : a.ok w) (hb : b.ok w) :
    Calls Try.prog 4 #[.agg #[.int .i64 a.r.x0, .int .i64 a.r.y0, .int .i64 a.r.x1, .int .i64 a.r.y1, .slice a.A a.n a.c], .agg #[.int .i64 b.r.x0, .int .i64 b.r.y0, .int .i64 b.r.x1, .int .i64 b.r.y1, .slice b.A b.n b.c]] w fun e w' => e = .returned (.bool true) ∧ Below w.heap.size w w' := by
  have HA := Lib.hid ha
  have HB := Lib.hid hb
  clear ha hb
  cases h1 : decide (a.n ≤ 3000) with
  | false =>
    have HSa := Lib.hid h1
    clear h1
    go_enter Try.func4, Try.ntmps4
    go_wp2_with fail
    refine (small_any a.r a.A a.n a.c _ false HSa).mono ?_
    rintro e w1 ⟨rfl, hb1⟩
    go_wp2_with fail
    refine (ex_any _).mono ?_
    rintro e w2 ⟨rfl, hb2⟩
    go_wp2
    go_ret
    exact ⟨rfl, (by repeat (first | (with_reducible exact Below.refl _ _) | (with_reducible refine balloc ?_ _) | (with_reducible refine Below.drew ?_) | (with_reducible refine bdrewN ?_ _) | ((with_reducible refine bset ?_ ?_ _); rotate_left; focus (first | (with_reducible exact Nat.le_refl _) | (simp; done) | (simp; omega) | omega)) | (with_reducible refine bstep (by with_reducible assumption) ?_)))⟩
  | true =>
    have HSa := Lib.hid h1
    cases h2 : decide (b.n ≤ 3000) with
    | false =>
      have HSb := Lib.hid h2
      clear h1 h2
      go_enter Try.func4, Try.ntmps4
      go_wp2_with fail
      refine (small_any a.r a.A a.n a.c _ true HSa).mono ?_
      rintro e w1 ⟨rfl, hb1⟩
      have kB1 : Bk w1 (w.heap.size + 1) 29 #[.int .i64 b.r.x0, .int .i64 b.r.y0, .int .i64 b.r.x1, .int .i64 b.r.y1, .slice b.A b.n b.c] := (by repeat (first | (with_reducible assumption) | ((with_reducible refine Bk.new _ _ _ ?_); first | (with_reducible rfl) | (simp; done)) | (with_reducible refine Bk.alloc ?_ _) | (with_reducible refine Bk.drew ?_) | (with_reducible refine Bk.drewN ?_ _) | ((with_reducible refine Bk.far ?_ ?_ _); rotate_left; focus (first | (simp; done) | (simp; omega))) | (with_reducible refine Bk.below ?_ (by with_reducible assumption)))); obtain ⟨kcB1, kfB1, kaB1, kgB1, klB1⟩ := kB1.rules
      go_wp2_with fail
      refine (small_any b.r b.A b.n b.c _ false HSb).mono ?_
      rintro e w2 ⟨rfl, hb2⟩
      clear kcB1 kfB1 kaB1 kgB1
      go_wp2_with fail
      refine (ex_any _).mono ?_
      rintro e w3 ⟨rfl, hb3⟩
      go_wp2
      go_ret
      exact ⟨rfl, (by repeat (first | (with_reducible exact Below.refl _ _) | (with_reducible refine balloc ?_ _) | (with_reducible refine Below.drew ?_) | (with_reducible refine bdrewN ?_ _) | ((with_reducible refine bset ?_ ?_ _); rotate_left; focus (first | (with_reducible exact Nat.le_refl _) | (simp; done) | (simp; omega) | omega)) | (with_reducible refine bstep (by with_reducible assumption) ?_)))⟩
    | true =>
      have HSb := Lib.hid h2
      have l1 := of_decide_eq_true h1
      have l2 := of_decide_eq_true h2
      clear h1 h2
      obtain ⟨U, HU⟩ : ∃ u, Hid (unionR a.r b.r = u) := ⟨_, rfl⟩
      have HU' : Hid (unionR ⟨a.r.x0, a.r.y0, a.r.x1, a.r.y1⟩ ⟨b.r.x0, b.r.y0, b.r.x1, b.r.y1⟩ = U) := HU.out
      obtain ⟨ar, Har⟩ : ∃ u, Hid (areaR U = u) := ⟨_, rfl⟩
      have HAr := Lib.hid (rarea_any U.x0 U.y0 U.x1 U.y1)
      have HArv : Hid (areaR ⟨U.x0, U.y0, U.x1, U.y1⟩ = ar) := Har.out
      rw [HArv.out] at HAr
      obtain ⟨R0, HR0⟩ : ∃ u, Hid (unMR a b = u) := ⟨_, rfl⟩
      obtain ⟨L0, HL0⟩ : ∃ u, Hid (unML a b = u) := ⟨_, rfl⟩
      obtain ⟨e0, He0⟩ : ∃ u, Hid (unME a b = u) := ⟨_, rfl⟩
      obtain ⟨n0, Hn0⟩ : ∃ u, Hid (L0.length = u) := ⟨_, rfl⟩
      have hn0 : n0 ≤ 65536 := by rw [← Hn0.out, ← HL0.out]; exact un_len a b
      have hru := fun W h1 h2 => rmunion_any a b W h1 h2 (by omega) (by omega)
      rw [HR0.out, HL0.out, He0.out] at hru
      have HRU := Lib.hid hru
      have hee : (e0 != e0) = false := by simp
      clear hru
      cases c1 : decide ((6000 : Int) < ar) with
      | false =>
        go_enter Try.func4, Try.ntmps4
        go_wp2_with fail
        refine (small_any a.r a.A a.n a.c _ true HSa).mono ?_
        rintro e w1 ⟨rfl, hb1⟩
        have kB1 : Bk w1 (w.heap.size + 1) 29 #[.int .i64 b.r.x0, .int .i64 b.r.y0, .int .i64 b.r.x1, .int .i64 b.r.y1, .slice b.A b.n b.c] := (by repeat (first | (with_reducible assumption) | ((with_reducible refine Bk.new _ _ _ ?_); first | (with_reducible rfl) | (simp; done)) | (with_reducible refine Bk.alloc ?_ _) | (with_reducible refine Bk.drew ?_) | (with_reducible refine Bk.drewN ?_ _) | ((with_reducible refine Bk.far ?_ ?_ _); rotate_left; focus (first | (simp; done) | (simp; omega))) | (with_reducible refine Bk.below ?_ (by with_reducible assumption)))); obtain ⟨kcB1, kfB1, kaB1, kgB1, klB1⟩ := kB1.rules
        go_wp2_with fail
        refine (small_any b.r b.A b.n b.c _ true HSb).mono ?_
        rintro e w2 ⟨rfl, hb2⟩
        clear kcB1 kfB1 kaB1 kgB1
        have kA2 : Bk w2 (w.heap.size) 29 #[.int .i64 a.r.x0, .int .i64 a.r.y0, .int .i64 a.r.x1, .int .i64 a.r.y1, .slice a.A a.n a.c] := (by repeat (first | (with_reducible assumption) | ((with_reducible refine Bk.new _ _ _ ?_); first | (with_reducible rfl) | (simp; done)) | (with_reducible refine Bk.alloc ?_ _) | (with_reducible refine Bk.drew ?_) | (with_reducible refine Bk.drewN ?_ _) | ((with_reducible refine Bk.far ?_ ?_ _); rotate_left; focus (first | (simp; done) | (simp; omega))) | (with_reducible refine Bk.below ?_ (by with_reducible assumption)))); obtain ⟨kcA2, kfA2, kaA2, kgA2, klA2⟩ := kA2.rules; have kB2 : Bk w2 (w.heap.size + 1) 29 #[.int .i64 b.r.x0, .int .i64 b.r.y0, .int .i64 b.r.x1, .int .i64 b.r.y1, .slice b.A b.n b.c] := (by repeat (first | (with_reducible assumption) | ((with_reducible refine Bk.new _ _ _ ?_); first | (with_reducible rfl) | (simp; done)) | (with_reducible refine Bk.alloc ?_ _) | (with_reducible refine Bk.drew ?_) | (with_reducible refine Bk.drewN ?_ _) | ((with_reducible refine Bk.far ?_ ?_ _); rotate_left; focus (first | (simp; done) | (simp; omega))) | (with_reducible refine Bk.below ?_ (by with_reducible assumption)))); obtain ⟨kcB2, kfB2, kaB2, kgB2, klB2⟩ := kB2.rules
        go_wp2_with fail
        refine (runion_q _ _ _ _ _ _ _ _ U HU' _).mono ?_
        rintro e w3 ⟨rfl, hb3⟩
        clear kcA2 kfA2 kaA2 kgA2 kcB2 kfB2 kaB2 kgB2
        have kA3 : Bk w3 (w.heap.size) 29 #[.int .i64 a.r.x0, .int .i64 a.r.y0, .int .i64 a.r.x1, .int .i64 a.r.y1, .slice a.A a.n a.c] := (by repeat (first | (with_reducible assumption) | ((with_reducible refine Bk.new _ _ _ ?_); first | (with_reducible rfl) | (simp; done)) | (with_reducible refine Bk.alloc ?_ _) | (with_reducible refine Bk.drew ?_) | (with_reducible refine Bk.drewN ?_ _) | ((with_reducible refine Bk.far ?_ ?_ _); rotate_left; focus (first | (simp; done) | (simp; omega))) | (with_reducible refine Bk.below ?_ (by with_reducible assumption)))); obtain ⟨kcA3, kfA3, kaA3, kgA3, klA3⟩ := kA3.rules; have kB3 : Bk w3 (w.heap.size + 1) 29 #[.int .i64 b.r.x0, .int .i64 b.r.y0, .int .i64 b.r.x1, .int .i64 b.r.y1, .slice b.A b.n b.c] := (by repeat (first | (with_reducible assumption) | ((with_reducible refine Bk.new _ _ _ ?_); first | (with_reducible rfl) | (simp; done)) | (with_reducible refine Bk.alloc ?_ _) | (with_reducible refine Bk.drew ?_) | (with_reducible refine Bk.drewN ?_ _) | ((with_reducible refine Bk.far ?_ ?_ _); rotate_left; focus (first | (simp; done) | (simp; omega))) | (with_reducible refine Bk.below ?_ (by with_reducible assumption)))); obtain ⟨kcB3, kfB3, kaB3, kgB3, klB3⟩ := kB3.rules
        go_wp2_with fail
        refine (HAr.out _).mono ?_
        rintro e w4 ⟨rfl, hb4⟩
        clear kcA3 kfA3 kaA3 kgA3 kcB3 kfB3 kaB3 kgB3
        have kA4 : Bk w4 (w.heap.size) 29 #[.int .i64 a.r.x0, .int .i64 a.r.y0, .int .i64 a.r.x1, .int .i64 a.r.y1, .slice a.A a.n a.c] := (by repeat (first | (with_reducible assumption) | ((with_reducible refine Bk.new _ _ _ ?_); first | (with_reducible rfl) | (simp; done)) | (with_reducible refine Bk.alloc ?_ _) | (with_reducible refine Bk.drew ?_) | (with_reducible refine Bk.drewN ?_ _) | ((with_reducible refine Bk.far ?_ ?_ _); rotate_left; focus (first | (simp; done) | (simp; omega))) | (with_reducible refine Bk.below ?_ (by with_reducible assumption)))); obtain ⟨kcA4, kfA4, kaA4, kgA4, klA4⟩ := kA4.rules; have kB4 : Bk w4 (w.heap.size + 1) 29 #[.int .i64 b.r.x0, .int .i64 b.r.y0, .int .i64 b.r.x1, .int .i64 b.r.y1, .slice b.A b.n b.c] := (by repeat (first | (with_reducible assumption) | ((with_reducible refine Bk.new _ _ _ ?_); first | (with_reducible rfl) | (simp; done)) | (with_reducible refine Bk.alloc ?_ _) | (with_reducible refine Bk.drew ?_) | (with_reducible refine Bk.drewN ?_ _) | ((with_reducible refine Bk.far ?_ ?_ _); rotate_left; focus (first | (simp; done) | (simp; omega))) | (with_reducible refine Bk.below ?_ (by with_reducible assumption)))); obtain ⟨kcB4, kfB4, kaB4, kgB4, klB4⟩ := kB4.rules
        go_wp2_with fail
        refine (clone_any a _ (HA.out.below (by repeat (first | (with_reducible exact Below.refl _ _) | (with_reducible refine balloc ?_ _) | (with_reducible refine Below.drew ?_) | (with_reducible refine bdrewN ?_ _) | ((with_reducible refine bset ?_ ?_ _); rotate_left; focus (first | (with_reducible exact Nat.le_refl _) | (simp; done) | (simp; omega) | omega)) | (with_reducible refine bstep (by with_reducible assumption) ?_)))) (by omega)).mono ?_
        rintro e w5 ⟨v5, rfl, ho5, hb5⟩
        clear kcA4 kfA4 kaA4 kgA4 kcB4 kfB4 kaB4 kgB4
        obtain ⟨A5, c5, hv5, hr5, hle5, hmx5⟩ := ho5.form2 encB_len
        rw [HA.out.ln] at hv5 hle5
        subst hv5
        have HOX : Hid (Mk.ok ⟨a.r, A5, a.n, c5, a.l⟩ w5) := ⟨hr5, HA.out.ln, HA.out.byte, hle5, hmx5⟩
        clear hr5 hle5 hmx5 ho5
        
        have kA5 : Bk w5 (w.heap.size) 29 #[.int .i64 a.r.x0, .int .i64 a.r.y0, .int .i64 a.r.x1, .int .i64 a.r.y1, .slice a.A a.n a.c] := (by repeat (first | (with_reducible assumption) | ((with_reducible refine Bk.new _ _ _ ?_); first | (with_reducible rfl) | (simp; done)) | (with_reducible refine Bk.alloc ?_ _) | (with_reducible refine Bk.drew ?_) | (with_reducible refine Bk.drewN ?_ _) | ((with_reducible refine Bk.far ?_ ?_ _); rotate_left; focus (first | (simp; done) | (simp; omega))) | (with_reducible refine Bk.below ?_ (by with_reducible assumption))))
        have kB5 : Bk w5 (w.heap.size + 1) 29 #[.int .i64 b.r.x0, .int .i64 b.r.y0, .int .i64 b.r.x1, .int .i64 b.r.y1, .slice b.A b.n b.c] := (by repeat (first | (with_reducible assumption) | ((with_reducible refine Bk.new _ _ _ ?_); first | (with_reducible rfl) | (simp; done)) | (with_reducible refine Bk.alloc ?_ _) | (with_reducible refine Bk.drew ?_) | (with_reducible refine Bk.drewN ?_ _) | ((with_reducible refine Bk.far ?_ ?_ _); rotate_left; focus (first | (simp; done) | (simp; omega))) | (with_reducible refine Bk.below ?_ (by with_reducible assumption)))); obtain ⟨kcB5, kfB5, kaB5, kgB5, klB5⟩ := kB5.rules
        have kX0 : Bk (w5.alloc (.cells #[.int .i64 a.r.x0, .int .i64 a.r.y0, .int .i64 a.r.x1, .int .i64 a.r.y1, .slice A5 a.n c5] 29)) w5.heap.size 29 #[.int .i64 a.r.x0, .int .i64 a.r.y0, .int .i64 a.r.x1, .int .i64 a.r.y1, .slice A5 a.n c5] := Bk.new _ _ _ rfl
        have hBX : Below w.heap.size w (w5.alloc (.cells #[.int .i64 a.r.x0, .int .i64 a.r.y0, .int .i64 a.r.x1, .int .i64 a.r.y1, .slice A5 a.n c5] 29)) := (by repeat (first | (with_reducible exact Below.refl _ _) | (with_reducible refine balloc ?_ _) | (with_reducible refine Below.drew ?_) | (with_reducible refine bdrewN ?_ _) | ((with_reducible refine bset ?_ ?_ _); rotate_left; focus (first | (with_reducible exact Nat.le_refl _) | (simp; done) | (simp; omega) | omega)) | (with_reducible refine bstep (by with_reducible assumption) ?_)))
        obtain ⟨W, HW⟩ : ∃ W : World, Hid (W = w5.alloc (.cells #[.int .i64 a.r.x0, .int .i64 a.r.y0, .int .i64 a.r.x1, .int .i64 a.r.y1, .slice A5 a.n c5] 29)) := ⟨_, rfl⟩
        have kA0 : Bk W (w.heap.size) 29 #[.int .i64 a.r.x0, .int .i64 a.r.y0, .int .i64 a.r.x1, .int .i64 a.r.y1, .slice a.A a.n a.c] := by rw [HW.out]; exact kA5.alloc _
        have kB0 : Bk W (w.heap.size + 1) 29 #[.int .i64 b.r.x0, .int .i64 b.r.y0, .int .i64 b.r.x1, .int .i64 b.r.y1, .slice b.A b.n b.c] := by rw [HW.out]; exact kB5.alloc _
        rw [← HW.out] at kX0 hBX
        have hox : Mk.ok ⟨a.r, A5, a.n, c5, a.l⟩ W := by rw [HW.out]; exact HOX.out.below (by repeat (first | (with_reducible exact Below.refl _ _) | (with_reducible refine balloc ?_ _) | (with_reducible refine Below.drew ?_) | (with_reducible refine bdrewN ?_ _) | ((with_reducible refine bset ?_ ?_ _); rotate_left; focus (first | (with_reducible exact Nat.le_refl _) | (simp; done) | (simp; omega) | omega)) | (with_reducible refine bstep (by with_reducible assumption) ?_)))
        have HOX' := Lib.hid hox
        have hun := munion_any ⟨a.r, A5, a.n, c5, a.l⟩ b W hox (HB.out.below hBX) (by show a.n ≤ _; omega) (by omega)
        have E1 : unMR ⟨a.r, A5, a.n, c5, a.l⟩ b = R0 := HR0.out
        have E2 : unML ⟨a.r, A5, a.n, c5, a.l⟩ b = L0 := HL0.out
        have E3 : unME ⟨a.r, A5, a.n, c5, a.l⟩ b = e0 := He0.out
        rw [E1, E2, E3] at hun
        have HUN := Lib.hid hun
        rw [HW.out] at HUN
        clear E1 E2 E3 hun hox
        go_wp2_with fail
        refine (HUN.out).mono ?_
        rintro e w6 ⟨v6, rfl, ho6, hb6⟩
        clear kcB5 kfB5 kaB5 kgB5
        rw [← HW.out] at hb6 ho6
        have HOW := Lib.hid ho6
        obtain ⟨A6, c6, hv6, hr6, _⟩ := ho6.form encB_len
        rw [Hn0.out] at hv6
        subst hv6
        have HR6 := Lib.hid hr6
        clear hr6
        clear ho6
        have kM6 : Bk _ _ _ _ := Bk.new w6 29 #[.int .i64 R0.x0, .int .i64 R0.y0, .int .i64 R0.x1, .int .i64 R0.y1, .slice A6 n0 c6] rfl
        have kA6 := kA0.below hb6
        have kB6 := kB0.below hb6
        have kX6 := kX0.below hb6
        have hB6 : Below w.heap.size w w6 := bstep hb6 hBX
        obtain ⟨kcA6, kfA6, kaA6, kgA6, klA6⟩ := kA6.rules
        obtain ⟨kcB6, kfB6, kaB6, kgB6, klB6⟩ := kB6.rules
        go_wp2_with fail
        refine (HRU.out _ (HA.out.below (by repeat (first | (with_reducible exact Below.refl _ _) | (with_reducible refine balloc ?_ _) | (with_reducible refine Below.drew ?_) | (with_reducible refine bdrewN ?_ _) | ((with_reducible refine bset ?_ ?_ _); rotate_left; focus (first | (with_reducible exact Nat.le_refl _) | (simp; done) | (simp; omega) | omega)) | (with_reducible refine bstep (by with_reducible assumption) ?_)))) (HB.out.below (by repeat (first | (with_reducible exact Below.refl _ _) | (with_reducible refine balloc ?_ _) | (with_reducible refine Below.drew ?_) | (with_reducible refine bdrewN ?_ _) | ((with_reducible refine bset ?_ ?_ _); rotate_left; focus (first | (with_reducible exact Nat.le_refl _) | (simp; done) | (simp; omega) | omega)) | (with_reducible refine bstep (by with_reducible assumption) ?_))))).mono ?_
        rintro e w7 ⟨v7, rfl, ho7, hb7⟩
        clear kcA6 kfA6 kaA6 kgA6 kcB6 kfB6 kaB6 kgB6
        obtain ⟨A7, c7, hv7, hr7, _⟩ := ho7.form encB_len
        rw [Hn0.out] at hv7
        subst hv7
        have HR7 := Lib.hid hr7
        clear hr7
        
        have kM7 : Bk w7 (w6.heap.size) 29 #[.int .i64 R0.x0, .int .i64 R0.y0, .int .i64 R0.x1, .int .i64 R0.y1, .slice A6 n0 c6] := (by repeat (first | (with_reducible assumption) | ((with_reducible refine Bk.new _ _ _ ?_); first | (with_reducible rfl) | (simp; done)) | (with_reducible refine Bk.alloc ?_ _) | (with_reducible refine Bk.drew ?_) | (with_reducible refine Bk.drewN ?_ _) | ((with_reducible refine Bk.far ?_ ?_ _); rotate_left; focus (first | (simp; done) | (simp; omega))) | (with_reducible refine Bk.below ?_ (by with_reducible assumption)))); obtain ⟨kcM7, kfM7, kaM7, kgM7, klM7⟩ := kM7.rules
        have kN : Bk w7 (w6.heap.size) 29 #[.int .i64 R0.x0, .int .i64 R0.y0, .int .i64 R0.x1, .int .i64 R0.y1, .slice A6 n0 c6] := (by repeat (first | (with_reducible assumption) | ((with_reducible refine Bk.new _ _ _ ?_); first | (with_reducible rfl) | (simp; done)) | (with_reducible refine Bk.alloc ?_ _) | (with_reducible refine Bk.drew ?_) | (with_reducible refine Bk.drewN ?_ _) | ((with_reducible refine Bk.far ?_ ?_ _); rotate_left; focus (first | (simp; done) | (simp; omega))) | (with_reducible refine Bk.below ?_ (by with_reducible assumption))))
        go_wp2_with fail
        refine (rmequal_any R0 R0 A6 A7 n0 n0 c6 c7 L0 L0 _ (HR6.out.below (by repeat (first | (with_reducible exact Below.refl _ _) | (with_reducible refine balloc ?_ _) | (with_reducible refine Below.drew ?_) | (with_reducible refine bdrewN ?_ _) | ((with_reducible refine bset ?_ ?_ _); rotate_left; focus (first | (with_reducible exact Nat.le_refl _) | (simp; done) | (simp; omega) | omega)) | (with_reducible refine bstep (by with_reducible assumption) ?_)))) (HR7.out.below (by repeat (first | (with_reducible exact Below.refl _ _) | (with_reducible refine balloc ?_ _) | (with_reducible refine Below.drew ?_) | (with_reducible refine bdrewN ?_ _) | ((with_reducible refine bset ?_ ?_ _); rotate_left; focus (first | (with_reducible exact Nat.le_refl _) | (simp; done) | (simp; omega) | omega)) | (with_reducible refine bstep (by with_reducible assumption) ?_)))) Hn0.out Hn0.out (by omega) (by omega) true ⟨fun _ => ⟨rfl, rfl⟩, fun _ => rfl⟩).mono ?_
        rintro e w8 ⟨rfl, hb8⟩
        clear kcM7 kfM7 kaM7 kgM7
        have kM8 : Bk w8 (w6.heap.size) 29 #[.int .i64 R0.x0, .int .i64 R0.y0, .int .i64 R0.x1, .int .i64 R0.y1, .slice A6 n0 c6] := (by repeat (first | (with_reducible assumption) | ((with_reducible refine Bk.new _ _ _ ?_); first | (with_reducible rfl) | (simp; done)) | (with_reducible refine Bk.alloc ?_ _) | (with_reducible refine Bk.drew ?_) | (with_reducible refine Bk.drewN ?_ _) | ((with_reducible refine Bk.far ?_ ?_ _); rotate_left; focus (first | (simp; done) | (simp; omega))) | (with_reducible refine Bk.below ?_ (by with_reducible assumption)))); obtain ⟨kcM8, kfM8, kaM8, kgM8, klM8⟩ := kM8.rules
        have hBWq : Below W.heap.size W w8 := bstep hb8 (balloc (bstep hb7 (balloc hb6 _)) _)
        have hownq := HOW.out.below (show Below w6.heap.size w6 w8 from bstep hb8 (balloc (bstep hb7 (balloc (Below.refl _ _) _)) _))
        go_wp2_with fail
        refine (overwrite_any R0 _ L0 n0 _ _ hownq Hn0 (by omega) A6 c6 rfl).mono ?_
        rintro e w9 ⟨rfl, hg9⟩
        clear kcM8 kfM8 kaM8 kgM8
        have hBWo : Below W.heap.size W w9 := below_grown hownq hg9 hBWq (Nat.le_refl _)
        have hBo : Below w.heap.size w w9 := bstep hBWo hBX
        have kAo := kA0.below hBWo
        have kXo := kX0.below hBWo
        obtain ⟨kcA, kfA, kaA, kgA, klA⟩ := kAo.rules
        obtain ⟨kcX, kfX, kaX, kgX, klX⟩ := kXo.rules
        go_wp2_with fail
        refine (rmequal_any a.r a.r A5 a.A a.n a.n c5 a.c a.l a.l _ (HOX'.out.rd.below hBWo) (HA.out.rd.below hBo) HA.out.ln HA.out.ln (by omega) (by omega) true ⟨fun _ => ⟨rfl, rfl⟩, fun _ => rfl⟩).mono ?_
        rintro e wy ⟨rfl, hby⟩
        have hBy : Below w.heap.size w wy := bstep hby hBo
        clear kcA kfA kaA kgA kcX kfX kaX kgX
        go_wp2_with fail
        refine (ex_any _).mono ?_
        rintro e wz ⟨rfl, hbz⟩
        go_wp2
        go_ret
        exact ⟨rfl, bstep hbz hBy⟩
      | true =>
        cases c2 : decide (ar ≤ (65536 : Int)) with
        | true =>
          go_enter Try.func4, Try.ntmps4
          go_wp2_with fail
          refine (small_any a.r a.A a.n a.c _ true HSa).mono ?_
          rintro e w1 ⟨rfl, hb1⟩
          have kB1 : Bk w1 (w.heap.size + 1) 29 #[.int .i64 b.r.x0, .int .i64 b.r.y0, .int .i64 b.r.x1, .int .i64 b.r.y1, .slice b.A b.n b.c] := (by repeat (first | (with_reducible assumption) | ((with_reducible refine Bk.new _ _ _ ?_); first | (with_reducible rfl) | (simp; done)) | (with_reducible refine Bk.alloc ?_ _) | (with_reducible refine Bk.drew ?_) | (with_reducible refine Bk.drewN ?_ _) | ((with_reducible refine Bk.far ?_ ?_ _); rotate_left; focus (first | (simp; done) | (simp; omega))) | (with_reducible refine Bk.below ?_ (by with_reducible assumption)))); obtain ⟨kcB1, kfB1, kaB1, kgB1, klB1⟩ := kB1.rules
          go_wp2_with fail
          refine (small_any b.r b.A b.n b.c _ true HSb).mono ?_
          rintro e w2 ⟨rfl, hb2⟩
          clear kcB1 kfB1 kaB1 kgB1
          have kA2 : Bk w2 (w.heap.size) 29 #[.int .i64 a.r.x0, .int .i64 a.r.y0, .int .i64 a.r.x1, .int .i64 a.r.y1, .slice a.A a.n a.c] := (by repeat (first | (with_reducible assumption) | ((with_reducible refine Bk.new _ _ _ ?_); first | (with_reducible rfl) | (simp; done)) | (with_reducible refine Bk.alloc ?_ _) | (with_reducible refine Bk.drew ?_) | (with_reducible refine Bk.drewN ?_ _) | ((with_reducible refine Bk.far ?_ ?_ _); rotate_left; focus (first | (simp; done) | (simp; omega))) | (with_reducible refine Bk.below ?_ (by with_reducible assumption)))); obtain ⟨kcA2, kfA2, kaA2, kgA2, klA2⟩ := kA2.rules; have kB2 : Bk w2 (w.heap.size + 1) 29 #[.int .i64 b.r.x0, .int .i64 b.r.y0, .int .i64 b.r.x1, .int .i64 b.r.y1, .slice b.A b.n b.c] := (by repeat (first | (with_reducible assumption) | ((with_reducible refine Bk.new _ _ _ ?_); first | (with_reducible rfl) | (simp; done)) | (with_reducible refine Bk.alloc ?_ _) | (with_reducible refine Bk.drew ?_) | (with_reducible refine Bk.drewN ?_ _) | ((with_reducible refine Bk.far ?_ ?_ _); rotate_left; focus (first | (simp; done) | (simp; omega))) | (with_reducible refine Bk.below ?_ (by with_reducible assumption)))); obtain ⟨kcB2, kfB2, kaB2, kgB2, klB2⟩ := kB2.rules
          go_wp2_with fail
          refine (runion_q _ _ _ _ _ _ _ _ U HU' _).mono ?_
          rintro e w3 ⟨rfl, hb3⟩
          clear kcA2 kfA2 kaA2 kgA2 kcB2 kfB2 kaB2 kgB2
          have kA3 : Bk w3 (w.heap.size) 29 #[.int .i64 a.r.x0, .int .i64 a.r.y0, .int .i64 a.r.x1, .int .i64 a.r.y1, .slice a.A a.n a.c] := (by repeat (first | (with_reducible assumption) | ((with_reducible refine Bk.new _ _ _ ?_); first | (with_reducible rfl) | (simp; done)) | (with_reducible refine Bk.alloc ?_ _) | (with_reducible refine Bk.drew ?_) | (with_reducible refine Bk.drewN ?_ _) | ((with_reducible refine Bk.far ?_ ?_ _); rotate_left; focus (first | (simp; done) | (simp; omega))) | (with_reducible refine Bk.below ?_ (by with_reducible assumption)))); obtain ⟨kcA3, kfA3, kaA3, kgA3, klA3⟩ := kA3.rules; have kB3 : Bk w3 (w.heap.size + 1) 29 #[.int .i64 b.r.x0, .int .i64 b.r.y0, .int .i64 b.r.x1, .int .i64 b.r.y1, .slice b.A b.n b.c] := (by repeat (first | (with_reducible assumption) | ((with_reducible refine Bk.new _ _ _ ?_); first | (with_reducible rfl) | (simp; done)) | (with_reducible refine Bk.alloc ?_ _) | (with_reducible refine Bk.drew ?_) | (with_reducible refine Bk.drewN ?_ _) | ((with_reducible refine Bk.far ?_ ?_ _); rotate_left; focus (first | (simp; done) | (simp; omega))) | (with_reducible refine Bk.below ?_ (by with_reducible assumption)))); obtain ⟨kcB3, kfB3, kaB3, kgB3, klB3⟩ := kB3.rules
          go_wp2_with fail
          refine (HAr.out _).mono ?_
          rintro e w4 ⟨rfl, hb4⟩
          clear kcA3 kfA3 kaA3 kgA3 kcB3 kfB3 kaB3 kgB3
          have kA4 : Bk w4 (w.heap.size) 29 #[.int .i64 a.r.x0, .int .i64 a.r.y0, .int .i64 a.r.x1, .int .i64 a.r.y1, .slice a.A a.n a.c] := (by repeat (first | (with_reducible assumption) | ((with_reducible refine Bk.new _ _ _ ?_); first | (with_reducible rfl) | (simp; done)) | (with_reducible refine Bk.alloc ?_ _) | (with_reducible refine Bk.drew ?_) | (with_reducible refine Bk.drewN ?_ _) | ((with_reducible refine Bk.far ?_ ?_ _); rotate_left; focus (first | (simp; done) | (simp; omega))) | (with_reducible refine Bk.below ?_ (by with_reducible assumption)))); obtain ⟨kcA4, kfA4, kaA4, kgA4, klA4⟩ := kA4.rules; have kB4 : Bk w4 (w.heap.size + 1) 29 #[.int .i64 b.r.x0, .int .i64 b.r.y0, .int .i64 b.r.x1, .int .i64 b.r.y1, .slice b.A b.n b.c] := (by repeat (first | (with_reducible assumption) | ((with_reducible refine Bk.new _ _ _ ?_); first | (with_reducible rfl) | (simp; done)) | (with_reducible refine Bk.alloc ?_ _) | (with_reducible refine Bk.drew ?_) | (with_reducible refine Bk.drewN ?_ _) | ((with_reducible refine Bk.far ?_ ?_ _); rotate_left; focus (first | (simp; done) | (simp; omega))) | (with_reducible refine Bk.below ?_ (by with_reducible assumption)))); obtain ⟨kcB4, kfB4, kaB4, kgB4, klB4⟩ := kB4.rules
          go_wp2_with fail
          refine (runion_q _ _ _ _ _ _ _ _ U HU' _).mono ?_
          rintro e w5 ⟨rfl, hb5⟩
          clear kcA4 kfA4 kaA4 kgA4 kcB4 kfB4 kaB4 kgB4
          have kA5 : Bk w5 (w.heap.size) 29 #[.int .i64 a.r.x0, .int .i64 a.r.y0, .int .i64 a.r.x1, .int .i64 a.r.y1, .slice a.A a.n a.c] := (by repeat (first | (with_reducible assumption) | ((with_reducible refine Bk.new _ _ _ ?_); first | (with_reducible rfl) | (simp; done)) | (with_reducible refine Bk.alloc ?_ _) | (with_reducible refine Bk.drew ?_) | (with_reducible refine Bk.drewN ?_ _) | ((with_reducible refine Bk.far ?_ ?_ _); rotate_left; focus (first | (simp; done) | (simp; omega))) | (with_reducible refine Bk.below ?_ (by with_reducible assumption)))); obtain ⟨kcA5, kfA5, kaA5, kgA5, klA5⟩ := kA5.rules; have kB5 : Bk w5 (w.heap.size + 1) 29 #[.int .i64 b.r.x0, .int .i64 b.r.y0, .int .i64 b.r.x1, .int .i64 b.r.y1, .slice b.A b.n b.c] := (by repeat (first | (with_reducible assumption) | ((with_reducible refine Bk.new _ _ _ ?_); first | (with_reducible rfl) | (simp; done)) | (with_reducible refine Bk.alloc ?_ _) | (with_reducible refine Bk.drew ?_) | (with_reducible refine Bk.drewN ?_ _) | ((with_reducible refine Bk.far ?_ ?_ _); rotate_left; focus (first | (simp; done) | (simp; omega))) | (with_reducible refine Bk.below ?_ (by with_reducible assumption)))); obtain ⟨kcB5, kfB5, kaB5, kgB5, klB5⟩ := kB5.rules
          go_wp2_with fail
          refine (HAr.out _).mono ?_
          rintro e w6 ⟨rfl, hb6⟩
          clear kcA5 kfA5 kaA5 kgA5 kcB5 kfB5 kaB5 kgB5
          have kA6 : Bk w6 (w.heap.size) 29 #[.int .i64 a.r.x0, .int .i64 a.r.y0, .int .i64 a.r.x1, .int .i64 a.r.y1, .slice a.A a.n a.c] := (by repeat (first | (with_reducible assumption) | ((with_reducible refine Bk.new _ _ _ ?_); first | (with_reducible rfl) | (simp; done)) | (with_reducible refine Bk.alloc ?_ _) | (with_reducible refine Bk.drew ?_) | (with_reducible refine Bk.drewN ?_ _) | ((with_reducible refine Bk.far ?_ ?_ _); rotate_left; focus (first | (simp; done) | (simp; omega))) | (with_reducible refine Bk.below ?_ (by with_reducible assumption)))); obtain ⟨kcA6, kfA6, kaA6, kgA6, klA6⟩ := kA6.rules; have kB6 : Bk w6 (w.heap.size + 1) 29 #[.int .i64 b.r.x0, .int .i64 b.r.y0, .int .i64 b.r.x1, .int .i64 b.r.y1, .slice b.A b.n b.c] := (by repeat (first | (with_reducible assumption) | ((with_reducible refine Bk.new _ _ _ ?_); first | (with_reducible rfl) | (simp; done)) | (with_reducible refine Bk.alloc ?_ _) | (with_reducible refine Bk.drew ?_) | (with_reducible refine Bk.drewN ?_ _) | ((with_reducible refine Bk.far ?_ ?_ _); rotate_left; focus (first | (simp; done) | (simp; omega))) | (with_reducible refine Bk.below ?_ (by with_reducible assumption)))); obtain ⟨kcB6, kfB6, kaB6, kgB6, klB6⟩ := kB6.rules
          go_wp2_with fail
          refine (ex_any _).mono ?_
          rintro e w7 ⟨rfl, hb7⟩
          clear kcA6 kfA6 kaA6 kgA6 kcB6 kfB6 kaB6 kgB6
          go_wp2
          go_ret
          exact ⟨rfl, (by repeat (first | (with_reducible exact Below.refl _ _) | (with_reducible refine balloc ?_ _) | (with_reducible refine Below.drew ?_) | (with_reducible refine bdrewN ?_ _) | ((with_reducible refine bset ?_ ?_ _); rotate_left; focus (first | (with_reducible exact Nat.le_refl _) | (simp; done) | (simp; omega) | omega)) | (with_reducible refine bstep (by with_reducible assumption) ?_)))⟩
        | false =>
          go_enter Try.func4, Try.ntmps4
          go_wp2_with fail
          refine (small_any a.r a.A a.n a.c _ true HSa).mono ?_
          rintro e w1 ⟨rfl, hb1⟩
          have kB1 : Bk w1 (w.heap.size + 1) 29 #[.int .i64 b.r.x0, .int .i64 b.r.y0, .int .i64 b.r.x1, .int .i64 b.r.y1, .slice b.A b.n b.c] := (by repeat (first | (with_reducible assumption) | ((with_reducible refine Bk.new _ _ _ ?_); first | (with_reducible rfl) | (simp; done)) | (with_reducible refine Bk.alloc ?_ _) | (with_reducible refine Bk.drew ?_) | (with_reducible refine Bk.drewN ?_ _) | ((with_reducible refine Bk.far ?_ ?_ _); rotate_left; focus (first | (simp; done) | (simp; omega))) | (with_reducible refine Bk.below ?_ (by with_reducible assumption)))); obtain ⟨kcB1, kfB1, kaB1, kgB1, klB1⟩ := kB1.rules
          go_wp2_with fail
          refine (small_any b.r b.A b.n b.c _ true HSb).mono ?_
          rintro e w2 ⟨rfl, hb2⟩
          clear kcB1 kfB1 kaB1 kgB1
          have kA2 : Bk w2 (w.heap.size) 29 #[.int .i64 a.r.x0, .int .i64 a.r.y0, .int .i64 a.r.x1, .int .i64 a.r.y1, .slice a.A a.n a.c] := (by repeat (first | (with_reducible assumption) | ((with_reducible refine Bk.new _ _ _ ?_); first | (with_reducible rfl) | (simp; done)) | (with_reducible refine Bk.alloc ?_ _) | (with_reducible refine Bk.drew ?_) | (with_reducible refine Bk.drewN ?_ _) | ((with_reducible refine Bk.far ?_ ?_ _); rotate_left; focus (first | (simp; done) | (simp; omega))) | (with_reducible refine Bk.below ?_ (by with_reducible assumption)))); obtain ⟨kcA2, kfA2, kaA2, kgA2, klA2⟩ := kA2.rules; have kB2 : Bk w2 (w.heap.size + 1) 29 #[.int .i64 b.r.x0, .int .i64 b.r.y0, .int .i64 b.r.x1, .int .i64 b.r.y1, .slice b.A b.n b.c] := (by repeat (first | (with_reducible assumption) | ((with_reducible refine Bk.new _ _ _ ?_); first | (with_reducible rfl) | (simp; done)) | (with_reducible refine Bk.alloc ?_ _) | (with_reducible refine Bk.drew ?_) | (with_reducible refine Bk.drewN ?_ _) | ((with_reducible refine Bk.far ?_ ?_ _); rotate_left; focus (first | (simp; done) | (simp; omega))) | (with_reducible refine Bk.below ?_ (by with_reducible assumption)))); obtain ⟨kcB2, kfB2, kaB2, kgB2, klB2⟩ := kB2.rules
          go_wp2_with fail
          refine (runion_q _ _ _ _ _ _ _ _ U HU' _).mono ?_
          rintro e w3 ⟨rfl, hb3⟩
          clear kcA2 kfA2 kaA2 kgA2 kcB2 kfB2 kaB2 kgB2
          have kA3 : Bk w3 (w.heap.size) 29 #[.int .i64 a.r.x0, .int .i64 a.r.y0, .int .i64 a.r.x1, .int .i64 a.r.y1, .slice a.A a.n a.c] := (by repeat (first | (with_reducible assumption) | ((with_reducible refine Bk.new _ _ _ ?_); first | (with_reducible rfl) | (simp; done)) | (with_reducible refine Bk.alloc ?_ _) | (with_reducible refine Bk.drew ?_) | (with_reducible refine Bk.drewN ?_ _) | ((with_reducible refine Bk.far ?_ ?_ _); rotate_left; focus (first | (simp; done) | (simp; omega))) | (with_reducible refine Bk.below ?_ (by with_reducible assumption)))); obtain ⟨kcA3, kfA3, kaA3, kgA3, klA3⟩ := kA3.rules; have kB3 : Bk w3 (w.heap.size + 1) 29 #[.int .i64 b.r.x0, .int .i64 b.r.y0, .int .i64 b.r.x1, .int .i64 b.r.y1, .slice b.A b.n b.c] := (by repeat (first | (with_reducible assumption) | ((with_reducible refine Bk.new _ _ _ ?_); first | (with_reducible rfl) | (simp; done)) | (with_reducible refine Bk.alloc ?_ _) | (with_reducible refine Bk.drew ?_) | (with_reducible refine Bk.drewN ?_ _) | ((with_reducible refine Bk.far ?_ ?_ _); rotate_left; focus (first | (simp; done) | (simp; omega))) | (with_reducible refine Bk.below ?_ (by with_reducible assumption)))); obtain ⟨kcB3, kfB3, kaB3, kgB3, klB3⟩ := kB3.rules
          go_wp2_with fail
          refine (HAr.out _).mono ?_
          rintro e w4 ⟨rfl, hb4⟩
          clear kcA3 kfA3 kaA3 kgA3 kcB3 kfB3 kaB3 kgB3
          have kA4 : Bk w4 (w.heap.size) 29 #[.int .i64 a.r.x0, .int .i64 a.r.y0, .int .i64 a.r.x1, .int .i64 a.r.y1, .slice a.A a.n a.c] := (by repeat (first | (with_reducible assumption) | ((with_reducible refine Bk.new _ _ _ ?_); first | (with_reducible rfl) | (simp; done)) | (with_reducible refine Bk.alloc ?_ _) | (with_reducible refine Bk.drew ?_) | (with_reducible refine Bk.drewN ?_ _) | ((with_reducible refine Bk.far ?_ ?_ _); rotate_left; focus (first | (simp; done) | (simp; omega))) | (with_reducible refine Bk.below ?_ (by with_reducible assumption)))); obtain ⟨kcA4, kfA4, kaA4, kgA4, klA4⟩ := kA4.rules; have kB4 : Bk w4 (w.heap.size + 1) 29 #[.int .i64 b.r.x0, .int .i64 b.r.y0, .int .i64 b.r.x1, .int .i64 b.r.y1, .slice b.A b.n b.c] := (by repeat (first | (with_reducible assumption) | ((with_reducible refine Bk.new _ _ _ ?_); first | (with_reducible rfl) | (simp; done)) | (with_reducible refine Bk.alloc ?_ _) | (with_reducible refine Bk.drew ?_) | (with_reducible refine Bk.drewN ?_ _) | ((with_reducible refine Bk.far ?_ ?_ _); rotate_left; focus (first | (simp; done) | (simp; omega))) | (with_reducible refine Bk.below ?_ (by with_reducible assumption)))); obtain ⟨kcB4, kfB4, kaB4, kgB4, klB4⟩ := kB4.rules
          go_wp2_with fail
          refine (runion_q _ _ _ _ _ _ _ _ U HU' _).mono ?_
          rintro e w5 ⟨rfl, hb5⟩
          clear kcA4 kfA4 kaA4 kgA4 kcB4 kfB4 kaB4 kgB4
          have kA5 : Bk w5 (w.heap.size) 29 #[.int .i64 a.r.x0, .int .i64 a.r.y0, .int .i64 a.r.x1, .int .i64 a.r.y1, .slice a.A a.n a.c] := (by repeat (first | (with_reducible assumption) | ((with_reducible refine Bk.new _ _ _ ?_); first | (with_reducible rfl) | (simp; done)) | (with_reducible refine Bk.alloc ?_ _) | (with_reducible refine Bk.drew ?_) | (with_reducible refine Bk.drewN ?_ _) | ((with_reducible refine Bk.far ?_ ?_ _); rotate_left; focus (first | (simp; done) | (simp; omega))) | (with_reducible refine Bk.below ?_ (by with_reducible assumption)))); obtain ⟨kcA5, kfA5, kaA5, kgA5, klA5⟩ := kA5.rules; have kB5 : Bk w5 (w.heap.size + 1) 29 #[.int .i64 b.r.x0, .int .i64 b.r.y0, .int .i64 b.r.x1, .int .i64 b.r.y1, .slice b.A b.n b.c] := (by repeat (first | (with_reducible assumption) | ((with_reducible refine Bk.new _ _ _ ?_); first | (with_reducible rfl) | (simp; done)) | (with_reducible refine Bk.alloc ?_ _) | (with_reducible refine Bk.drew ?_) | (with_reducible refine Bk.drewN ?_ _) | ((with_reducible refine Bk.far ?_ ?_ _); rotate_left; focus (first | (simp; done) | (simp; omega))) | (with_reducible refine Bk.below ?_ (by with_reducible assumption)))); obtain ⟨kcB5, kfB5, kaB5, kgB5, klB5⟩ := kB5.rules
          go_wp2_with fail
          refine (HAr.out _).mono ?_
          rintro e w6 ⟨rfl, hb6⟩
          clear kcA5 kfA5 kaA5 kgA5 kcB5 kfB5 kaB5 kgB5
          have kA6 : Bk w6 (w.heap.size) 29 #[.int .i64 a.r.x0, .int .i64 a.r.y0, .int .i64 a.r.x1, .int .i64 a.r.y1, .slice a.A a.n a.c] := (by repeat (first | (with_reducible assumption) | ((with_reducible refine Bk.new _ _ _ ?_); first | (with_reducible rfl) | (simp; done)) | (with_reducible refine Bk.alloc ?_ _) | (with_reducible refine Bk.drew ?_) | (with_reducible refine Bk.drewN ?_ _) | ((with_reducible refine Bk.far ?_ ?_ _); rotate_left; focus (first | (simp; done) | (simp; omega))) | (with_reducible refine Bk.below ?_ (by with_reducible assumption)))); obtain ⟨kcA6, kfA6, kaA6, kgA6, klA6⟩ := kA6.rules; have kB6 : Bk w6 (w.heap.size + 1) 29 #[.int .i64 b.r.x0, .int .i64 b.r.y0, .int .i64 b.r.x1, .int .i64 b.r.y1, .slice b.A b.n b.c] := (by repeat (first | (with_reducible assumption) | ((with_reducible refine Bk.new _ _ _ ?_); first | (with_reducible rfl) | (simp; done)) | (with_reducible refine Bk.alloc ?_ _) | (with_reducible refine Bk.drew ?_) | (with_reducible refine Bk.drewN ?_ _) | ((with_reducible refine Bk.far ?_ ?_ _); rotate_left; focus (first | (simp; done) | (simp; omega))) | (with_reducible refine Bk.below ?_ (by with_reducible assumption)))); obtain ⟨kcB6, kfB6, kaB6, kgB6, klB6⟩ := kB6.rules
          go_wp2_with fail
          refine (clone_any a _ (HA.out.below (by repeat (first | (with_reducible exact Below.refl _ _) | (with_reducible refine balloc ?_ _) | (with_reducible refine Below.drew ?_) | (with_reducible refine bdrewN ?_ _) | ((with_reducible refine bset ?_ ?_ _); rotate_left; focus (first | (with_reducible exact Nat.le_refl _) | (simp; done) | (simp; omega) | omega)) | (with_reducible refine bstep (by with_reducible assumption) ?_)))) (by omega)).mono ?_
          rintro e w7 ⟨v7, rfl, ho7, hb7⟩
          clear kcA6 kfA6 kaA6 kgA6 kcB6 kfB6 kaB6 kgB6
          obtain ⟨A7, c7, hv7, hr7, hle7, hmx7⟩ := ho7.form2 encB_len
          rw [HA.out.ln] at hv7 hle7
          subst hv7
          have HOX : Hid (Mk.ok ⟨a.r, A7, a.n, c7, a.l⟩ w7) := ⟨hr7, HA.out.ln, HA.out.byte, hle7, hmx7⟩
          clear hr7 hle7 hmx7 ho7
          
          have kA7 : Bk w7 (w.heap.size) 29 #[.int .i64 a.r.x0, .int .i64 a.r.y0, .int .i64 a.r.x1, .int .i64 a.r.y1, .slice a.A a.n a.c] := (by repeat (first | (with_reducible assumption) | ((with_reducible refine Bk.new _ _ _ ?_); first | (with_reducible rfl) | (simp; done)) | (with_reducible refine Bk.alloc ?_ _) | (with_reducible refine Bk.drew ?_) | (with_reducible refine Bk.drewN ?_ _) | ((with_reducible refine Bk.far ?_ ?_ _); rotate_left; focus (first | (simp; done) | (simp; omega))) | (with_reducible refine Bk.below ?_ (by with_reducible assumption))))
          have kB7 : Bk w7 (w.heap.size + 1) 29 #[.int .i64 b.r.x0, .int .i64 b.r.y0, .int .i64 b.r.x1, .int .i64 b.r.y1, .slice b.A b.n b.c] := (by repeat (first | (with_reducible assumption) | ((with_reducible refine Bk.new _ _ _ ?_); first | (with_reducible rfl) | (simp; done)) | (with_reducible refine Bk.alloc ?_ _) | (with_reducible refine Bk.drew ?_) | (with_reducible refine Bk.drewN ?_ _) | ((with_reducible refine Bk.far ?_ ?_ _); rotate_left; focus (first | (simp; done) | (simp; omega))) | (with_reducible refine Bk.below ?_ (by with_reducible assumption)))); obtain ⟨kcB7, kfB7, kaB7, kgB7, klB7⟩ := kB7.rules
          have kX0 : Bk (w7.alloc (.cells #[.int .i64 a.r.x0, .int .i64 a.r.y0, .int .i64 a.r.x1, .int .i64 a.r.y1, .slice A7 a.n c7] 29)) w7.heap.size 29 #[.int .i64 a.r.x0, .int .i64 a.r.y0, .int .i64 a.r.x1, .int .i64 a.r.y1, .slice A7 a.n c7] := Bk.new _ _ _ rfl
          have hBX : Below w.heap.size w (w7.alloc (.cells #[.int .i64 a.r.x0, .int .i64 a.r.y0, .int .i64 a.r.x1, .int .i64 a.r.y1, .slice A7 a.n c7] 29)) := (by repeat (first | (with_reducible exact Below.refl _ _) | (with_reducible refine balloc ?_ _) | (with_reducible refine Below.drew ?_) | (with_reducible refine bdrewN ?_ _) | ((with_reducible refine bset ?_ ?_ _); rotate_left; focus (first | (with_reducible exact Nat.le_refl _) | (simp; done) | (simp; omega) | omega)) | (with_reducible refine bstep (by with_reducible assumption) ?_)))
          obtain ⟨W, HW⟩ : ∃ W : World, Hid (W = w7.alloc (.cells #[.int .i64 a.r.x0, .int .i64 a.r.y0, .int .i64 a.r.x1, .int .i64 a.r.y1, .slice A7 a.n c7] 29)) := ⟨_, rfl⟩
          have kA0 : Bk W (w.heap.size) 29 #[.int .i64 a.r.x0, .int .i64 a.r.y0, .int .i64 a.r.x1, .int .i64 a.r.y1, .slice a.A a.n a.c] := by rw [HW.out]; exact kA7.alloc _
          have kB0 : Bk W (w.heap.size + 1) 29 #[.int .i64 b.r.x0, .int .i64 b.r.y0, .int .i64 b.r.x1, .int .i64 b.r.y1, .slice b.A b.n b.c] := by rw [HW.out]; exact kB7.alloc _
          rw [← HW.out] at kX0 hBX
          have hox : Mk.ok ⟨a.r, A7, a.n, c7, a.l⟩ W := by rw [HW.out]; exact HOX.out.below (by repeat (first | (with_reducible exact Below.refl _ _) | (with_reducible refine balloc ?_ _) | (with_reducible refine Below.drew ?_) | (with_reducible refine bdrewN ?_ _) | ((with_reducible refine bset ?_ ?_ _); rotate_left; focus (first | (with_reducible exact Nat.le_refl _) | (simp; done) | (simp; omega) | omega)) | (with_reducible refine bstep (by with_reducible assumption) ?_)))
          have HOX' := Lib.hid hox
          have hun := munion_any ⟨a.r, A7, a.n, c7, a.l⟩ b W hox (HB.out.below hBX) (by show a.n ≤ _; omega) (by omega)
          have E1 : unMR ⟨a.r, A7, a.n, c7, a.l⟩ b = R0 := HR0.out
          have E2 : unML ⟨a.r, A7, a.n, c7, a.l⟩ b = L0 := HL0.out
          have E3 : unME ⟨a.r, A7, a.n, c7, a.l⟩ b = e0 := He0.out
          rw [E1, E2, E3] at hun
          have HUN := Lib.hid hun
          rw [HW.out] at HUN
          clear E1 E2 E3 hun hox
          go_wp2_with fail
          refine (HUN.out).mono ?_
          rintro e w8 ⟨v8, rfl, ho8, hb8⟩
          clear kcB7 kfB7 kaB7 kgB7
          rw [← HW.out] at hb8 ho8
          have HOW := Lib.hid ho8
          obtain ⟨A8, c8, hv8, hr8, _⟩ := ho8.form encB_len
          rw [Hn0.out] at hv8
          subst hv8
          have HR8 := Lib.hid hr8
          clear hr8
          clear ho8
          have kM8 : Bk _ _ _ _ := Bk.new w8 29 #[.int .i64 R0.x0, .int .i64 R0.y0, .int .i64 R0.x1, .int .i64 R0.y1, .slice A8 n0 c8] rfl
          have kA8 := kA0.below hb8
          have kB8 := kB0.below hb8
          have kX8 := kX0.below hb8
          have hB8 : Below w.heap.size w w8 := bstep hb8 hBX
          obtain ⟨kcA8, kfA8, kaA8, kgA8, klA8⟩ := kA8.rules
          obtain ⟨kcB8, kfB8, kaB8, kgB8, klB8⟩ := kB8.rules
          go_wp2_with fail
          refine (HRU.out _ (HA.out.below (by repeat (first | (with_reducible exact Below.refl _ _) | (with_reducible refine balloc ?_ _) | (with_reducible refine Below.drew ?_) | (with_reducible refine bdrewN ?_ _) | ((with_reducible refine bset ?_ ?_ _); rotate_left; focus (first | (with_reducible exact Nat.le_refl _) | (simp; done) | (simp; omega) | omega)) | (with_reducible refine bstep (by with_reducible assumption) ?_)))) (HB.out.below (by repeat (first | (with_reducible exact Below.refl _ _) | (with_reducible refine balloc ?_ _) | (with_reducible refine Below.drew ?_) | (with_reducible refine bdrewN ?_ _) | ((with_reducible refine bset ?_ ?_ _); rotate_left; focus (first | (with_reducible exact Nat.le_refl _) | (simp; done) | (simp; omega) | omega)) | (with_reducible refine bstep (by with_reducible assumption) ?_))))).mono ?_
          rintro e w9 ⟨v9, rfl, ho9, hb9⟩
          clear kcA8 kfA8 kaA8 kgA8 kcB8 kfB8 kaB8 kgB8
          obtain ⟨A9, c9, hv9, hr9, _⟩ := ho9.form encB_len
          rw [Hn0.out] at hv9
          subst hv9
          have HR9 := Lib.hid hr9
          clear hr9
          
          have kM9 : Bk w9 (w8.heap.size) 29 #[.int .i64 R0.x0, .int .i64 R0.y0, .int .i64 R0.x1, .int .i64 R0.y1, .slice A8 n0 c8] := (by repeat (first | (with_reducible assumption) | ((with_reducible refine Bk.new _ _ _ ?_); first | (with_reducible rfl) | (simp; done)) | (with_reducible refine Bk.alloc ?_ _) | (with_reducible refine Bk.drew ?_) | (with_reducible refine Bk.drewN ?_ _) | ((with_reducible refine Bk.far ?_ ?_ _); rotate_left; focus (first | (simp; done) | (simp; omega))) | (with_reducible refine Bk.below ?_ (by with_reducible assumption)))); obtain ⟨kcM9, kfM9, kaM9, kgM9, klM9⟩ := kM9.rules
          have kN : Bk w9 (w8.heap.size) 29 #[.int .i64 R0.x0, .int .i64 R0.y0, .int .i64 R0.x1, .int .i64 R0.y1, .slice A8 n0 c8] := (by repeat (first | (with_reducible assumption) | ((with_reducible refine Bk.new _ _ _ ?_); first | (with_reducible rfl) | (simp; done)) | (with_reducible refine Bk.alloc ?_ _) | (with_reducible refine Bk.drew ?_) | (with_reducible refine Bk.drewN ?_ _) | ((with_reducible refine Bk.far ?_ ?_ _); rotate_left; focus (first | (simp; done) | (simp; omega))) | (with_reducible refine Bk.below ?_ (by with_reducible assumption))))
          go_wp2_with fail
          refine (rmequal_any R0 R0 A8 A9 n0 n0 c8 c9 L0 L0 _ (HR8.out.below (by repeat (first | (with_reducible exact Below.refl _ _) | (with_reducible refine balloc ?_ _) | (with_reducible refine Below.drew ?_) | (with_reducible refine bdrewN ?_ _) | ((with_reducible refine bset ?_ ?_ _); rotate_left; focus (first | (with_reducible exact Nat.le_refl _) | (simp; done) | (simp; omega) | omega)) | (with_reducible refine bstep (by with_reducible assumption) ?_)))) (HR9.out.below (by repeat (first | (with_reducible exact Below.refl _ _) | (with_reducible refine balloc ?_ _) | (with_reducible refine Below.drew ?_) | (with_reducible refine bdrewN ?_ _) | ((with_reducible refine bset ?_ ?_ _); rotate_left; focus (first | (with_reducible exact Nat.le_refl _) | (simp; done) | (simp; omega) | omega)) | (with_reducible refine bstep (by with_reducible assumption) ?_)))) Hn0.out Hn0.out (by omega) (by omega) true ⟨fun _ => ⟨rfl, rfl⟩, fun _ => rfl⟩).mono ?_
          rintro e w10 ⟨rfl, hb10⟩
          clear kcM9 kfM9 kaM9 kgM9
          have kM10 : Bk w10 (w8.heap.size) 29 #[.int .i64 R0.x0, .int .i64 R0.y0, .int .i64 R0.x1, .int .i64 R0.y1, .slice A8 n0 c8] := (by repeat (first | (with_reducible assumption) | ((with_reducible refine Bk.new _ _ _ ?_); first | (with_reducible rfl) | (simp; done)) | (with_reducible refine Bk.alloc ?_ _) | (with_reducible refine Bk.drew ?_) | (with_reducible refine Bk.drewN ?_ _) | ((with_reducible refine Bk.far ?_ ?_ _); rotate_left; focus (first | (simp; done) | (simp; omega))) | (with_reducible refine Bk.below ?_ (by with_reducible assumption)))); obtain ⟨kcM10, kfM10, kaM10, kgM10, klM10⟩ := kM10.rules
          have hBWq : Below W.heap.size W w10 := bstep hb10 (balloc (bstep hb9 (balloc hb8 _)) _)
          have hownq := HOW.out.below (show Below w8.heap.size w8 w10 from bstep hb10 (balloc (bstep hb9 (balloc (Below.refl _ _) _)) _))
          go_wp2_with fail
          refine (overwrite_any R0 _ L0 n0 _ _ hownq Hn0 (by omega) A8 c8 rfl).mono ?_
          rintro e w11 ⟨rfl, hg11⟩
          clear kcM10 kfM10 kaM10 kgM10
          have hBWo : Below W.heap.size W w11 := below_grown hownq hg11 hBWq (Nat.le_refl _)
          have hBo : Below w.heap.size w w11 := bstep hBWo hBX
          have kAo := kA0.below hBWo
          have kXo := kX0.below hBWo
          obtain ⟨kcA, kfA, kaA, kgA, klA⟩ := kAo.rules
          obtain ⟨kcX, kfX, kaX, kgX, klX⟩ := kXo.rules
          go_wp2_with fail
          refine (rmequal_any a.r a.r A7 a.A a.n a.n c7 a.c a.l a.l _ (HOX'.out.rd.below hBWo) (HA.out.rd.below hBo) HA.out.ln HA.out.ln (by omega) (by omega) true ⟨fun _ => ⟨rfl, rfl⟩, fun _ => rfl⟩).mono ?_
          rintro e wy ⟨rfl, hby⟩
          have hBy : Below w.heap.size w wy := bstep hby hBo
          clear kcA kfA kaA kgA kcX kfX kaX kgX
          go_wp2_with fail
          refine (ex_any _).mono ?_
          rintro e wz ⟨rfl, hbz⟩
          go_wp2
          go_ret
          exact ⟨rfl, bstep hbz hBy⟩

set_option maxRecDepth 100000 in
theorem lifted_MaskUnion (os : Os) (started : os.Started) (H : Type) (enc : TypeId × Value → H) :
    ReturnsInHanded {} Try.checked os 4 .any (Rows.maskUnionSpec.pre6 enc Try.prog Try.f4 Rows.maskUnionRow.domain false) (Rows.maskUnionSpec.post enc Try.prog Try.f4 false true false false) := by
  refine returnsInHanded_of_change (C := Try.checked) Try.own started (by kernel_rfl) Try.func4
    (ChangeSpec.witness6 (enc := enc) (C := Try.checked) false ⟨#[], #[.agg #[.int .i64 0, .int .i64 0, .int .i64 0, .int .i64 0, .slice none 0 0], .agg #[.int .i64 0, .int .i64 0, .int .i64 0, .int .i64 0, .slice none 0 0]], []⟩ 8 (by kernel_rfl) (by kernel_rfl) (by kernel_rfl) (by kernel_rfl)) ?_
  intro W base args ds gs before hval0 hW hcnd _
  have hval : ∀ (j : Nat) t v, Try.f4.params[j]? = some t → args[j]? = some v → Value.okWide Try.prog W .any base t v := hval0
  have hW' := hW
  obtain ⟨p, q, hA0, hV, rfl, hfz, hnd⟩ := hW
  have hA : DataW.TrodAll enc Try.prog W 0 (fun _ => true) true Try.f4.params.toList args.toList ds p := hA0
  rw [Try.params4] at hA hval
  obtain ⟨v0, vs0, d0, ds0, p0, q0, hargs, rfl, rfl, h0, r0⟩ := trodAll_cons hA
  obtain ⟨v1, vs1, d1, ds1, p1, q1, rfl, rfl, rfl, h1, r1⟩ := trodAll_cons r0
  obtain ⟨rfl, rfl, rfl⟩ := trodAll_nil r1
  obtain rfl : args = #[v0, v1] := by cases args; simp_all
  obtain ⟨b0, rfl, ho0⟩ := openMk (hval 0 29 v0 rfl rfl) h0
  obtain ⟨b1, rfl, ho1⟩ := openMk (hval 1 29 v1 rfl rfl) h1
  refine (walk_MaskUnion b0 b1 W ho0 ho1).mono fun e W' ⟨he, hb⟩ => ?_
  subst he
  exact ⟨_, rfl, law_post (tb := 4) Try.laidOut (by kernel_rfl) hW' rfl rfl Try.underlying4 rfl rfl rfl hb⟩

theorem MaskUnion_holds : Rows.MaskUnionSaid :=
  OpenClaim.holds_of_wide 4 Try.f4 rfl rfl rfl rfl rfl rfl rfl ⟨rfl, rfl, rfl, rfl, rfl⟩ rfl rfl rfl rfl rfl (by kernel_rfl) Try.func4 (by kernel_rfl)
    (of_decide_eq_true (by kernel_rfl)) (by unfold Func.isWrapper; first | (rw [if_pos (by decide +kernel)]; kernel_rfl) | (rw [if_neg (by decide +kernel)]; exact ⟨rfl, rfl⟩))
    (fun os started H enc _ => lifted_MaskUnion os started H enc)
#print axioms MaskUnion_holds
end Go.Proofs.Ytndablijjkchjaa
