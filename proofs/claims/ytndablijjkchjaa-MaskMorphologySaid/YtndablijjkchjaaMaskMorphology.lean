/- MaskMorphology: for every mask and radius the law grisaillelaw21.MaskMorphology returns true. No conditions. -/
import Derived.Test.YtndablijjkchjaaMorA
import Derived.Test.YtndablijjkchjaaRmA
import Derived.Test.YtndablijjkchjaaDt3
import Derived.Test.YtndablijjkchjaaEx21
import Derived.Test.YtndablijjkchjaaOpenM
import Derived.Test.YtndablijjkchjaaPlB
namespace Go.Proofs.Ytndablijjkchjaa
open Go.ChangeShapes Go.WideShapes Go.ChangeAt Go.RowKit
set_option linter.unusedSimpArgs false
set_option linter.unusedVariables false

set_option maxRecDepth 100000 in
set_option maxHeartbeats 6400000 in
theorem walk_MaskMorphology (b : Mk) (n : Int) (w : World) (hb : b.ok w) :
    Calls Try.prog 13 #[.agg #[.int .i64 b.r.x0, .int .i64 b.r.y0, .int .i64 b.r.x1, .int .i64 b.r.y1, .slice b.A b.n b.c], .int .i64 n] w fun e w' => e = .returned (.bool true) ∧ Below w.heap.size w w' := by
  have HB := Lib.hid hb
  clear hb
  cases h1 : decide ((300 : Int) < (b.n : Int)) with
  | true =>
    go_enter Try.func13, Try.ntmps13
    go_wp2_with fail
    refine (ex_any _).mono ?_
    rintro e w1 ⟨rfl, hb1⟩
    go_wp2
    go_ret
    exact ⟨rfl, (by repeat (first | (with_reducible exact Below.refl _ _) | (with_reducible refine balloc ?_ _) | (with_reducible refine Below.drew ?_) | (with_reducible refine bdrewN ?_ _) | ((with_reducible refine bset ?_ ?_ _); rotate_left; focus (first | (with_reducible exact Nat.le_refl _) | (simp; done) | (simp; omega) | omega)) | (with_reducible refine bstep (by with_reducible assumption) ?_)))⟩
  | false =>
    have l1 := of_decide_eq_false h1
    obtain ⟨R0, HR0⟩ : ∃ u, Hid (exR b n = u) := ⟨_, rfl⟩
    obtain ⟨L0, HL0⟩ : ∃ u, Hid (exM 1 b n = u) := ⟨_, rfl⟩
    obtain ⟨E0, HE0⟩ : ∃ u, Hid (exE b n = u) := ⟨_, rfl⟩
    obtain ⟨L1, HL1⟩ : ∃ u, Hid (exM (-1) b n = u) := ⟨_, rfl⟩
    obtain ⟨R2, HR2⟩ : ∃ u, Hid (mpR b = u) := ⟨_, rfl⟩
    obtain ⟨L2, HL2⟩ : ∃ u, Hid (dtL b = u) := ⟨_, rfl⟩
    obtain ⟨E2, HE2⟩ : ∃ u, Hid (mpE b = u) := ⟨_, rfl⟩
    obtain ⟨n0, Hn0⟩ : ∃ u, Hid (L0.length = u) := ⟨_, rfl⟩
    obtain ⟨n1, Hn1⟩ : ∃ u, Hid (L1.length = u) := ⟨_, rfl⟩
    obtain ⟨n2, Hn2⟩ : ∃ u, Hid (L2.length = u) := ⟨_, rfl⟩
    have hbl := HB.out.ln
    have hn0 : n0 ≤ 300 := by rw [← Hn0.out, ← HL0.out]; have := exM_len 1 b n; omega
    have hn1 : n1 ≤ 300 := by rw [← Hn1.out, ← HL1.out]; have := exM_len (-1) b n; omega
    have hn2 : n2 ≤ 300 := by rw [← Hn2.out, ← HL2.out]; have := dtL_len b HB.out.byte; omega
    have HC1 : Hid (∀ (W : World), b.ok W → Calls Try.prog 42 #[.agg #[.int .i64 b.r.x0, .int .i64 b.r.y0, .int .i64 b.r.x1, .int .i64 b.r.y1, .slice b.A b.n b.c], .int .i64 n] W (RetME R0 L0 E0 W)) := fun W h => by
      have := dilate_any b n W h (by omega)
      rw [HR0.out, HL0.out, HE0.out] at this
      exact this
    have HC2 : Hid (∀ (W : World), b.ok W → Calls Try.prog 44 #[.agg #[.int .i64 b.r.x0, .int .i64 b.r.y0, .int .i64 b.r.x1, .int .i64 b.r.y1, .slice b.A b.n b.c], .int .i64 n] W (RetME R0 L0 E0 W)) := fun W h => by
      have := rdilate_any b n W h (by omega)
      rw [HR0.out, HL0.out, HE0.out] at this
      exact this
    have HC3 : Hid (∀ (W : World), b.ok W → Calls Try.prog 43 #[.agg #[.int .i64 b.r.x0, .int .i64 b.r.y0, .int .i64 b.r.x1, .int .i64 b.r.y1, .slice b.A b.n b.c], .int .i64 n] W (RetME R0 L1 E0 W)) := fun W h => by
      have := erode_any b n W h (by omega)
      rw [HR0.out, HL1.out, HE0.out] at this
      exact this
    have HC4 : Hid (∀ (W : World), b.ok W → Calls Try.prog 45 #[.agg #[.int .i64 b.r.x0, .int .i64 b.r.y0, .int .i64 b.r.x1, .int .i64 b.r.y1, .slice b.A b.n b.c], .int .i64 n] W (RetME R0 L1 E0 W)) := fun W h => by
      have := rerode_any b n W h (by omega)
      rw [HR0.out, HL1.out, HE0.out] at this
      exact this
    have HC5 : Hid (∀ (W : World), b.ok W → Calls Try.prog 41 #[.agg #[.int .i64 b.r.x0, .int .i64 b.r.y0, .int .i64 b.r.x1, .int .i64 b.r.y1, .slice b.A b.n b.c]] W (RetME R2 L2 E2 W)) := fun W h => by
      have := dt_any b W h (by omega)
      rw [HR2.out, HL2.out, HE2.out] at this
      exact this
    have HC6 : Hid (∀ (W : World), b.ok W → Calls Try.prog 46 #[.agg #[.int .i64 b.r.x0, .int .i64 b.r.y0, .int .i64 b.r.x1, .int .i64 b.r.y1, .slice b.A b.n b.c]] W (RetME R2 L2 E2 W)) := fun W h => by
      have := rdt_any b W h (by omega)
      rw [HR2.out, HL2.out, HE2.out] at this
      exact this
    clear hbl
    have hee0 : (E0 == E0) = true := by simp
    have hee2 : (E2 == E2) = true := by simp
    go_enter Try.func13, Try.ntmps13
    go_wp2_with fail
    refine (HC1.out _ (HB.out.below (by repeat (first | (with_reducible exact Below.refl _ _) | (with_reducible refine balloc ?_ _) | (with_reducible refine Below.drew ?_) | (with_reducible refine bdrewN ?_ _) | ((with_reducible refine bset ?_ ?_ _); rotate_left; focus (first | (with_reducible exact Nat.le_refl _) | (simp; done) | (simp; omega) | omega)) | (with_reducible refine bstep (by with_reducible assumption) ?_))))).mono ?_
    rintro e w1 ⟨v1, rfl, ho1, hb1⟩
    have kA1 : Bk w1 (w.heap.size) 29 #[.int .i64 b.r.x0, .int .i64 b.r.y0, .int .i64 b.r.x1, .int .i64 b.r.y1, .slice b.A b.n b.c] := (by repeat (first | (with_reducible assumption) | ((with_reducible refine Bk.new _ _ _ ?_); first | (with_reducible rfl) | (simp; done)) | (with_reducible refine Bk.alloc ?_ _) | (with_reducible refine Bk.drew ?_) | (with_reducible refine Bk.drewN ?_ _) | ((with_reducible refine Bk.far ?_ ?_ _); rotate_left; focus (first | (simp; done) | (simp; omega))) | (with_reducible refine Bk.below ?_ (by with_reducible assumption)))); obtain ⟨kcA1, kfA1, kaA1, kgA1, klA1⟩ := kA1.rules
    obtain ⟨A1, c1, hv1, hr1, _⟩ := ho1.form encB_len
    rw [Hn0.out] at hv1
    subst hv1
    have HR1 := Lib.hid hr1
    clear hr1
    clear ho1
    
    go_wp2_with fail
    refine (HC2.out _ (HB.out.below (by repeat (first | (with_reducible exact Below.refl _ _) | (with_reducible refine balloc ?_ _) | (with_reducible refine Below.drew ?_) | (with_reducible refine bdrewN ?_ _) | ((with_reducible refine bset ?_ ?_ _); rotate_left; focus (first | (with_reducible exact Nat.le_refl _) | (simp; done) | (simp; omega) | omega)) | (with_reducible refine bstep (by with_reducible assumption) ?_))))).mono ?_
    rintro e w2 ⟨v2, rfl, ho2, hb2⟩
    clear kcA1 kfA1 kaA1 kgA1
    have kA2 : Bk w2 (w.heap.size) 29 #[.int .i64 b.r.x0, .int .i64 b.r.y0, .int .i64 b.r.x1, .int .i64 b.r.y1, .slice b.A b.n b.c] := (by repeat (first | (with_reducible assumption) | ((with_reducible refine Bk.new _ _ _ ?_); first | (with_reducible rfl) | (simp; done)) | (with_reducible refine Bk.alloc ?_ _) | (with_reducible refine Bk.drew ?_) | (with_reducible refine Bk.drewN ?_ _) | ((with_reducible refine Bk.far ?_ ?_ _); rotate_left; focus (first | (simp; done) | (simp; omega))) | (with_reducible refine Bk.below ?_ (by with_reducible assumption)))); obtain ⟨kcA2, kfA2, kaA2, kgA2, klA2⟩ := kA2.rules
    obtain ⟨A2, c2, hv2, hr2, _⟩ := ho2.form encB_len
    rw [Hn0.out] at hv2
    subst hv2
    have HR2 := Lib.hid hr2
    clear hr2
    clear ho2
    
    go_wp2_with fail
    refine (HC3.out _ (HB.out.below (by repeat (first | (with_reducible exact Below.refl _ _) | (with_reducible refine balloc ?_ _) | (with_reducible refine Below.drew ?_) | (with_reducible refine bdrewN ?_ _) | ((with_reducible refine bset ?_ ?_ _); rotate_left; focus (first | (with_reducible exact Nat.le_refl _) | (simp; done) | (simp; omega) | omega)) | (with_reducible refine bstep (by with_reducible assumption) ?_))))).mono ?_
    rintro e w3 ⟨v3, rfl, ho3, hb3⟩
    clear kcA2 kfA2 kaA2 kgA2
    have kA3 : Bk w3 (w.heap.size) 29 #[.int .i64 b.r.x0, .int .i64 b.r.y0, .int .i64 b.r.x1, .int .i64 b.r.y1, .slice b.A b.n b.c] := (by repeat (first | (with_reducible assumption) | ((with_reducible refine Bk.new _ _ _ ?_); first | (with_reducible rfl) | (simp; done)) | (with_reducible refine Bk.alloc ?_ _) | (with_reducible refine Bk.drew ?_) | (with_reducible refine Bk.drewN ?_ _) | ((with_reducible refine Bk.far ?_ ?_ _); rotate_left; focus (first | (simp; done) | (simp; omega))) | (with_reducible refine Bk.below ?_ (by with_reducible assumption)))); obtain ⟨kcA3, kfA3, kaA3, kgA3, klA3⟩ := kA3.rules
    obtain ⟨A3, c3, hv3, hr3, _⟩ := ho3.form encB_len
    rw [Hn1.out] at hv3
    subst hv3
    have HR3 := Lib.hid hr3
    clear hr3
    clear ho3
    
    go_wp2_with fail
    refine (HC4.out _ (HB.out.below (by repeat (first | (with_reducible exact Below.refl _ _) | (with_reducible refine balloc ?_ _) | (with_reducible refine Below.drew ?_) | (with_reducible refine bdrewN ?_ _) | ((with_reducible refine bset ?_ ?_ _); rotate_left; focus (first | (with_reducible exact Nat.le_refl _) | (simp; done) | (simp; omega) | omega)) | (with_reducible refine bstep (by with_reducible assumption) ?_))))).mono ?_
    rintro e w4 ⟨v4, rfl, ho4, hb4⟩
    clear kcA3 kfA3 kaA3 kgA3
    have kA4 : Bk w4 (w.heap.size) 29 #[.int .i64 b.r.x0, .int .i64 b.r.y0, .int .i64 b.r.x1, .int .i64 b.r.y1, .slice b.A b.n b.c] := (by repeat (first | (with_reducible assumption) | ((with_reducible refine Bk.new _ _ _ ?_); first | (with_reducible rfl) | (simp; done)) | (with_reducible refine Bk.alloc ?_ _) | (with_reducible refine Bk.drew ?_) | (with_reducible refine Bk.drewN ?_ _) | ((with_reducible refine Bk.far ?_ ?_ _); rotate_left; focus (first | (simp; done) | (simp; omega))) | (with_reducible refine Bk.below ?_ (by with_reducible assumption)))); obtain ⟨kcA4, kfA4, kaA4, kgA4, klA4⟩ := kA4.rules
    obtain ⟨A4, c4, hv4, hr4, _⟩ := ho4.form encB_len
    rw [Hn1.out] at hv4
    subst hv4
    have HR4 := Lib.hid hr4
    clear hr4
    clear ho4
    
    go_wp2_with fail
    refine (HC5.out _ (HB.out.below (by repeat (first | (with_reducible exact Below.refl _ _) | (with_reducible refine balloc ?_ _) | (with_reducible refine Below.drew ?_) | (with_reducible refine bdrewN ?_ _) | ((with_reducible refine bset ?_ ?_ _); rotate_left; focus (first | (with_reducible exact Nat.le_refl _) | (simp; done) | (simp; omega) | omega)) | (with_reducible refine bstep (by with_reducible assumption) ?_))))).mono ?_
    rintro e w5 ⟨v5, rfl, ho5, hb5⟩
    clear kcA4 kfA4 kaA4 kgA4
    have kA5 : Bk w5 (w.heap.size) 29 #[.int .i64 b.r.x0, .int .i64 b.r.y0, .int .i64 b.r.x1, .int .i64 b.r.y1, .slice b.A b.n b.c] := (by repeat (first | (with_reducible assumption) | ((with_reducible refine Bk.new _ _ _ ?_); first | (with_reducible rfl) | (simp; done)) | (with_reducible refine Bk.alloc ?_ _) | (with_reducible refine Bk.drew ?_) | (with_reducible refine Bk.drewN ?_ _) | ((with_reducible refine Bk.far ?_ ?_ _); rotate_left; focus (first | (simp; done) | (simp; omega))) | (with_reducible refine Bk.below ?_ (by with_reducible assumption)))); obtain ⟨kcA5, kfA5, kaA5, kgA5, klA5⟩ := kA5.rules
    obtain ⟨A5, c5, hv5, hr5, _⟩ := ho5.form encB_len
    rw [Hn2.out] at hv5
    subst hv5
    have HR5 := Lib.hid hr5
    clear hr5
    clear ho5
    
    go_wp2_with fail
    refine (HC6.out _ (HB.out.below (by repeat (first | (with_reducible exact Below.refl _ _) | (with_reducible refine balloc ?_ _) | (with_reducible refine Below.drew ?_) | (with_reducible refine bdrewN ?_ _) | ((with_reducible refine bset ?_ ?_ _); rotate_left; focus (first | (with_reducible exact Nat.le_refl _) | (simp; done) | (simp; omega) | omega)) | (with_reducible refine bstep (by with_reducible assumption) ?_))))).mono ?_
    rintro e w6 ⟨v6, rfl, ho6, hb6⟩
    clear kcA5 kfA5 kaA5 kgA5
    have kP16 : Bk w6 (w1.heap.size) 29 #[.int .i64 R0.x0, .int .i64 R0.y0, .int .i64 R0.x1, .int .i64 R0.y1, .slice A1 n0 c1] := (by repeat (first | (with_reducible assumption) | ((with_reducible refine Bk.new _ _ _ ?_); first | (with_reducible rfl) | (simp; done)) | (with_reducible refine Bk.alloc ?_ _) | (with_reducible refine Bk.drew ?_) | (with_reducible refine Bk.drewN ?_ _) | ((with_reducible refine Bk.far ?_ ?_ _); rotate_left; focus (first | (simp; done) | (simp; omega))) | (with_reducible refine Bk.below ?_ (by with_reducible assumption)))); obtain ⟨kcP16, kfP16, kaP16, kgP16, klP16⟩ := kP16.rules; have kP26 : Bk w6 (w2.heap.size) 29 #[.int .i64 R0.x0, .int .i64 R0.y0, .int .i64 R0.x1, .int .i64 R0.y1, .slice A2 n0 c2] := (by repeat (first | (with_reducible assumption) | ((with_reducible refine Bk.new _ _ _ ?_); first | (with_reducible rfl) | (simp; done)) | (with_reducible refine Bk.alloc ?_ _) | (with_reducible refine Bk.drew ?_) | (with_reducible refine Bk.drewN ?_ _) | ((with_reducible refine Bk.far ?_ ?_ _); rotate_left; focus (first | (simp; done) | (simp; omega))) | (with_reducible refine Bk.below ?_ (by with_reducible assumption)))); obtain ⟨kcP26, kfP26, kaP26, kgP26, klP26⟩ := kP26.rules
    obtain ⟨A6, c6, hv6, hr6, _⟩ := ho6.form encB_len
    rw [Hn2.out] at hv6
    subst hv6
    have HR6 := Lib.hid hr6
    clear hr6
    clear ho6
    
    go_wp2_with fail
    refine (rmequal_any R0 R0 A1 A2 n0 n0 c1 c2 L0 L0 _ (HR1.out.below (by repeat (first | (with_reducible exact Below.refl _ _) | (with_reducible refine balloc ?_ _) | (with_reducible refine Below.drew ?_) | (with_reducible refine bdrewN ?_ _) | ((with_reducible refine bset ?_ ?_ _); rotate_left; focus (first | (with_reducible exact Nat.le_refl _) | (simp; done) | (simp; omega) | omega)) | (with_reducible refine bstep (by with_reducible assumption) ?_)))) (HR2.out.below (by repeat (first | (with_reducible exact Below.refl _ _) | (with_reducible refine balloc ?_ _) | (with_reducible refine Below.drew ?_) | (with_reducible refine bdrewN ?_ _) | ((with_reducible refine bset ?_ ?_ _); rotate_left; focus (first | (with_reducible exact Nat.le_refl _) | (simp; done) | (simp; omega) | omega)) | (with_reducible refine bstep (by with_reducible assumption) ?_)))) Hn0.out Hn0.out (by omega) (by omega) true ⟨fun _ => ⟨rfl, rfl⟩, fun _ => rfl⟩).mono ?_
    rintro e w7 ⟨rfl, hb7⟩
    clear kcP16 kfP16 kaP16 kgP16 kcP26 kfP26 kaP26 kgP26
    have kP37 : Bk w7 (w3.heap.size) 29 #[.int .i64 R0.x0, .int .i64 R0.y0, .int .i64 R0.x1, .int .i64 R0.y1, .slice A3 n1 c3] := (by repeat (first | (with_reducible assumption) | ((with_reducible refine Bk.new _ _ _ ?_); first | (with_reducible rfl) | (simp; done)) | (with_reducible refine Bk.alloc ?_ _) | (with_reducible refine Bk.drew ?_) | (with_reducible refine Bk.drewN ?_ _) | ((with_reducible refine Bk.far ?_ ?_ _); rotate_left; focus (first | (simp; done) | (simp; omega))) | (with_reducible refine Bk.below ?_ (by with_reducible assumption)))); obtain ⟨kcP37, kfP37, kaP37, kgP37, klP37⟩ := kP37.rules; have kP47 : Bk w7 (w4.heap.size) 29 #[.int .i64 R0.x0, .int .i64 R0.y0, .int .i64 R0.x1, .int .i64 R0.y1, .slice A4 n1 c4] := (by repeat (first | (with_reducible assumption) | ((with_reducible refine Bk.new _ _ _ ?_); first | (with_reducible rfl) | (simp; done)) | (with_reducible refine Bk.alloc ?_ _) | (with_reducible refine Bk.drew ?_) | (with_reducible refine Bk.drewN ?_ _) | ((with_reducible refine Bk.far ?_ ?_ _); rotate_left; focus (first | (simp; done) | (simp; omega))) | (with_reducible refine Bk.below ?_ (by with_reducible assumption)))); obtain ⟨kcP47, kfP47, kaP47, kgP47, klP47⟩ := kP47.rules
    go_wp2_with fail
    refine (rmequal_any R0 R0 A3 A4 n1 n1 c3 c4 L1 L1 _ (HR3.out.below (by repeat (first | (with_reducible exact Below.refl _ _) | (with_reducible refine balloc ?_ _) | (with_reducible refine Below.drew ?_) | (with_reducible refine bdrewN ?_ _) | ((with_reducible refine bset ?_ ?_ _); rotate_left; focus (first | (with_reducible exact Nat.le_refl _) | (simp; done) | (simp; omega) | omega)) | (with_reducible refine bstep (by with_reducible assumption) ?_)))) (HR4.out.below (by repeat (first | (with_reducible exact Below.refl _ _) | (with_reducible refine balloc ?_ _) | (with_reducible refine Below.drew ?_) | (with_reducible refine bdrewN ?_ _) | ((with_reducible refine bset ?_ ?_ _); rotate_left; focus (first | (with_reducible exact Nat.le_refl _) | (simp; done) | (simp; omega) | omega)) | (with_reducible refine bstep (by with_reducible assumption) ?_)))) Hn1.out Hn1.out (by omega) (by omega) true ⟨fun _ => ⟨rfl, rfl⟩, fun _ => rfl⟩).mono ?_
    rintro e w8 ⟨rfl, hb8⟩
    clear kcP37 kfP37 kaP37 kgP37 kcP47 kfP47 kaP47 kgP47
    have kP58 : Bk w8 (w5.heap.size) 29 #[.int .i64 R2.x0, .int .i64 R2.y0, .int .i64 R2.x1, .int .i64 R2.y1, .slice A5 n2 c5] := (by repeat (first | (with_reducible assumption) | ((with_reducible refine Bk.new _ _ _ ?_); first | (with_reducible rfl) | (simp; done)) | (with_reducible refine Bk.alloc ?_ _) | (with_reducible refine Bk.drew ?_) | (with_reducible refine Bk.drewN ?_ _) | ((with_reducible refine Bk.far ?_ ?_ _); rotate_left; focus (first | (simp; done) | (simp; omega))) | (with_reducible refine Bk.below ?_ (by with_reducible assumption)))); obtain ⟨kcP58, kfP58, kaP58, kgP58, klP58⟩ := kP58.rules; have kP68 : Bk w8 (w6.heap.size) 29 #[.int .i64 R2.x0, .int .i64 R2.y0, .int .i64 R2.x1, .int .i64 R2.y1, .slice A6 n2 c6] := (by repeat (first | (with_reducible assumption) | ((with_reducible refine Bk.new _ _ _ ?_); first | (with_reducible rfl) | (simp; done)) | (with_reducible refine Bk.alloc ?_ _) | (with_reducible refine Bk.drew ?_) | (with_reducible refine Bk.drewN ?_ _) | ((with_reducible refine Bk.far ?_ ?_ _); rotate_left; focus (first | (simp; done) | (simp; omega))) | (with_reducible refine Bk.below ?_ (by with_reducible assumption)))); obtain ⟨kcP68, kfP68, kaP68, kgP68, klP68⟩ := kP68.rules
    go_wp2_with fail
    refine (rmequal_any R2 R2 A5 A6 n2 n2 c5 c6 L2 L2 _ (HR5.out.below (by repeat (first | (with_reducible exact Below.refl _ _) | (with_reducible refine balloc ?_ _) | (with_reducible refine Below.drew ?_) | (with_reducible refine bdrewN ?_ _) | ((with_reducible refine bset ?_ ?_ _); rotate_left; focus (first | (with_reducible exact Nat.le_refl _) | (simp; done) | (simp; omega) | omega)) | (with_reducible refine bstep (by with_reducible assumption) ?_)))) (HR6.out.below (by repeat (first | (with_reducible exact Below.refl _ _) | (with_reducible refine balloc ?_ _) | (with_reducible refine Below.drew ?_) | (with_reducible refine bdrewN ?_ _) | ((with_reducible refine bset ?_ ?_ _); rotate_left; focus (first | (with_reducible exact Nat.le_refl _) | (simp; done) | (simp; omega) | omega)) | (with_reducible refine bstep (by with_reducible assumption) ?_)))) Hn2.out Hn2.out (by omega) (by omega) true ⟨fun _ => ⟨rfl, rfl⟩, fun _ => rfl⟩).mono ?_
    rintro e w9 ⟨rfl, hb9⟩
    clear kcP58 kfP58 kaP58 kgP58 kcP68 kfP68 kaP68 kgP68
    go_wp2_with fail
    refine (ex_any _).mono ?_
    rintro e w10 ⟨rfl, hb10⟩
    go_wp2
    go_ret
    exact ⟨rfl, (by repeat (first | (with_reducible exact Below.refl _ _) | (with_reducible refine balloc ?_ _) | (with_reducible refine Below.drew ?_) | (with_reducible refine bdrewN ?_ _) | ((with_reducible refine bset ?_ ?_ _); rotate_left; focus (first | (with_reducible exact Nat.le_refl _) | (simp; done) | (simp; omega) | omega)) | (with_reducible refine bstep (by with_reducible assumption) ?_)))⟩

set_option maxRecDepth 100000 in
theorem lifted_MaskMorphology (os : Os) (started : os.Started) (H : Type) (enc : TypeId × Value → H) :
    ReturnsInHanded {} Try.checked os 13 .any (Rows.maskMorphologySpec.pre6 enc Try.prog Try.f13 Rows.maskMorphologyRow.domain false) (Rows.maskMorphologySpec.post enc Try.prog Try.f13 false true false false) := by
  refine returnsInHanded_of_change (C := Try.checked) Try.own started (by kernel_rfl) Try.func13
    (ChangeSpec.witness6 (enc := enc) (C := Try.checked) false ⟨#[], #[.agg #[.int .i64 0, .int .i64 0, .int .i64 0, .int .i64 0, .slice none 0 0], .int .i64 0], []⟩ 8 (by kernel_rfl) (by kernel_rfl) (by kernel_rfl) (by kernel_rfl)) ?_
  intro W base args ds gs before hval0 hW hcnd _
  have hval : ∀ (j : Nat) t v, Try.f13.params[j]? = some t → args[j]? = some v → Value.okWide Try.prog W .any base t v := hval0
  have hW' := hW
  obtain ⟨p, q, hA0, hV, rfl, hfz, hnd⟩ := hW
  have hA : DataW.TrodAll enc Try.prog W 0 (fun _ => true) true Try.f13.params.toList args.toList ds p := hA0
  rw [Try.params13] at hA hval
  obtain ⟨v0, vs0, d0, ds0, p0, q0, hargs, rfl, rfl, h0, r0⟩ := trodAll_cons hA
  obtain ⟨v1, vs1, d1, ds1, p1, q1, rfl, rfl, rfl, h1, r1⟩ := trodAll_cons r0
  obtain ⟨rfl, rfl, rfl⟩ := trodAll_nil r1
  obtain rfl : args = #[v0, v1] := by cases args; simp_all
  obtain ⟨b0, rfl, ho0⟩ := openMk (hval 0 29 v0 rfl rfl) h0
  obtain ⟨x1, rfl, _, _, g1⟩ := open_int Try.underlying3 (hval 1 3 v1 rfl rfl) h1
  refine (walk_MaskMorphology b0 x1 W ho0).mono fun e W' ⟨he, hb⟩ => ?_
  subst he
  exact ⟨_, rfl, law_post (tb := 4) Try.laidOut (by kernel_rfl) hW' rfl rfl Try.underlying4 rfl rfl rfl hb⟩

theorem MaskMorphology_holds : Rows.MaskMorphologySaid :=
  OpenClaim.holds_of_wide 13 Try.f13 rfl rfl rfl rfl rfl rfl rfl ⟨rfl, rfl, rfl, rfl, rfl⟩ rfl rfl rfl rfl rfl (by kernel_rfl) Try.func13 (by kernel_rfl)
    (of_decide_eq_true (by kernel_rfl)) (by unfold Func.isWrapper; first | (rw [if_pos (by decide +kernel)]; kernel_rfl) | (rw [if_neg (by decide +kernel)]; exact ⟨rfl, rfl⟩))
    (fun os started H enc _ => lifted_MaskMorphology os started H enc)
#print axioms MaskMorphology_holds
end Go.Proofs.Ytndablijjkchjaa
