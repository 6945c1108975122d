/- MaskTransforms: for every mask, value and rectangle the law grisaillelaw21.MaskTransforms returns true. No conditions. -/
import Derived.Test.YtndablijjkchjaaMk7
import Derived.Test.YtndablijjkchjaaMk9
import Derived.Test.YtndablijjkchjaaMk9b
import Derived.Test.YtndablijjkchjaaEx21
import Derived.Test.YtndablijjkchjaaOpenM
import Derived.Test.YtndablijjkchjaaMkClone
import Derived.Test.YtndablijjkchjaaList4
namespace Go.Proofs.Ytndablijjkchjaa
open Go.ChangeShapes Go.WideShapes Go.ChangeAt Go.RowKit
set_option linter.unusedSimpArgs false
set_option linter.unusedVariables false
theorem OwnL.grownLow {α : Type} {enc : α → List Value} {e : TypeId} {sz : Nat} {w w' : World} {base : Nat} {v : Value} {l : List α} (ho : OwnL enc e sz w base v l) {row : Option Nat} (hg : w.grownBy w' row) (hr : ∀ k, row = some k → k < base) : OwnL enc e sz w' base v l := by
  refine ⟨ho.1, ?_⟩
  rcases ho.2 with h2 | ⟨g, cap, cur, hv, hbg, hh, r⟩
  · exact Or.inl h2
  · exact Or.inr ⟨g, cap, cur, hv, hbg, (hg.block g (Array.getElem?_eq_some_iff.1 hh).1 (fun h => by have := hr g h.symm; omega)).trans hh, r⟩
theorem mp_len (F : Int → Int) (b : Mk) : (mpL F b).length ≤ b.l.length := by
  unfold mpL; split <;> simp
theorem cr_len (b : Mk) (r : Rc) : (crML b r).length ≤ 67108864 := by
  unfold crML
  split
  · have h3 := pix_len (atL 0 b.r b.l) (interR b.r r)
    rw [inter_cn] at h3
    have := (area_bd (interR b.r r)).2
    omega
  · simp

set_option maxHeartbeats 6400000 in
theorem walk_MaskTransforms (b : Mk) (k : Int) (r : Rc) (w : World) (hb : b.ok w) (hk : 0 ≤ k ∧ k ≤ 255) :
    Calls Try.prog 8 #[.agg #[.int .i64 b.r.x0, .int .i64 b.r.y0, .int .i64 b.r.x1, .int .i64 b.r.y1, .slice b.A b.n b.c], .int .u8 k, .agg #[.int .i64 r.x0, .int .i64 r.y0, .int .i64 r.x1, .int .i64 r.y1]] w fun e w' => e = .returned (.bool true) ∧ Below w.heap.size w w' := by
  have HB := Lib.hid hb
  clear hb
  cases h1 : decide (b.n ≤ 3000) with
  | false =>
    have HSb := Lib.hid h1
    clear h1
    go_enter Try.func8, Try.ntmps8
    go_wp2_with fail
    refine (small_any b.r b.A b.n b.c _ false HSb).mono ?_
    rintro e w1 ⟨rfl, hb1⟩
    go_wp2_with fail
    refine (ex_any _).mono ?_
    rintro e w2 ⟨rfl, hb2⟩
    go_wp2
    go_ret
    exact ⟨rfl, (by repeat (first | (with_reducible exact Below.refl _ _) | (with_reducible refine balloc ?_ _) | (with_reducible refine Below.drew ?_) | (with_reducible refine bdrewN ?_ _) | ((with_reducible refine bset ?_ ?_ _); rotate_left; focus (first | (with_reducible exact Nat.le_refl _) | (simp; done) | (simp; omega) | omega)) | (with_reducible refine bstep (by with_reducible assumption) ?_)))⟩
  | true =>
    have HSb := Lib.hid h1
    have l1 := of_decide_eq_true h1
    clear h1
    obtain ⟨RI, HRI⟩ : ∃ u, Hid (mpR b = u) := ⟨_, rfl⟩
    obtain ⟨LI, HLI⟩ : ∃ u, Hid (mpL invF b = u) := ⟨_, rfl⟩
    obtain ⟨eI, HeI⟩ : ∃ u, Hid (mpE b = u) := ⟨_, rfl⟩
    obtain ⟨nI, HnI⟩ : ∃ u, Hid (LI.length = u) := ⟨_, rfl⟩
    have heeI : (eI != eI) = false := by simp
    obtain ⟨RS, HRS⟩ : ∃ u, Hid (mpR b = u) := ⟨_, rfl⟩
    obtain ⟨LS, HLS⟩ : ∃ u, Hid (mpL (sclF k) b = u) := ⟨_, rfl⟩
    obtain ⟨eS, HeS⟩ : ∃ u, Hid (mpE b = u) := ⟨_, rfl⟩
    obtain ⟨nS, HnS⟩ : ∃ u, Hid (LS.length = u) := ⟨_, rfl⟩
    have heeS : (eS != eS) = false := by simp
    obtain ⟨RC, HRC⟩ : ∃ u, Hid (crMR b r = u) := ⟨_, rfl⟩
    obtain ⟨LC, HLC⟩ : ∃ u, Hid (crML b r = u) := ⟨_, rfl⟩
    obtain ⟨eC, HeC⟩ : ∃ u, Hid (crME b = u) := ⟨_, rfl⟩
    obtain ⟨nC, HnC⟩ : ∃ u, Hid (LC.length = u) := ⟨_, rfl⟩
    have heeC : (eC != eC) = false := by simp
    have hnI : nI ≤ 3000 := by rw [← HnI.out, ← HLI.out]; exact Nat.le_trans (mp_len _ _) (by rw [HB.out.ln]; exact l1)
    have hnS : nS ≤ 3000 := by rw [← HnS.out, ← HLS.out]; exact Nat.le_trans (mp_len _ _) (by rw [HB.out.ln]; exact l1)
    have hnC : nC ≤ 67108864 := by rw [← HnC.out, ← HLC.out]; exact cr_len _ _
    have i1 : ∀ (A : Option Addr) (c : Nat) (W : World) (h : Mk.ok ⟨b.r, A, b.n, c, b.l⟩ W), Calls Try.prog 31 #[.agg #[.int .i64 b.r.x0, .int .i64 b.r.y0, .int .i64 b.r.x1, .int .i64 b.r.y1, .slice A b.n c]] W (RetME RI LI eI W) := fun A c W h => by
      rw [← HRI.out, ← HLI.out, ← HeI.out]; exact minvert_any ⟨b.r, A, b.n, c, b.l⟩ W h (by show b.n ≤ _; omega)
    have i2 := fun W (h : b.ok W) => rminvert_any b.r b.A b.n b.c b.l W h.rd h.ln h.byte (by omega)
    have i3 : ∀ (A : Option Addr) (c : Nat) (W : World) (h : Mk.ok ⟨b.r, A, b.n, c, b.l⟩ W), Calls Try.prog 34 #[.agg #[.int .i64 b.r.x0, .int .i64 b.r.y0, .int .i64 b.r.x1, .int .i64 b.r.y1, .slice A b.n c], .int .u8 k] W (RetME RS LS eS W) := fun A c W h => by
      rw [← HRS.out, ← HLS.out, ← HeS.out]; exact mscale_any ⟨b.r, A, b.n, c, b.l⟩ k W h (by show b.n ≤ _; omega) hk.1 hk.2
    have i4 := fun W (h : b.ok W) => rmscale_any b.r b.A b.n b.c b.l k W h.rd h.ln h.byte (by omega) hk.1 hk.2
    have i5 : ∀ (A : Option Addr) (c : Nat) (W : World) (h : Mk.ok ⟨b.r, A, b.n, c, b.l⟩ W), Calls Try.prog 28 #[.agg #[.int .i64 b.r.x0, .int .i64 b.r.y0, .int .i64 b.r.x1, .int .i64 b.r.y1, .slice A b.n c], .agg #[.int .i64 r.x0, .int .i64 r.y0, .int .i64 r.x1, .int .i64 r.y1]] W (RetME RC LC eC W) := fun A c W h => by
      rw [← HRC.out, ← HLC.out, ← HeC.out]; exact mcrop_any ⟨b.r, A, b.n, c, b.l⟩ r W h (by show b.n ≤ _; omega)
    have i6 := fun W (h : b.ok W) => rmcrop_any b r W h (by omega)
    change ∀ W, b.ok W → Calls _ _ _ W (RetME (mpR b) (mpL invF b) (mpE b) W) at i2
    change ∀ W, b.ok W → Calls _ _ _ W (RetME (mpR b) (mpL (sclF k) b) (mpE b) W) at i4
    rw [HRI.out, HLI.out, HeI.out] at i2
    rw [HRS.out, HLS.out, HeS.out] at i4
    rw [HRC.out, HLC.out, HeC.out] at i6
    have HI := Lib.hid i1
    have HI' := Lib.hid i2
    have HS := Lib.hid i3
    have HS' := Lib.hid i4
    have HC := Lib.hid i5
    have HC' := Lib.hid i6
    clear i1 i2 i3 i4 i5 i6 hk
    go_enter Try.func8, Try.ntmps8
    go_wp2_with fail
    refine (small_any b.r b.A b.n b.c _ true HSb).mono ?_
    rintro e w1 ⟨rfl, hb1⟩
    have kM1 : Bk w1 (w.heap.size) 29 #[.int .i64 b.r.x0, .int .i64 b.r.y0, .int .i64 b.r.x1, .int .i64 b.r.y1, .slice b.A b.n b.c] := (by repeat (first | (with_reducible assumption) | ((with_reducible refine Bk.new _ _ _ ?_); first | (with_reducible rfl) | (simp; done)) | (with_reducible refine Bk.alloc ?_ _) | (with_reducible refine Bk.drew ?_) | (with_reducible refine Bk.drewN ?_ _) | ((with_reducible refine Bk.far ?_ ?_ _); rotate_left; focus (first | (simp; done) | (simp; omega))) | (with_reducible refine Bk.below ?_ (by with_reducible assumption)))); obtain ⟨kcM1, kfM1, kaM1, kgM1, klM1⟩ := kM1.rules
    go_wp2_with fail
    refine (clone_any b _ (HB.out.below (by repeat (first | (with_reducible exact Below.refl _ _) | (with_reducible refine balloc ?_ _) | (with_reducible refine Below.drew ?_) | (with_reducible refine bdrewN ?_ _) | ((with_reducible refine bset ?_ ?_ _); rotate_left; focus (first | (with_reducible exact Nat.le_refl _) | (simp; done) | (simp; omega) | omega)) | (with_reducible refine bstep (by with_reducible assumption) ?_)))) (by omega)).mono ?_
    rintro e w2 ⟨v2, rfl, ho2, hb2⟩
    clear kcM1 kfM1 kaM1 kgM1
    obtain ⟨A2, c2, hv2, hr2, hle2, hmx2⟩ := ho2.form2 encB_len
    rw [HB.out.ln] at hv2 hle2
    subst hv2
    have HOX : Hid (Mk.ok ⟨b.r, A2, b.n, c2, b.l⟩ w2) := ⟨hr2, HB.out.ln, HB.out.byte, hle2, hmx2⟩
    clear hr2 hle2 hmx2 ho2
    
    have kM2 : Bk w2 (w.heap.size) 29 #[.int .i64 b.r.x0, .int .i64 b.r.y0, .int .i64 b.r.x1, .int .i64 b.r.y1, .slice b.A b.n b.c] := (by repeat (first | (with_reducible assumption) | ((with_reducible refine Bk.new _ _ _ ?_); first | (with_reducible rfl) | (simp; done)) | (with_reducible refine Bk.alloc ?_ _) | (with_reducible refine Bk.drew ?_) | (with_reducible refine Bk.drewN ?_ _) | ((with_reducible refine Bk.far ?_ ?_ _); rotate_left; focus (first | (simp; done) | (simp; omega))) | (with_reducible refine Bk.below ?_ (by with_reducible assumption)))); obtain ⟨kcM2, kfM2, kaM2, kgM2, klM2⟩ := kM2.rules
    have kR2 : Bk w2 (w.heap.size + 1) 26 #[.int .i64 r.x0, .int .i64 r.y0, .int .i64 r.x1, .int .i64 r.y1] := (by repeat (first | (with_reducible assumption) | ((with_reducible refine Bk.new _ _ _ ?_); first | (with_reducible rfl) | (simp; done)) | (with_reducible refine Bk.alloc ?_ _) | (with_reducible refine Bk.drew ?_) | (with_reducible refine Bk.drewN ?_ _) | ((with_reducible refine Bk.far ?_ ?_ _); rotate_left; focus (first | (simp; done) | (simp; omega))) | (with_reducible refine Bk.below ?_ (by with_reducible assumption))))
    clear kcM2 kfM2 kaM2 kgM2
    have hB2 : Below w.heap.size w w2 := (by repeat (first | (with_reducible exact Below.refl _ _) | (with_reducible refine balloc ?_ _) | (with_reducible refine Below.drew ?_) | (with_reducible refine bdrewN ?_ _) | ((with_reducible refine bset ?_ ?_ _); rotate_left; focus (first | (with_reducible exact Nat.le_refl _) | (simp; done) | (simp; omega) | omega)) | (with_reducible refine bstep (by with_reducible assumption) ?_)))
    obtain ⟨W, HW⟩ : ∃ W : World, Hid (W = w2.alloc (.cells #[.int .i64 b.r.x0, .int .i64 b.r.y0, .int .i64 b.r.x1, .int .i64 b.r.y1, .slice A2 b.n c2] 29)) := ⟨_, rfl⟩
    have kMW : Bk W (w.heap.size) 29 #[.int .i64 b.r.x0, .int .i64 b.r.y0, .int .i64 b.r.x1, .int .i64 b.r.y1, .slice b.A b.n b.c] := by rw [HW.out]; exact kM2.alloc _
    have kRW : Bk W (w.heap.size + 1) 26 #[.int .i64 r.x0, .int .i64 r.y0, .int .i64 r.x1, .int .i64 r.y1] := by rw [HW.out]; exact kR2.alloc _
    have kXW : Bk W (w2.heap.size) 29 #[.int .i64 b.r.x0, .int .i64 b.r.y0, .int .i64 b.r.x1, .int .i64 b.r.y1, .slice A2 b.n c2] := by rw [HW.out]; exact Bk.new _ _ _ rfl
    have hBW : Below w.heap.size w W := by rw [HW.out]; exact balloc hB2 _
    have hox : Mk.ok ⟨b.r, A2, b.n, c2, b.l⟩ W := by rw [HW.out]; exact HOX.out.below (balloc (Below.refl _ _) _)
    have HXW := Lib.hid hox
    clear hox
    have hI3 := HI.out _ _ W HXW.out
    rw [HW.out] at hI3
    have HI3 := Lib.hid hI3
    clear hI3
    go_wp2_with fail
    refine HI3.out.mono ?_
    rintro e w3 ⟨v3, rfl, ho3, hb3⟩
    rw [← HW.out] at hb3 ho3
    have hWb3 : Below W.heap.size W w3 := hb3
    have HO3 := Lib.hid ho3
    obtain ⟨A3, c3, hv3, hr3, _⟩ := ho3.form encB_len
    rw [HnI.out] at hv3
    subst hv3
    have HR3 := Lib.hid hr3
    clear hr3
    clear ho3
    obtain ⟨kcM, kfM, kaM, kgM, klM⟩ := (kMW.below hWb3).rules
    go_wp2_with fail
    refine (HI'.out _ (HB.out.below (bstep (balloc (Below.refl _ _) _) (bstep hWb3 hBW)))).mono ?_
    rintro e w4 ⟨v4, rfl, ho4, hb4⟩
    have hWb4 : Below W.heap.size W w4 := bstep hb4 (balloc hWb3 _)
    clear kcM kfM kaM kgM klM
    have HO4 := Lib.hid ho4
    obtain ⟨A4, c4, hv4, hr4, _⟩ := ho4.form encB_len
    rw [HnI.out] at hv4
    subst hv4
    have HR4 := Lib.hid hr4
    clear hr4
    clear ho4
    obtain ⟨kcX, kfX, kaX, kgX, klX⟩ := (kXW.below hWb4).rules
    go_wp2_with fail
    refine (HS.out _ _ _ (HXW.out.below (bstep (balloc (Below.refl _ _) _) hWb4))).mono ?_
    rintro e w5 ⟨v5, rfl, ho5, hb5⟩
    have hWb5 : Below W.heap.size W w5 := bstep hb5 (balloc hWb4 _)
    clear kcX kfX kaX kgX klX
    have HO5 := Lib.hid ho5
    obtain ⟨A5, c5, hv5, hr5, _⟩ := ho5.form encB_len
    rw [HnS.out] at hv5
    subst hv5
    have HR5 := Lib.hid hr5
    clear hr5
    clear ho5
    obtain ⟨kcM, kfM, kaM, kgM, klM⟩ := (kMW.below hWb5).rules
    go_wp2_with fail
    refine (HS'.out _ (HB.out.below (bstep (balloc (Below.refl _ _) _) (bstep hWb5 hBW)))).mono ?_
    rintro e w6 ⟨v6, rfl, ho6, hb6⟩
    have hWb6 : Below W.heap.size W w6 := bstep hb6 (balloc hWb5 _)
    clear kcM kfM kaM kgM klM
    have HO6 := Lib.hid ho6
    obtain ⟨A6, c6, hv6, hr6, _⟩ := ho6.form encB_len
    rw [HnS.out] at hv6
    subst hv6
    have HR6 := Lib.hid hr6
    clear hr6
    clear ho6
    obtain ⟨kcX, kfX, kaX, kgX, klX⟩ := (kXW.below hWb6).rules
    obtain ⟨kcR, kfR, kaR, kgR, klR⟩ := (kRW.below hWb6).rules
    go_wp2_with fail
    refine (HC.out _ _ _ (HXW.out.below (bstep (balloc (Below.refl _ _) _) hWb6))).mono ?_
    rintro e w7 ⟨v7, rfl, ho7, hb7⟩
    have hWb7 : Below W.heap.size W w7 := bstep hb7 (balloc hWb6 _)
    clear kcX kfX kaX kgX klX kcR kfR kaR kgR klR
    have HO7 := Lib.hid ho7
    obtain ⟨A7, c7, hv7, hr7, _⟩ := ho7.form encB_len
    rw [HnC.out] at hv7
    subst hv7
    have HR7 := Lib.hid hr7
    clear hr7
    clear ho7
    obtain ⟨kcM, kfM, kaM, kgM, klM⟩ := (kMW.below hWb7).rules
    obtain ⟨kcR, kfR, kaR, kgR, klR⟩ := (kRW.below hWb7).rules
    go_wp2_with fail
    refine (HC'.out _ (HB.out.below (bstep (balloc (Below.refl _ _) _) (bstep hWb7 hBW)))).mono ?_
    rintro e w8 ⟨v8, rfl, ho8, hb8⟩
    have hWb8 : Below W.heap.size W w8 := bstep hb8 (balloc hWb7 _)
    clear kcM kfM kaM kgM klM kcR kfR kaR kgR klR
    have HO8 := Lib.hid ho8
    obtain ⟨A8, c8, hv8, hr8, _⟩ := ho8.form encB_len
    rw [HnC.out] at hv8
    subst hv8
    have HR8 := Lib.hid hr8
    clear hr8
    clear ho8
    
    have kT3 : Bk w8 (w3.heap.size) 29 #[.int .i64 RI.x0, .int .i64 RI.y0, .int .i64 RI.x1, .int .i64 RI.y1, .slice A3 nI c3] := ((((((((((Bk.new w3 29 #[.int .i64 RI.x0, .int .i64 RI.y0, .int .i64 RI.x1, .int .i64 RI.y1, .slice A3 nI c3] rfl).below hb4).alloc _).below hb5).alloc _).below hb6).alloc _).below hb7).alloc _).below hb8)
    have kT4 : Bk w8 (w4.heap.size) 29 #[.int .i64 RI.x0, .int .i64 RI.y0, .int .i64 RI.x1, .int .i64 RI.y1, .slice A4 nI c4] := ((((((((Bk.new w4 29 #[.int .i64 RI.x0, .int .i64 RI.y0, .int .i64 RI.x1, .int .i64 RI.y1, .slice A4 nI c4] rfl).below hb5).alloc _).below hb6).alloc _).below hb7).alloc _).below hb8)
    have kT5 : Bk w8 (w5.heap.size) 29 #[.int .i64 RS.x0, .int .i64 RS.y0, .int .i64 RS.x1, .int .i64 RS.y1, .slice A5 nS c5] := ((((((Bk.new w5 29 #[.int .i64 RS.x0, .int .i64 RS.y0, .int .i64 RS.x1, .int .i64 RS.y1, .slice A5 nS c5] rfl).below hb6).alloc _).below hb7).alloc _).below hb8)
    have kT6 : Bk w8 (w6.heap.size) 29 #[.int .i64 RS.x0, .int .i64 RS.y0, .int .i64 RS.x1, .int .i64 RS.y1, .slice A6 nS c6] := ((((Bk.new w6 29 #[.int .i64 RS.x0, .int .i64 RS.y0, .int .i64 RS.x1, .int .i64 RS.y1, .slice A6 nS c6] rfl).below hb7).alloc _).below hb8)
    have kT7 : Bk w8 (w7.heap.size) 29 #[.int .i64 RC.x0, .int .i64 RC.y0, .int .i64 RC.x1, .int .i64 RC.y1, .slice A7 nC c7] := ((Bk.new w7 29 #[.int .i64 RC.x0, .int .i64 RC.y0, .int .i64 RC.x1, .int .i64 RC.y1, .slice A7 nC c7] rfl).below hb8)
    obtain ⟨kc3, kf3, ka3, kg3, kl3⟩ := kT3.rules
    obtain ⟨kc4, kf4, ka4, kg4, kl4⟩ := kT4.rules
    have kT8 : Bk (w8.alloc (.cells #[.int .i64 RC.x0, .int .i64 RC.y0, .int .i64 RC.x1, .int .i64 RC.y1, .slice A8 nC c8] 29)) (w8.heap.size) 29 #[.int .i64 RC.x0, .int .i64 RC.y0, .int .i64 RC.x1, .int .i64 RC.y1, .slice A8 nC c8] := Bk.new _ _ _ rfl
    go_wp2_with fail
    refine (rmequal_any RI RI A3 A4 nI nI c3 c4 LI LI _ (HR3.out.below (balloc (bstep hb8 (balloc (bstep hb7 (balloc (bstep hb6 (balloc (bstep hb5 (balloc (bstep hb4 (balloc (Below.refl _ _) _)) _)) _)) _)) _)) _)) (HR4.out.below (balloc (bstep hb8 (balloc (bstep hb7 (balloc (bstep hb6 (balloc (bstep hb5 (balloc (Below.refl _ _) _)) _)) _)) _)) _)) HnI.out HnI.out (by omega) (by omega) true ⟨fun _ => ⟨rfl, rfl⟩, fun _ => rfl⟩).mono ?_
    rintro e w9 ⟨rfl, hb9⟩
    clear kc3 kf3 ka3 kg3 kl3 kc4 kf4 ka4 kg4 kl4
    have kT5_9 : Bk w9 (w5.heap.size) 29 #[.int .i64 RS.x0, .int .i64 RS.y0, .int .i64 RS.x1, .int .i64 RS.y1, .slice A5 nS c5] := ((kT5.alloc _).below hb9)
    obtain ⟨kc5, kf5, ka5, kg5, kl5⟩ := kT5_9.rules
    have kT6_9 : Bk w9 (w6.heap.size) 29 #[.int .i64 RS.x0, .int .i64 RS.y0, .int .i64 RS.x1, .int .i64 RS.y1, .slice A6 nS c6] := ((kT6.alloc _).below hb9)
    obtain ⟨kc6, kf6, ka6, kg6, kl6⟩ := kT6_9.rules
    go_wp2_with fail
    refine (rmequal_any RS RS A5 A6 nS nS c5 c6 LS LS _ (HR5.out.below (bstep hb9 (balloc (bstep hb8 (balloc (bstep hb7 (balloc (bstep hb6 (balloc (Below.refl _ _) _)) _)) _)) _))) (HR6.out.below (bstep hb9 (balloc (bstep hb8 (balloc (bstep hb7 (balloc (Below.refl _ _) _)) _)) _))) HnS.out HnS.out (by omega) (by omega) true ⟨fun _ => ⟨rfl, rfl⟩, fun _ => rfl⟩).mono ?_
    rintro e w10 ⟨rfl, hb10⟩
    clear kc5 kf5 ka5 kg5 kl5 kc6 kf6 ka6 kg6 kl6
    have kT7_10 : Bk w10 (w7.heap.size) 29 #[.int .i64 RC.x0, .int .i64 RC.y0, .int .i64 RC.x1, .int .i64 RC.y1, .slice A7 nC c7] := (((kT7.alloc _).below hb9).below hb10)
    obtain ⟨kc7, kf7, ka7, kg7, kl7⟩ := kT7_10.rules
    have kT8_10 : Bk w10 (w8.heap.size) 29 #[.int .i64 RC.x0, .int .i64 RC.y0, .int .i64 RC.x1, .int .i64 RC.y1, .slice A8 nC c8] := ((kT8.below hb9).below hb10)
    obtain ⟨kc8, kf8, ka8, kg8, kl8⟩ := kT8_10.rules
    go_wp2_with fail
    refine (rmequal_any RC RC A7 A8 nC nC c7 c8 LC LC _ (HR7.out.below (bstep hb10 (bstep hb9 (balloc (bstep hb8 (balloc (Below.refl _ _) _)) _)))) (HR8.out.below (bstep hb10 (bstep hb9 (balloc (Below.refl _ _) _)))) HnC.out HnC.out (by omega) (by omega) true ⟨fun _ => ⟨rfl, rfl⟩, fun _ => rfl⟩).mono ?_
    rintro e w11 ⟨rfl, hb11⟩
    clear kc7 kf7 ka7 kg7 kl7 kc8 kf8 ka8 kg8 kl8
    have kT3_11 : Bk w11 (w3.heap.size) 29 #[.int .i64 RI.x0, .int .i64 RI.y0, .int .i64 RI.x1, .int .i64 RI.y1, .slice A3 nI c3] := ((((kT3.alloc _).below hb9).below hb10).below hb11)
    obtain ⟨kc3, kf3, ka3, kg3, kl3⟩ := kT3_11.rules
    have hb811 : Below w8.heap.size w8 w11 := bstep hb11 (bstep hb10 (bstep hb9 (balloc (Below.refl _ _) _)))
    have hWb11 : Below W.heap.size W w11 := bstep hb811 hWb8
    have hk3 : Below w3.heap.size w3 w11 := bstep hb811 (bstep hb8 (balloc (bstep hb7 (balloc (bstep hb6 (balloc (bstep hb5 (balloc (bstep hb4 (balloc (Below.refl _ _) _)) _)) _)) _)) _))
    have o3_11 := HO3.out.below hk3
    have s3 : w3.heap.size ≤ w11.heap.size := hk3.size
    have hk5 : Below w5.heap.size w5 w11 := bstep hb811 (bstep hb8 (balloc (bstep hb7 (balloc (bstep hb6 (balloc (Below.refl _ _) _)) _)) _))
    have o5_11 := HO5.out.below hk5
    have s5 : w5.heap.size ≤ w11.heap.size := hk5.size
    have hk7 : Below w7.heap.size w7 w11 := bstep hb811 (bstep hb8 (balloc (Below.refl _ _) _))
    have o7_11 := HO7.out.below hk7
    have s7 : w7.heap.size ≤ w11.heap.size := hk7.size
    have kT5_11 : Bk w11 (w5.heap.size) 29 #[.int .i64 RS.x0, .int .i64 RS.y0, .int .i64 RS.x1, .int .i64 RS.y1, .slice A5 nS c5] := (((kT5.alloc _).below hb9).below hb10).below hb11
    have kT7_11 : Bk w11 (w7.heap.size) 29 #[.int .i64 RC.x0, .int .i64 RC.y0, .int .i64 RC.x1, .int .i64 RC.y1, .slice A7 nC c7] := (((kT7.alloc _).below hb9).below hb10).below hb11
    clear hb811 hk3 hk5 hk7
    go_wp2_with fail
    refine (overwrite_any RI _ LI nI _ _ o3_11 HnI (by omega) A3 c3 rfl).mono ?_
    rintro e w12 ⟨rfl, hg12⟩
    have low3 : ∀ k, (Value.slice A3 nI c3).ownBlock = some k → k < w3.heap.size := fun k hk => (World.ownsRow.lt HO3.out k hk).2
    have hWb12 : Below W.heap.size W w12 := below_grown o3_11 hg12 hWb11 (Nat.le_refl _)
    have kT5_12 := kT5_11.grown hg12 (o3_11.neBk kT5_11 (by decide))
    have kT7_12 := kT7_11.grown hg12 (o3_11.neBk kT7_11 (by decide))
    have z34 : w3.heap.size ≤ w4.heap.size := by have := hb4.size; simp at this; omega
    have z45 : w4.heap.size ≤ w5.heap.size := by have := hb5.size; simp at this; omega
    have z56 : w5.heap.size ≤ w6.heap.size := by have := hb6.size; simp at this; omega
    have o5_12 := o5_11.grownLow hg12 (fun k hk => by have := low3 k hk; simp; omega)
    have o7_12 := o7_11.grownLow hg12 (fun k hk => by have := low3 k hk; simp; omega)
    clear kc3 kf3 ka3 kg3 kl3
    obtain ⟨kc5, kf5, ka5, kg5, kl5⟩ := kT5_12.rules
    go_wp2_with fail
    refine (overwrite_any RS _ LS nS _ _ o5_12 HnS (by omega) A5 c5 rfl).mono ?_
    rintro e w13 ⟨rfl, hg13⟩
    have low5 : ∀ k, (Value.slice A5 nS c5).ownBlock = some k → k < w5.heap.size := fun k hk => (World.ownsRow.lt HO5.out k hk).2
    have z04 : W.heap.size ≤ w4.heap.size := hWb4.size
    have z06 : W.heap.size ≤ w6.heap.size := hWb6.size
    have hWb13 : Below W.heap.size W w13 := below_grown o5_12 hg13 hWb12 (by simp; omega)
    have kT7_13 := kT7_12.grown hg13 (o5_12.neBk kT7_12 (by decide))
    have o7_13 := o7_12.grownLow hg13 (fun k hk => by have := low5 k hk; simp; omega)
    clear kc5 kf5 ka5 kg5 kl5
    obtain ⟨kc7, kf7, ka7, kg7, kl7⟩ := kT7_13.rules
    go_wp2_with fail
    refine (overwrite_any RC _ LC nC _ _ o7_13 HnC (by omega) A7 c7 rfl).mono ?_
    rintro e w14 ⟨rfl, hg14⟩
    have hWb14 : Below W.heap.size W w14 := below_grown o7_13 hg14 hWb13 (by simp; omega)
    have hB14 : Below w.heap.size w w14 := bstep hWb14 hBW
    clear kc7 kf7 ka7 kg7 kl7
    obtain ⟨kcX, kfX, kaX, kgX, klX⟩ := (kXW.below hWb14).rules
    obtain ⟨kcM, kfM, kaM, kgM, klM⟩ := (kMW.below hWb14).rules
    go_wp2_with fail
    refine (rmequal_any b.r b.r A2 b.A b.n b.n c2 b.c b.l b.l _ (HXW.out.rd.below hWb14) (HB.out.rd.below hB14) HB.out.ln HB.out.ln (by omega) (by omega) true ⟨fun _ => ⟨rfl, rfl⟩, fun _ => rfl⟩).mono ?_
    rintro e w15 ⟨rfl, hb15⟩
    have hB15 : Below w.heap.size w w15 := bstep hb15 hB14
    clear kcX kfX kaX kgX kcM kfM kaM kgM
    go_wp2_with fail
    refine (ex_any _).mono ?_
    rintro e w16 ⟨rfl, hb16⟩
    go_wp2
    go_ret
    exact ⟨rfl, bstep hb16 hB15⟩

set_option maxRecDepth 100000 in
theorem lifted_MaskTransforms (os : Os) (started : os.Started) (H : Type) (enc : TypeId × Value → H) :
    ReturnsInHanded {} Try.checked os 8 .any (Rows.maskTransformsSpec.pre6 enc Try.prog Try.f8 Rows.maskTransformsRow.domain false) (Rows.maskTransformsSpec.post enc Try.prog Try.f8 false true false false) := by
  refine returnsInHanded_of_change (C := Try.checked) Try.own started (by kernel_rfl) Try.func8
    (ChangeSpec.witness6 (enc := enc) (C := Try.checked) false ⟨#[], #[.agg #[.int .i64 0, .int .i64 0, .int .i64 0, .int .i64 0, .slice none 0 0], .int .u8 0, .agg #[.int .i64 0, .int .i64 0, .int .i64 0, .int .i64 0]], []⟩ 8 (by kernel_rfl) (by kernel_rfl) (by kernel_rfl) (by kernel_rfl)) ?_
  intro W base args ds gs before hval0 hW hcnd _
  have hval : ∀ (j : Nat) t v, Try.f8.params[j]? = some t → args[j]? = some v → Value.okWide Try.prog W .any base t v := hval0
  have hW' := hW
  obtain ⟨p, q, hA0, hV, rfl, hfz, hnd⟩ := hW
  have hA : DataW.TrodAll enc Try.prog W 0 (fun _ => true) true Try.f8.params.toList args.toList ds p := hA0
  rw [Try.params8] at hA hval
  obtain ⟨v0, vs0, d0, ds0, p0, q0, hargs, rfl, rfl, h0, r0⟩ := trodAll_cons hA
  obtain ⟨v1, vs1, d1, ds1, p1, q1, rfl, rfl, rfl, h1, r1⟩ := trodAll_cons r0
  obtain ⟨v2, vs2, d2, ds2, p2, q2, rfl, rfl, rfl, h2, r2⟩ := trodAll_cons r1
  obtain ⟨rfl, rfl, rfl⟩ := trodAll_nil r2
  obtain rfl : args = #[v0, v1, v2] := by cases args; simp_all
  obtain ⟨b0, rfl, ho0⟩ := openMk (hval 0 29 v0 rfl rfl) h0
  obtain ⟨x1, rfl, _, _, g1⟩ := open_int Try.underlying5 (hval 1 5 v1 rfl rfl) h1
  obtain ⟨c20, c21, c22, c23, y20, y21, y22, y23, n2, rfl, _, _, f20, f21, f22, f23⟩ := Joins.open_agg4 Try.underlying26 (by kernel_rfl) (by kernel_rfl) (hval 2 26 v2 rfl rfl) h2
  obtain ⟨x20, rfl, g20⟩ := fld_int Try.underlying3 f20
  obtain ⟨x21, rfl, g21⟩ := fld_int Try.underlying3 f21
  obtain ⟨x22, rfl, g22⟩ := fld_int Try.underlying3 f22
  obtain ⟨x23, rfl, g23⟩ := fld_int Try.underlying3 f23
  refine (walk_MaskTransforms b0 x1 ⟨x20, x21, x22, x23⟩ W ho0 (bounds_u8 g1)).mono fun e W' ⟨he, hb⟩ => ?_
  subst he
  exact ⟨_, rfl, law_post (tb := 4) Try.laidOut (by kernel_rfl) hW' rfl rfl Try.underlying4 rfl rfl rfl hb⟩

theorem MaskTransforms_holds : Rows.MaskTransformsSaid :=
  OpenClaim.holds_of_wide 8 Try.f8 rfl rfl rfl rfl rfl rfl rfl ⟨rfl, rfl, rfl, rfl, rfl⟩ rfl rfl rfl rfl rfl (by kernel_rfl) Try.func8 (by kernel_rfl)
    (of_decide_eq_true (by kernel_rfl)) (by unfold Func.isWrapper; first | (rw [if_pos (by decide +kernel)]; kernel_rfl) | (rw [if_neg (by decide +kernel)]; exact ⟨rfl, rfl⟩))
    (fun os started H enc _ => lifted_MaskTransforms os started H enc)
#print axioms MaskTransforms_holds
end Go.Proofs.Ytndablijjkchjaa
