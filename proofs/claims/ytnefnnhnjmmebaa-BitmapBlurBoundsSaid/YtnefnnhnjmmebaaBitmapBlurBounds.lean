/- BitmapBlurBounds: for every bitmap, byte and color the law grisaillelaw30.BitmapBlurBounds returns true. No conditions. -/
import Derived.Test.YtnefnnhnjmmebaaEx30
import Derived.Test.YtnefnnhnjmmebaaBbQ
import Derived.Test.YtnefnnhnjmmebaaBm7
namespace Go.Proofs.Ytnefnnhnjmmebaa
open Go.ChangeShapes Go.WideShapes Go.ChangeAt Go.RowKit
set_option linter.unusedSimpArgs false
set_option linter.unusedVariables false

set_option maxRecDepth 100000 in
set_option maxHeartbeats 6400000 in
theorem walk_BitmapBlurBounds (s : Bm) (n : Int) (c : Px) (w : World) (hs : s.ok w) (hn : 0 ≤ n ∧ n ≤ 255) (hc : c.byte) :
    Calls Try.prog 12 #[.agg #[.int .i64 s.r.x0, .int .i64 s.r.y0, .int .i64 s.r.x1, .int .i64 s.r.y1, .slice s.A s.n s.c], .int .u8 n, .agg #[.int .u8 c.r, .int .u8 c.g, .int .u8 c.b, .int .u8 c.a]] w fun e w' => e = .returned (.bool true) ∧ Below w.heap.size w w' := by
  have HS := Lib.hid hs
  have HC := Lib.hid hc
  clear hs hc
  by_cases hbig : 100 < s.n
  · have hb' : (100 : Int) < (s.n : Int) := by omega
    go_enter Try.func12, Try.ntmps12
    go_wp2_with fail
    refine (ex_any _).mono ?_
    rintro e w1 ⟨rfl, hb1⟩
    go_wp2
    go_ret
    exact ⟨rfl, (by repeat (first | (with_reducible exact Below.refl _ _) | (with_reducible refine balloc ?_ _) | (with_reducible refine Below.drew ?_) | (with_reducible refine bdrewN ?_ _) | ((with_reducible refine bset ?_ ?_ _); rotate_left; focus (first | (with_reducible exact Nat.le_refl _) | (simp; done) | (simp; omega) | omega)) | (with_reducible refine bstep (by with_reducible assumption) ?_)))⟩
  · have hb' : ¬ (100 : Int) < (s.n : Int) := by omega
    cases hv : vBm s with
    | false =>
      have HV : Hid (bmValid s.r s.l = false) := hv
      clear hv
      go_enter Try.func12, Try.ntmps12
      go_wp2_with fail
      refine (rbvalid_any s.r s.A s.n s.c s.l _ (HS.out.rd.below (by repeat (first | (with_reducible exact Below.refl _ _) | (with_reducible refine balloc ?_ _) | (with_reducible refine Below.drew ?_) | (with_reducible refine bdrewN ?_ _) | ((with_reducible refine bset ?_ ?_ _); rotate_left; focus (first | (with_reducible exact Nat.le_refl _) | (simp; done) | (simp; omega) | omega)) | (with_reducible refine bstep (by with_reducible assumption) ?_)))) HS.out.ln (by omega) false HV).mono ?_
      rintro e w1 ⟨rfl, hb1⟩
      go_wp2_with fail
      refine (ex_any _).mono ?_
      rintro e w2 ⟨rfl, hb2⟩
      go_wp2
      go_ret
      exact ⟨rfl, (by repeat (first | (with_reducible exact Below.refl _ _) | (with_reducible refine balloc ?_ _) | (with_reducible refine Below.drew ?_) | (with_reducible refine bdrewN ?_ _) | ((with_reducible refine bset ?_ ?_ _); rotate_left; focus (first | (with_reducible exact Nat.le_refl _) | (simp; done) | (simp; omega) | omega)) | (with_reducible refine bstep (by with_reducible assumption) ?_)))⟩
    | true =>
      have HV : Hid (bmValid s.r s.l = true) := hv
      obtain ⟨k, hk⟩ : ∃ k : Nat, n % 17 = (k : Int) := ⟨(n % 17).toNat, by omega⟩
      have hk16 : k ≤ 16 := by omega
      have hk2 : n.tmod 17 = (k : Int) := by rw [Int.tmod_eq_emod_of_nonneg hn.1]; exact hk
      obtain ⟨f1, f2, f3, f4, f5, f6, f7, f8, f9, f10, f11, f12⟩ := bb_all hv HS.out.byte hk16 c HC.out
      have HB1 : Hid (∀ W, s.ok W → Calls Try.prog 42 #[.agg #[.int .i64 s.r.x0, .int .i64 s.r.y0, .int .i64 s.r.x1, .int .i64 s.r.y1, .slice s.A s.n s.c], .int .i64 (k : Int)] W (RetBE s.r (bbL s k) 0 W)) := fun W h => by
        have h2 := bb_any s k W h (by omega)
        rw [f8, f9] at h2
        exact h2
      have HB0 : Hid (∀ W, s.ok W → Calls Try.prog 42 #[.agg #[.int .i64 s.r.x0, .int .i64 s.r.y0, .int .i64 s.r.x1, .int .i64 s.r.y1, .slice s.A s.n s.c], .int .i64 0] W (RetBE s.r s.l 0 W)) := fun W h => by
        have h2 := bb_any s 0 W h (by omega)
        rw [f3, f10, f11] at h2
        exact h2
      have HSH : Hid (∀ W, s.ok W → Calls Try.prog 45 #[.agg #[.int .i64 s.r.x0, .int .i64 s.r.y0, .int .i64 s.r.x1, .int .i64 s.r.y1, .slice s.A s.n s.c], .agg #[.int .i64 1, .int .i64 0], .int .i64 (k : Int), .agg #[.int .u8 c.r, .int .u8 c.g, .int .u8 c.b, .int .u8 c.a]] W (RetBE s.r (shL s 1 0 k c) 0 W)) := fun W h => by
        have h2 := sh_any s 1 0 k c W h (by omega) HC.out
        rw [f8, f9] at h2
        exact h2
      have hln := HS.out.ln
      have HMO : Hid (∀ p ∈ bbL s k, p.r ≤ (mostP s.l s.n).r ∧ p.g ≤ (mostP s.l s.n).g ∧ p.b ≤ (mostP s.l s.n).b ∧ p.a ≤ (mostP s.l s.n).a) := fun p hp => by
        rw [f2] at hp
        have h2 := most_blur HS.out.byte hp
        rw [hln] at h2
        exact h2
      obtain ⟨L1, HL1⟩ : ∃ l, Hid (bbL s k = l) := ⟨_, rfl⟩
      obtain ⟨L3, HL3⟩ : ∃ l, Hid (shL s 1 0 k c = l) := ⟨_, rfl⟩
      rw [HL1.out] at HB1 HMO f4 f6 f12
      rw [HL3.out] at HSH f5 f7
      have HV1 := Lib.hid f4
      have HV3 := Lib.hid f5
      have HN1 : Hid (L1.length = s.n) := f6.trans hln
      have HN3 : Hid (L3.length = s.n) := f7.trans hln
      have HN0 : Hid (s.l.length = s.n) := hln
      have HPB := Lib.hid f12
      have hneq : ∀ w, (binOp .neq 23 (.agg #[.int .i64 s.r.x0, .int .i64 s.r.y0, .int .i64 s.r.x1, .int .i64 s.r.y1]) (.agg #[.int .i64 s.r.x0, .int .i64 s.r.y0, .int .i64 s.r.x1, .int .i64 s.r.y1])).run Try.prog w = .ok (.bool false) w := fun w => by
        rw [neq_rect]; exact congrArg (fun b => Result.ok (Value.bool (!b)) w) (eqB_refl s.r)
      clear f1 f2 f3 f4 f5 f6 f7 f8 f9 f10 f11 f12 hln hv
      have hmx := max_if
      go_enter Try.func12, Try.ntmps12
      go_wp2_with fail
      refine (rbvalid_any s.r s.A s.n s.c s.l _ (HS.out.rd.below (by repeat (first | (with_reducible exact Below.refl _ _) | (with_reducible refine balloc ?_ _) | (with_reducible refine Below.drew ?_) | (with_reducible refine bdrewN ?_ _) | ((with_reducible refine bset ?_ ?_ _); rotate_left; focus (first | (with_reducible exact Nat.le_refl _) | (simp; done) | (simp; omega) | omega)) | (with_reducible refine bstep (by with_reducible assumption) ?_)))) HS.out.ln (by omega) true HV).mono ?_
      rintro e w1 ⟨rfl, hb1⟩
      have kS1 : Bk w1 (w.heap.size) 28 #[.int .i64 s.r.x0, .int .i64 s.r.y0, .int .i64 s.r.x1, .int .i64 s.r.y1, .slice s.A s.n s.c] := (by repeat (first | (with_reducible assumption) | ((with_reducible refine Bk.new _ _ _ ?_); first | (with_reducible rfl) | (simp; done)) | (with_reducible refine Bk.alloc ?_ _) | (with_reducible refine Bk.drew ?_) | (with_reducible refine Bk.drewN ?_ _) | ((with_reducible refine Bk.far ?_ ?_ _); rotate_left; focus (first | (simp; done) | (simp; omega))) | (with_reducible refine Bk.below ?_ (by with_reducible assumption)))); obtain ⟨kcS1, kfS1, kaS1, kgS1, klS1⟩ := kS1.rules; have kC1 : Bk w1 (w.heap.size + 1) 71 #[.int .u8 c.r, .int .u8 c.g, .int .u8 c.b, .int .u8 c.a] := (by repeat (first | (with_reducible assumption) | ((with_reducible refine Bk.new _ _ _ ?_); first | (with_reducible rfl) | (simp; done)) | (with_reducible refine Bk.alloc ?_ _) | (with_reducible refine Bk.drew ?_) | (with_reducible refine Bk.drewN ?_ _) | ((with_reducible refine Bk.far ?_ ?_ _); rotate_left; focus (first | (simp; done) | (simp; omega))) | (with_reducible refine Bk.below ?_ (by with_reducible assumption)))); obtain ⟨kcC1, kfC1, kaC1, kgC1, klC1⟩ := kC1.rules
      have hB1 : Below w.heap.size w w1 := (by repeat (first | (with_reducible exact Below.refl _ _) | (with_reducible refine balloc ?_ _) | (with_reducible refine Below.drew ?_) | (with_reducible refine bdrewN ?_ _) | ((with_reducible refine bset ?_ ?_ _); rotate_left; focus (first | (with_reducible exact Nat.le_refl _) | (simp; done) | (simp; omega) | omega)) | (with_reducible refine bstep (by with_reducible assumption) ?_)))
      go_wp2_with fail
      refine (HB1.out _ (HS.out.below hB1)).mono ?_
      rintro e w2 ⟨v2, rfl, ho2, hb2⟩
      obtain ⟨A2, c2, hv2, hr2, _, _⟩ := ho2.form2 encP_len
      rw [HN1.out] at hv2
      subst hv2
      clear kcS1 kfS1 kaS1 kgS1 kcC1 kfC1 kaC1 kgC1 klS1 klC1
      have qS := (kS1.below hb2).alloc (.cells #[.int .i64 s.r.x0, .int .i64 s.r.y0, .int .i64 s.r.x1, .int .i64 s.r.y1, .slice A2 s.n c2] 28)
      have qC := (kC1.below hb2).alloc (.cells #[.int .i64 s.r.x0, .int .i64 s.r.y0, .int .i64 s.r.x1, .int .i64 s.r.y1, .slice A2 s.n c2] 28)
      have qA := Bk.new w2 28 #[.int .i64 s.r.x0, .int .i64 s.r.y0, .int .i64 s.r.x1, .int .i64 s.r.y1, .slice A2 s.n c2] (g := w2.heap.size) rfl
      have hB2 := balloc (bstep hb2 hB1) (.cells #[.int .i64 s.r.x0, .int .i64 s.r.y0, .int .i64 s.r.x1, .int .i64 s.r.y1, .slice A2 s.n c2] 28)
      have HR2 : Hid (RdL encP 4 (w2.alloc (.cells #[.int .i64 s.r.x0, .int .i64 s.r.y0, .int .i64 s.r.x1, .int .i64 s.r.y1, .slice A2 s.n c2] 28)) A2 L1) := hr2.below ((Below.refl _ _).alloc (Nat.le_refl _) _)
      clear kS1 kC1 hB1 hb1 hb2 hr2 ho2
      obtain ⟨kc, kf, ka, kg, kl⟩ := qS.rules
      go_wp2_with fail
      obtain ⟨gA, hgA⟩ : ∃ x, w2.heap.size = x := ⟨_, rfl⟩
      rw [hgA] at qA ⊢
      generalize w2.alloc (.cells #[.int .i64 s.r.x0, .int .i64 s.r.y0, .int .i64 s.r.x1, .int .i64 s.r.y1, .slice A2 s.n c2] 28) = w3 at *
      refine (HB0.out _ (HS.out.below hB2)).mono ?_
      rintro e w4 ⟨v4, rfl, ho4, hb4⟩
      obtain ⟨A4, c4, hv4, hr4, _, _⟩ := ho4.form2 encP_len
      rw [HN0.out] at hv4
      subst hv4
      clear kc kf ka kg kl hgA
      have rS := (qS.below hb4).alloc (.cells #[.int .i64 s.r.x0, .int .i64 s.r.y0, .int .i64 s.r.x1, .int .i64 s.r.y1, .slice A4 s.n c4] 28)
      have rC := (qC.below hb4).alloc (.cells #[.int .i64 s.r.x0, .int .i64 s.r.y0, .int .i64 s.r.x1, .int .i64 s.r.y1, .slice A4 s.n c4] 28)
      have rA := (qA.below hb4).alloc (.cells #[.int .i64 s.r.x0, .int .i64 s.r.y0, .int .i64 s.r.x1, .int .i64 s.r.y1, .slice A4 s.n c4] 28)
      have rB := Bk.new w4 28 #[.int .i64 s.r.x0, .int .i64 s.r.y0, .int .i64 s.r.x1, .int .i64 s.r.y1, .slice A4 s.n c4] (g := w4.heap.size) rfl
      have hB4 := balloc (bstep hb4 hB2) (.cells #[.int .i64 s.r.x0, .int .i64 s.r.y0, .int .i64 s.r.x1, .int .i64 s.r.y1, .slice A4 s.n c4] 28)
      have HR2 : Hid (RdL encP 4 (w4.alloc (.cells #[.int .i64 s.r.x0, .int .i64 s.r.y0, .int .i64 s.r.x1, .int .i64 s.r.y1, .slice A4 s.n c4] 28)) A2 L1) := HR2.out.below (balloc hb4 _)
      have HR4 : Hid (RdL encP 4 (w4.alloc (.cells #[.int .i64 s.r.x0, .int .i64 s.r.y0, .int .i64 s.r.x1, .int .i64 s.r.y1, .slice A4 s.n c4] 28)) A4 s.l) := hr4.below ((Below.refl _ _).alloc (Nat.le_refl _) _)
      clear qS qC qA hB2 hb4 hr4 ho4
      obtain ⟨kc, kf, ka, kg, kl⟩ := rS.rules
      obtain ⟨kc', kf', ka', kg', kl'⟩ := rC.rules
      go_wp2_with fail
      obtain ⟨gB, hgB⟩ : ∃ x, w4.heap.size = x := ⟨_, rfl⟩
      rw [hgB] at rB ⊢
      generalize w4.alloc (.cells #[.int .i64 s.r.x0, .int .i64 s.r.y0, .int .i64 s.r.x1, .int .i64 s.r.y1, .slice A4 s.n c4] 28) = w5 at *
      refine (HSH.out _ (HS.out.below hB4)).mono ?_
      rintro e w6 ⟨v6, rfl, ho6, hb6⟩
      obtain ⟨A6, c6, hv6, hr6, _, _⟩ := ho6.form2 encP_len
      rw [HN3.out] at hv6
      subst hv6
      clear kc kf ka kg kl kc' kf' ka' kg' kl' hgB
      have tS := (rS.below hb6).alloc (.cells #[.int .i64 s.r.x0, .int .i64 s.r.y0, .int .i64 s.r.x1, .int .i64 s.r.y1, .slice A6 s.n c6] 28)
      have tA := (rA.below hb6).alloc (.cells #[.int .i64 s.r.x0, .int .i64 s.r.y0, .int .i64 s.r.x1, .int .i64 s.r.y1, .slice A6 s.n c6] 28)
      have tB := (rB.below hb6).alloc (.cells #[.int .i64 s.r.x0, .int .i64 s.r.y0, .int .i64 s.r.x1, .int .i64 s.r.y1, .slice A6 s.n c6] 28)
      have tD := Bk.new w6 28 #[.int .i64 s.r.x0, .int .i64 s.r.y0, .int .i64 s.r.x1, .int .i64 s.r.y1, .slice A6 s.n c6] (g := w6.heap.size) rfl
      have hB6 := balloc (bstep hb6 hB4) (.cells #[.int .i64 s.r.x0, .int .i64 s.r.y0, .int .i64 s.r.x1, .int .i64 s.r.y1, .slice A6 s.n c6] 28)
      have HR2 : Hid (RdL encP 4 (w6.alloc (.cells #[.int .i64 s.r.x0, .int .i64 s.r.y0, .int .i64 s.r.x1, .int .i64 s.r.y1, .slice A6 s.n c6] 28)) A2 L1) := HR2.out.below (balloc hb6 _)
      have HR4 : Hid (RdL encP 4 (w6.alloc (.cells #[.int .i64 s.r.x0, .int .i64 s.r.y0, .int .i64 s.r.x1, .int .i64 s.r.y1, .slice A6 s.n c6] 28)) A4 s.l) := HR4.out.below (balloc hb6 _)
      have HR6 : Hid (RdL encP 4 (w6.alloc (.cells #[.int .i64 s.r.x0, .int .i64 s.r.y0, .int .i64 s.r.x1, .int .i64 s.r.y1, .slice A6 s.n c6] 28)) A6 L3) := hr6.below ((Below.refl _ _).alloc (Nat.le_refl _) _)
      clear rS rC rA rB hB4 hb6 hr6 ho6
      obtain ⟨kc, kf, ka, kg, kl⟩ := tS.rules
      obtain ⟨kc', kf', ka', kg', kl'⟩ := tB.rules
      go_wp2_with fail
      obtain ⟨gD, hgD⟩ : ∃ x, w6.heap.size = x := ⟨_, rfl⟩
      rw [hgD] at tD ⊢
      generalize w6.alloc (.cells #[.int .i64 s.r.x0, .int .i64 s.r.y0, .int .i64 s.r.x1, .int .i64 s.r.y1, .slice A6 s.n c6] 28) = w7 at *
      refine (requal_same s.r A4 s.A s.n c4 s.c s.l _ HR4.out (HS.out.rd.below hB6) HN0.out (by omega)).mono ?_
      rintro e w8 ⟨rfl, hb8⟩
      clear kc kf ka kg kl kc' kf' ka' kg' kl' hgD
      have uS := tS.below hb8
      have uA := tA.below hb8
      have uD := tD.below hb8
      obtain ⟨kc, kf, ka, kg, kl⟩ := uA.rules
      go_wp2_with fail
      refine (bvalid_any s.r A2 s.n c2 L1 _ (HR2.out.below hb8) HN1.out (by omega) true HV1).mono ?_
      rintro e w9 ⟨rfl, hb9⟩
      clear kc kf ka kg kl
      have vS := uS.below hb9
      have vA := uA.below hb9
      have vD := uD.below hb9
      obtain ⟨kc, kf, ka, kg, kl⟩ := vD.rules
      go_wp2_with fail
      refine (bvalid_any s.r A6 s.n c6 L3 _ ((HR6.out.below hb8).below hb9) HN3.out (by omega) true HV3).mono ?_
      rintro e w10 ⟨rfl, hb10⟩
      clear kc kf ka kg kl
      have yS := vS.below hb10
      have yA := vA.below hb10
      have yD := vD.below hb10
      have hW10 := bstep hb10 (bstep hb9 (bstep hb8 hB6))
      have HR10 : Hid (RdL encP 4 w10 A2 L1) := ((HR2.out.below hb8).below hb9).below hb10
      have HS10 : Hid (RdL encP 4 w10 s.A s.l) := HS.out.rd.below hW10
      have xM := Bk.new w10 25 #[.int .u8 0, .int .u8 0, .int .u8 0, .int .u8 0] (g := w10.heap.size) rfl
      have hbM : Below w10.heap.size w10 (w10.alloc (.cells #[.int .u8 0, .int .u8 0, .int .u8 0, .int .u8 0] 25)) := (Below.refl _ _).alloc (Nat.le_refl _) _
      obtain ⟨kc, kf, ka, kg, kl⟩ := yS.rules
      obtain ⟨kc', kf', ka', kg', kl'⟩ := yA.rules
      obtain ⟨kc2, kf2, ka2, kg2, kl2⟩ := yD.rules
      clear uS uA uD vS vA vD tS tA tB tD hB6 HR2 HR4 HR6 hb8 hb9 hb10
      go_wp2_with fail
      obtain ⟨gM, hgM⟩ : ∃ x, w10.heap.size = x := ⟨_, rfl⟩
      rw [hgM] at xM ⊢
      have lM : w10.heap.size ≤ gM := by omega
      clear kc kf ka kg kl kc' kf' ka' kg' kl' kc2 kf2 ka2 kg2 kl2 hgM yD
      generalize w10.alloc (.cells #[.int .u8 0, .int .u8 0, .int .u8 0, .int .u8 0] 25) = w11 at *
      go_loopw [95] (fun i wr => ∃ (j : Nat) (m : Px), j ≤ s.n ∧ i = .int .i64 (j : Int) ∧ Hid (mostP s.l j = m) ∧ Bk wr gM 25 #[.int .u8 m.r, .int .u8 m.g, .int .u8 m.b, .int .u8 m.a] ∧ Below w10.heap.size w10 wr) (fun i _ => s.n - (intOf i).toNat)
      case atStart => exact ⟨0, ⟨0, 0, 0, 0⟩, Nat.zero_le _, rfl, Lib.hid (by unfold mostP; simp), xM, hbM⟩
      case round =>
        clear xM hbM
        obtain ⟨j, m, hj, rfl, HM, kM, hbw⟩ := hrel
        have zS := yS.below hbw
        by_cases hlt : j < s.n
        · have hjl : j < s.l.length := by rw [HN0.out]; exact hlt
          obtain ⟨gb, ob, hA, hg, hcA⟩ := rdp (HS10.out.below hbw) hjl
          obtain ⟨p, Hp⟩ : ∃ p, Hid (s.l[j] = p) := ⟨s.l[j], rfl⟩
          rw [Hp.out] at hcA
          obtain ⟨m', HM'⟩ : ∃ p, Hid (mostP s.l (j + 1) = p) := ⟨_, rfl⟩
          have hms := HM'.out
          rw [most_succ hjl, HM.out, Hp.out] at hms
          have e1 : max m.r p.r = m'.r := by rw [← hms]
          have e2 : max m.g p.g = m'.g := by rw [← hms]
          have e3 : max m.b p.b = m'.b := by rw [← hms]
          have e4 : max m.a p.a = m'.a := by rw [← hms]
          obtain ⟨d0, d1, d2, d3⟩ := hcA
          have i0 : (0 : Int) ≤ (j : Int) := by omega
          have i1 : (j : Int) < (s.n : Int) := by omega
          obtain ⟨kc, kf, ka, kg, kl⟩ := zS.rules
          rw [hA] at kc ka
          obtain ⟨kc', kf', ka', kg', kl'⟩ := kM.rules
          have kM1 : Bk _ gM 25 #[.int .u8 m'.r, .int .u8 m'.g, .int .u8 m'.b, .int .u8 m'.a] := ((((kM.set 0 (.int .u8 m'.r)).set 1 (.int .u8 m'.g)).set 2 (.int .u8 m'.b)).set 3 (.int .u8 m'.a))
          have kM2 := kM1.alloc (.cells #[.int .u8 p.r, .int .u8 p.g, .int .u8 p.b, .int .u8 p.a] 25)
          have hb5 := balloc (bset (p := ⟨gM, 3, none⟩) (bset (p := ⟨gM, 2, none⟩) (bset (p := ⟨gM, 1, none⟩) (bset (p := ⟨gM, 0, none⟩) hbw lM (.int .u8 m'.r)) lM (.int .u8 m'.g)) lM (.int .u8 m'.b)) lM (.int .u8 m'.a)) (.cells #[.int .u8 p.r, .int .u8 p.g, .int .u8 p.b, .int .u8 p.a] 25)
          clear hms hA Hp
          go_wp2
          go_roundw
          case rel => exact ⟨j + 1, m', by omega, by go_num, HM', kM2, hb5⟩
          case measure => simp [intOf]; omega
        · have hjn : j = s.n := by omega
          have HME : Hid (mostP s.l s.n = m) := by unfold Hid; rw [← hjn]; exact HM.out
          rw [HME.out] at HMO
          have zA := yA.below hbw
          have HR11 : Hid (RdL encP 4 wr A2 L1) := HR10.out.below hbw
          have hWr := bstep hbw hW10
          clear hjn HM
          obtain ⟨kc, kf, ka, kg, kl⟩ := zA.rules
          go_wp2_with fail
          clear kc kf ka kg kl
          generalize wr = wm at *
          go_loopw [128] (fun i wr => ∃ j : Nat, j ≤ s.n ∧ i = .int .i64 (j : Int) ∧ Below wm.heap.size wm wr) (fun i _ => s.n - (intOf i).toNat)
          case atStart => exact ⟨0, Nat.zero_le _, rfl, Below.refl _ _⟩
          case round =>
            obtain ⟨q, hq, rfl, hbw2⟩ := hrel
            by_cases hlq : q < s.n
            · have hql : q < L1.length := by rw [HN1.out]; exact hlq
              obtain ⟨gb, ob, hA, hg, hcA⟩ := rdp (HR11.out.below hbw2) hql
              obtain ⟨b1, b2, b3, b4⟩ := HMO.out _ (List.getElem_mem hql)
              obtain ⟨p, Hp⟩ : ∃ p, Hid (L1[q] = p) := ⟨L1[q], rfl⟩
              rw [Hp.out] at hcA b1 b2 b3 b4
              obtain ⟨d0, d1, d2, d3⟩ := hcA
              have i0 : (0 : Int) ≤ (q : Int) := by omega
              have i1 : (q : Int) < (s.n : Int) := by omega
              have n1 : ¬ m.r < p.r := by omega
              have n2 : ¬ m.g < p.g := by omega
              have n3 : ¬ m.b < p.b := by omega
              have n4 : ¬ m.a < p.a := by omega
              have tA := zA.below hbw2
              have tM := kM.below hbw2
              obtain ⟨kc, kf, ka, kg, kl⟩ := tA.rules
              rw [hA] at kc ka
              obtain ⟨kc', kf', ka', kg', kl'⟩ := tM.rules
              clear Hp hA
              go_wp2
              go_roundw
              case rel => exact ⟨q + 1, by omega, by go_num, balloc hbw2 _⟩
              case measure => simp [intOf]; omega
            · go_wp2_with fail
              refine (ex_any _).mono ?_
              rintro e wz ⟨rfl, hbz⟩
              have hBE : Below w.heap.size w wz := bstep hbz (bstep hbw2 hWr)
              go_wp2
              go_ret
              exact ⟨rfl, hBE⟩

set_option maxRecDepth 100000 in
theorem lifted_BitmapBlurBounds (os : Os) (started : os.Started) (H : Type) (enc : TypeId × Value → H) :
    ReturnsInHanded {} Try.checked os 12 .any (Rows.bitmapBlurBoundsSpec.pre6 enc Try.prog Try.f12 Rows.bitmapBlurBoundsRow.domain false) (Rows.bitmapBlurBoundsSpec.post enc Try.prog Try.f12 false true false false) := by
  refine returnsInHanded_of_change (C := Try.checked) Try.own started (by kernel_rfl) Try.func12
    (ChangeSpec.witness6 (enc := enc) (C := Try.checked) false ⟨#[], #[.agg #[.int .i64 0, .int .i64 0, .int .i64 0, .int .i64 0, .slice none 0 0], .int .u8 0, .agg #[.int .u8 0, .int .u8 0, .int .u8 0, .int .u8 0]], []⟩ 8 (by kernel_rfl) (by kernel_rfl) (by kernel_rfl) (by kernel_rfl)) ?_
  intro W base args ds gs before hval0 hW hcnd _
  have hval : ∀ (j : Nat) t v, Try.f12.params[j]? = some t → args[j]? = some v → Value.okWide Try.prog W .any base t v := hval0
  have hW' := hW
  obtain ⟨p, q, hA0, hV, rfl, hfz, hnd⟩ := hW
  have hA : DataW.TrodAll enc Try.prog W 0 (fun _ => true) true Try.f12.params.toList args.toList ds p := hA0
  rw [Try.params12] at hA hval
  obtain ⟨v0, vs0, d0, ds0, p0, q0, hargs, rfl, rfl, h0, r0⟩ := trodAll_cons hA
  obtain ⟨v1, vs1, d1, ds1, p1, q1, rfl, rfl, rfl, h1, r1⟩ := trodAll_cons r0
  obtain ⟨v2, vs2, d2, ds2, p2, q2, rfl, rfl, rfl, h2, r2⟩ := trodAll_cons r1
  obtain ⟨rfl, rfl, rfl⟩ := trodAll_nil r2
  obtain rfl : args = #[v0, v1, v2] := by cases args; simp_all
  obtain ⟨b0, rfl, ho0⟩ := openBm (hval 0 28 v0 rfl rfl) h0
  obtain ⟨x1, rfl, _, _, g1⟩ := open_int Try.underlying5 (hval 1 5 v1 rfl rfl) h1
  obtain ⟨c20, c21, c22, c23, y20, y21, y22, y23, n2, rfl, _, _, f20, f21, f22, f23⟩ := Joins.open_agg4 Try.underlying71 (by kernel_rfl) (by kernel_rfl) (hval 2 71 v2 rfl rfl) h2
  obtain ⟨x20, rfl, g20⟩ := fld_int Try.underlying5 f20
  obtain ⟨x21, rfl, g21⟩ := fld_int Try.underlying5 f21
  obtain ⟨x22, rfl, g22⟩ := fld_int Try.underlying5 f22
  obtain ⟨x23, rfl, g23⟩ := fld_int Try.underlying5 f23
  refine (walk_BitmapBlurBounds b0 x1 ⟨x20, x21, x22, x23⟩ W ho0 (bounds_u8 g1) (px_byte g20 g21 g22 g23)).mono fun e W' ⟨he, hb⟩ => ?_
  subst he
  exact ⟨_, rfl, law_post (tb := 4) Try.laidOut (by kernel_rfl) hW' rfl rfl Try.underlying4 rfl rfl rfl hb⟩

theorem BitmapBlurBounds_holds : Rows.BitmapBlurBoundsSaid :=
  OpenClaim.holds_of_wide 12 Try.f12 rfl rfl rfl rfl rfl rfl rfl ⟨rfl, rfl, rfl, rfl, rfl⟩ rfl rfl rfl rfl rfl (by kernel_rfl) Try.func12 (by kernel_rfl)
    (of_decide_eq_true (by kernel_rfl)) (by unfold Func.isWrapper; first | (rw [if_pos (by decide +kernel)]; kernel_rfl) | (rw [if_neg (by decide +kernel)]; exact ⟨rfl, rfl⟩))
    (fun os started H enc _ => lifted_BitmapBlurBounds os started H enc)
#print axioms BitmapBlurBounds_holds
end Go.Proofs.Ytnefnnhnjmmebaa
