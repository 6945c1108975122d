/- BitmapBlur: for every bitmap, radius, offset and color the law grisaillelaw30.BitmapBlur returns true. No conditions. -/
import Derived.Test.YtnefnnhnjmmebaaRSh
import Derived.Test.YtnefnnhnjmmebaaBm8
import Derived.Test.YtnefnnhnjmmebaaEx30
import Derived.Test.YtnefnnhnjmmebaaOpenB
import Derived.Test.YtnefnnhnjmmebaaOpen
import Derived.Test.YtnefnnhnjmmebaaPlB
namespace Go.Proofs.Ytnefnnhnjmmebaa
open Go.ChangeShapes Go.WideShapes Go.ChangeAt Go.RowKit
set_option linter.unusedSimpArgs false
set_option linter.unusedVariables false
theorem pix_le {r : Rc} (g : Int → Int → Px) (hc : canonR r = r) : (pixL g r).length ≤ 67108864 := by
  have h3 := pix_len g r
  rw [hc] at h3
  have := (area_bd r).2
  omega
theorem bb_len (b : Bm) (n : Int) : (bbL b n).length ≤ 67108864 := by
  unfold bbL
  split
  · next h =>
    have hv : vBm b = true := by unfold bbV at h; simp at h; exact h.1
    exact pix_le _ (valid_cn hv).1
  · simp
theorem sh_len (b : Bm) (bx by_ n : Int) (c : Px) : (shL b bx by_ n c).length ≤ 67108864 := by
  unfold shL
  split
  · next h =>
    have hv : vBm b = true := by unfold bbV at h; simp at h; exact h.1
    exact pix_le _ (valid_cn hv).1
  · simp

set_option maxRecDepth 100000 in
set_option maxHeartbeats 6400000 in
theorem walk_BitmapBlur (s : Bm) (n bx by_ : Int) (c : Px) (w : World) (hs : s.ok w) (hc : c.byte) :
    Calls Try.prog 11 #[.agg #[.int .i64 s.r.x0, .int .i64 s.r.y0, .int .i64 s.r.x1, .int .i64 s.r.y1, .slice s.A s.n s.c], .int .i64 n, .agg #[.int .i64 bx, .int .i64 by_], .agg #[.int .u8 c.r, .int .u8 c.g, .int .u8 c.b, .int .u8 c.a]] w fun e w' => e = .returned (.bool true) ∧ Below w.heap.size w w' := by
  have HS := Lib.hid hs
  have HCB := Lib.hid hc
  clear hs hc
  cases h1 : decide ((100 : Int) < (s.n : Int)) with
  | true =>
    go_enter Try.func11, Try.ntmps11
    go_wp2_with fail
    refine (ex_any _).mono ?_
    rintro e w1 ⟨rfl, hb1⟩
    go_wp2
    go_ret
    exact ⟨rfl, (by repeat (first | (with_reducible exact Below.refl _ _) | (with_reducible refine balloc ?_ _) | (with_reducible refine Below.drew ?_) | (with_reducible refine bdrewN ?_ _) | ((with_reducible refine bset ?_ ?_ _); rotate_left; focus (first | (with_reducible exact Nat.le_refl _) | (simp; done) | (simp; omega) | omega)) | (with_reducible refine bstep (by with_reducible assumption) ?_)))⟩
  | false =>
    have l1 := of_decide_eq_false h1
    obtain ⟨R0, HR0⟩ : ∃ u, Hid (bbR s n = u) := ⟨_, rfl⟩
    obtain ⟨L0, HL0⟩ : ∃ u, Hid (bbL s n = u) := ⟨_, rfl⟩
    obtain ⟨E0, HE0⟩ : ∃ u, Hid (bbE s n = u) := ⟨_, rfl⟩
    obtain ⟨L1, HL1⟩ : ∃ u, Hid (shL s bx by_ n c = u) := ⟨_, rfl⟩
    obtain ⟨n0, Hn0⟩ : ∃ u, Hid (L0.length = u) := ⟨_, rfl⟩
    obtain ⟨n1, Hn1⟩ : ∃ u, Hid (L1.length = u) := ⟨_, rfl⟩
    have hn0 : n0 ≤ 67108864 := by rw [← Hn0.out, ← HL0.out]; exact bb_len _ _
    have hn1 : n1 ≤ 67108864 := by rw [← Hn1.out, ← HL1.out]; exact sh_len _ _ _ _ _
    have HC1 : Hid (∀ (W : World), s.ok W → Calls Try.prog 42 #[.agg #[.int .i64 s.r.x0, .int .i64 s.r.y0, .int .i64 s.r.x1, .int .i64 s.r.y1, .slice s.A s.n s.c], .int .i64 n] W (RetBE R0 L0 E0 W)) := fun W h => by
      have := bb_any s n W h (by omega)
      rw [HR0.out, HL0.out, HE0.out] at this
      exact this
    have HC2 : Hid (∀ (W : World), s.ok W → Calls Try.prog 44 #[.agg #[.int .i64 s.r.x0, .int .i64 s.r.y0, .int .i64 s.r.x1, .int .i64 s.r.y1, .slice s.A s.n s.c], .int .i64 n] W (RetBE R0 L0 E0 W)) := fun W h => by
      have := rbb_any s n W h (by omega)
      rw [HR0.out, HL0.out, HE0.out] at this
      exact this
    have HC3 : Hid (∀ (W : World), s.ok W → Calls Try.prog 45 #[.agg #[.int .i64 s.r.x0, .int .i64 s.r.y0, .int .i64 s.r.x1, .int .i64 s.r.y1, .slice s.A s.n s.c], .agg #[.int .i64 bx, .int .i64 by_], .int .i64 n, .agg #[.int .u8 c.r, .int .u8 c.g, .int .u8 c.b, .int .u8 c.a]] W (RetBE R0 L1 E0 W)) := fun W h => by
      have := sh_any s bx by_ n c W h (by omega) HCB.out
      rw [HR0.out, HL1.out, HE0.out] at this
      exact this
    have HC4 : Hid (∀ (W : World), s.ok W → Calls Try.prog 46 #[.agg #[.int .i64 s.r.x0, .int .i64 s.r.y0, .int .i64 s.r.x1, .int .i64 s.r.y1, .slice s.A s.n s.c], .agg #[.int .i64 bx, .int .i64 by_], .int .i64 n, .agg #[.int .u8 c.r, .int .u8 c.g, .int .u8 c.b, .int .u8 c.a]] W (RetBE R0 L1 E0 W)) := fun W h => by
      have := rsh_any s bx by_ n c W h (by omega) HCB.out
      rw [HR0.out, HL1.out, HE0.out] at this
      exact this
    have hee0 : (E0 == E0) = true := by simp
    go_enter Try.func11, Try.ntmps11
    go_wp2_with fail
    refine (HC1.out _ (HS.out.below (by repeat (first | (with_reducible exact Below.refl _ _) | (with_reducible refine balloc ?_ _) | (with_reducible refine Below.drew ?_) | (with_reducible refine bdrewN ?_ _) | ((with_reducible refine bset ?_ ?_ _); rotate_left; focus (first | (with_reducible exact Nat.le_refl _) | (simp; done) | (simp; omega) | omega)) | (with_reducible refine bstep (by with_reducible assumption) ?_))))).mono ?_
    rintro e w1 ⟨v1, rfl, ho1, hb1⟩
    have kS1 : Bk w1 (w.heap.size) 28 #[.int .i64 s.r.x0, .int .i64 s.r.y0, .int .i64 s.r.x1, .int .i64 s.r.y1, .slice s.A s.n s.c] := (by repeat (first | (with_reducible assumption) | ((with_reducible refine Bk.new _ _ _ ?_); first | (with_reducible rfl) | (simp; done)) | (with_reducible refine Bk.alloc ?_ _) | (with_reducible refine Bk.drew ?_) | (with_reducible refine Bk.drewN ?_ _) | ((with_reducible refine Bk.far ?_ ?_ _); rotate_left; focus (first | (simp; done) | (simp; omega))) | (with_reducible refine Bk.below ?_ (by with_reducible assumption)))); obtain ⟨kcS1, kfS1, kaS1, kgS1, klS1⟩ := kS1.rules
    obtain ⟨A1, c1, hv1, hr1, hle1, hmx1⟩ := ho1.form2 encP_len
    rw [Hn0.out] at hv1 hle1
    subst hv1
    have HR1 := Lib.hid hr1
    have HC1 := Lib.hid (And.intro hle1 hmx1)
    clear hr1 hle1 hmx1
    clear ho1
    
    go_wp2_with fail
    refine (HC2.out _ (HS.out.below (by repeat (first | (with_reducible exact Below.refl _ _) | (with_reducible refine balloc ?_ _) | (with_reducible refine Below.drew ?_) | (with_reducible refine bdrewN ?_ _) | ((with_reducible refine bset ?_ ?_ _); rotate_left; focus (first | (with_reducible exact Nat.le_refl _) | (simp; done) | (simp; omega) | omega)) | (with_reducible refine bstep (by with_reducible assumption) ?_))))).mono ?_
    rintro e w2 ⟨v2, rfl, ho2, hb2⟩
    clear kcS1 kfS1 kaS1 kgS1
    have kS2 : Bk w2 (w.heap.size) 28 #[.int .i64 s.r.x0, .int .i64 s.r.y0, .int .i64 s.r.x1, .int .i64 s.r.y1, .slice s.A s.n s.c] := (by repeat (first | (with_reducible assumption) | ((with_reducible refine Bk.new _ _ _ ?_); first | (with_reducible rfl) | (simp; done)) | (with_reducible refine Bk.alloc ?_ _) | (with_reducible refine Bk.drew ?_) | (with_reducible refine Bk.drewN ?_ _) | ((with_reducible refine Bk.far ?_ ?_ _); rotate_left; focus (first | (simp; done) | (simp; omega))) | (with_reducible refine Bk.below ?_ (by with_reducible assumption)))); obtain ⟨kcS2, kfS2, kaS2, kgS2, klS2⟩ := kS2.rules; have kP2 : Bk w2 (w.heap.size + 1) 70 #[.int .i64 bx, .int .i64 by_] := (by repeat (first | (with_reducible assumption) | ((with_reducible refine Bk.new _ _ _ ?_); first | (with_reducible rfl) | (simp; done)) | (with_reducible refine Bk.alloc ?_ _) | (with_reducible refine Bk.drew ?_) | (with_reducible refine Bk.drewN ?_ _) | ((with_reducible refine Bk.far ?_ ?_ _); rotate_left; focus (first | (simp; done) | (simp; omega))) | (with_reducible refine Bk.below ?_ (by with_reducible assumption)))); obtain ⟨kcP2, kfP2, kaP2, kgP2, klP2⟩ := kP2.rules; have kK2 : Bk w2 (w.heap.size + 1 + 1) 71 #[.int .u8 c.r, .int .u8 c.g, .int .u8 c.b, .int .u8 c.a] := (by repeat (first | (with_reducible assumption) | ((with_reducible refine Bk.new _ _ _ ?_); first | (with_reducible rfl) | (simp; done)) | (with_reducible refine Bk.alloc ?_ _) | (with_reducible refine Bk.drew ?_) | (with_reducible refine Bk.drewN ?_ _) | ((with_reducible refine Bk.far ?_ ?_ _); rotate_left; focus (first | (simp; done) | (simp; omega))) | (with_reducible refine Bk.below ?_ (by with_reducible assumption)))); obtain ⟨kcK2, kfK2, kaK2, kgK2, klK2⟩ := kK2.rules
    obtain ⟨A2, c2, hv2, hr2, hle2, hmx2⟩ := ho2.form2 encP_len
    rw [Hn0.out] at hv2 hle2
    subst hv2
    have HR2 := Lib.hid hr2
    have HC2 := Lib.hid (And.intro hle2 hmx2)
    clear hr2 hle2 hmx2
    clear ho2
    
    go_wp2_with fail
    refine (HC3.out _ (HS.out.below (by repeat (first | (with_reducible exact Below.refl _ _) | (with_reducible refine balloc ?_ _) | (with_reducible refine Below.drew ?_) | (with_reducible refine bdrewN ?_ _) | ((with_reducible refine bset ?_ ?_ _); rotate_left; focus (first | (with_reducible exact Nat.le_refl _) | (simp; done) | (simp; omega) | omega)) | (with_reducible refine bstep (by with_reducible assumption) ?_))))).mono ?_
    rintro e w3 ⟨v3, rfl, ho3, hb3⟩
    clear kcS2 kfS2 kaS2 kgS2 kcP2 kfP2 kaP2 kgP2 kcK2 kfK2 kaK2 kgK2
    have kS3 : Bk w3 (w.heap.size) 28 #[.int .i64 s.r.x0, .int .i64 s.r.y0, .int .i64 s.r.x1, .int .i64 s.r.y1, .slice s.A s.n s.c] := (by repeat (first | (with_reducible assumption) | ((with_reducible refine Bk.new _ _ _ ?_); first | (with_reducible rfl) | (simp; done)) | (with_reducible refine Bk.alloc ?_ _) | (with_reducible refine Bk.drew ?_) | (with_reducible refine Bk.drewN ?_ _) | ((with_reducible refine Bk.far ?_ ?_ _); rotate_left; focus (first | (simp; done) | (simp; omega))) | (with_reducible refine Bk.below ?_ (by with_reducible assumption)))); obtain ⟨kcS3, kfS3, kaS3, kgS3, klS3⟩ := kS3.rules; have kP3 : Bk w3 (w.heap.size + 1) 70 #[.int .i64 bx, .int .i64 by_] := (by repeat (first | (with_reducible assumption) | ((with_reducible refine Bk.new _ _ _ ?_); first | (with_reducible rfl) | (simp; done)) | (with_reducible refine Bk.alloc ?_ _) | (with_reducible refine Bk.drew ?_) | (with_reducible refine Bk.drewN ?_ _) | ((with_reducible refine Bk.far ?_ ?_ _); rotate_left; focus (first | (simp; done) | (simp; omega))) | (with_reducible refine Bk.below ?_ (by with_reducible assumption)))); obtain ⟨kcP3, kfP3, kaP3, kgP3, klP3⟩ := kP3.rules; have kK3 : Bk w3 (w.heap.size + 1 + 1) 71 #[.int .u8 c.r, .int .u8 c.g, .int .u8 c.b, .int .u8 c.a] := (by repeat (first | (with_reducible assumption) | ((with_reducible refine Bk.new _ _ _ ?_); first | (with_reducible rfl) | (simp; done)) | (with_reducible refine Bk.alloc ?_ _) | (with_reducible refine Bk.drew ?_) | (with_reducible refine Bk.drewN ?_ _) | ((with_reducible refine Bk.far ?_ ?_ _); rotate_left; focus (first | (simp; done) | (simp; omega))) | (with_reducible refine Bk.below ?_ (by with_reducible assumption)))); obtain ⟨kcK3, kfK3, kaK3, kgK3, klK3⟩ := kK3.rules
    obtain ⟨A3, c3, hv3, hr3, hle3, hmx3⟩ := ho3.form2 encP_len
    rw [Hn1.out] at hv3 hle3
    subst hv3
    have HR3 := Lib.hid hr3
    have HC3 := Lib.hid (And.intro hle3 hmx3)
    clear hr3 hle3 hmx3
    clear ho3
    
    go_wp2_with fail
    refine (HC4.out _ (HS.out.below (by repeat (first | (with_reducible exact Below.refl _ _) | (with_reducible refine balloc ?_ _) | (with_reducible refine Below.drew ?_) | (with_reducible refine bdrewN ?_ _) | ((with_reducible refine bset ?_ ?_ _); rotate_left; focus (first | (with_reducible exact Nat.le_refl _) | (simp; done) | (simp; omega) | omega)) | (with_reducible refine bstep (by with_reducible assumption) ?_))))).mono ?_
    rintro e w4 ⟨v4, rfl, ho4, hb4⟩
    clear kcS3 kfS3 kaS3 kgS3 kcP3 kfP3 kaP3 kgP3 kcK3 kfK3 kaK3 kgK3
    have kX14 : Bk w4 (w1.heap.size) 28 #[.int .i64 R0.x0, .int .i64 R0.y0, .int .i64 R0.x1, .int .i64 R0.y1, .slice A1 n0 c1] := (by repeat (first | (with_reducible assumption) | ((with_reducible refine Bk.new _ _ _ ?_); first | (with_reducible rfl) | (simp; done)) | (with_reducible refine Bk.alloc ?_ _) | (with_reducible refine Bk.drew ?_) | (with_reducible refine Bk.drewN ?_ _) | ((with_reducible refine Bk.far ?_ ?_ _); rotate_left; focus (first | (simp; done) | (simp; omega))) | (with_reducible refine Bk.below ?_ (by with_reducible assumption)))); obtain ⟨kcX14, kfX14, kaX14, kgX14, klX14⟩ := kX14.rules; have kX24 : Bk w4 (w2.heap.size) 28 #[.int .i64 R0.x0, .int .i64 R0.y0, .int .i64 R0.x1, .int .i64 R0.y1, .slice A2 n0 c2] := (by repeat (first | (with_reducible assumption) | ((with_reducible refine Bk.new _ _ _ ?_); first | (with_reducible rfl) | (simp; done)) | (with_reducible refine Bk.alloc ?_ _) | (with_reducible refine Bk.drew ?_) | (with_reducible refine Bk.drewN ?_ _) | ((with_reducible refine Bk.far ?_ ?_ _); rotate_left; focus (first | (simp; done) | (simp; omega))) | (with_reducible refine Bk.below ?_ (by with_reducible assumption)))); obtain ⟨kcX24, kfX24, kaX24, kgX24, klX24⟩ := kX24.rules
    obtain ⟨A4, c4, hv4, hr4, hle4, hmx4⟩ := ho4.form2 encP_len
    rw [Hn1.out] at hv4 hle4
    subst hv4
    have HR4 := Lib.hid hr4
    have HC4 := Lib.hid (And.intro hle4 hmx4)
    clear hr4 hle4 hmx4
    clear ho4
    
    go_wp2_with fail
    refine (requal_any R0 R0 A1 A2 n0 n0 c1 c2 L0 L0 _ (HR1.out.below (by repeat (first | (with_reducible exact Below.refl _ _) | (with_reducible refine balloc ?_ _) | (with_reducible refine Below.drew ?_) | (with_reducible refine bdrewN ?_ _) | ((with_reducible refine bset ?_ ?_ _); rotate_left; focus (first | (with_reducible exact Nat.le_refl _) | (simp; done) | (simp; omega) | omega)) | (with_reducible refine bstep (by with_reducible assumption) ?_)))) (HR2.out.below (by repeat (first | (with_reducible exact Below.refl _ _) | (with_reducible refine balloc ?_ _) | (with_reducible refine Below.drew ?_) | (with_reducible refine bdrewN ?_ _) | ((with_reducible refine bset ?_ ?_ _); rotate_left; focus (first | (with_reducible exact Nat.le_refl _) | (simp; done) | (simp; omega) | omega)) | (with_reducible refine bstep (by with_reducible assumption) ?_)))) Hn0.out Hn0.out (by omega) (by omega) true ⟨fun _ => ⟨rfl, rfl⟩, fun _ => rfl⟩).mono ?_
    rintro e w5 ⟨rfl, hb5⟩
    clear kcX14 kfX14 kaX14 kgX14 kcX24 kfX24 kaX24 kgX24
    have kX35 : Bk w5 (w3.heap.size) 28 #[.int .i64 R0.x0, .int .i64 R0.y0, .int .i64 R0.x1, .int .i64 R0.y1, .slice A3 n1 c3] := (by repeat (first | (with_reducible assumption) | ((with_reducible refine Bk.new _ _ _ ?_); first | (with_reducible rfl) | (simp; done)) | (with_reducible refine Bk.alloc ?_ _) | (with_reducible refine Bk.drew ?_) | (with_reducible refine Bk.drewN ?_ _) | ((with_reducible refine Bk.far ?_ ?_ _); rotate_left; focus (first | (simp; done) | (simp; omega))) | (with_reducible refine Bk.below ?_ (by with_reducible assumption)))); obtain ⟨kcX35, kfX35, kaX35, kgX35, klX35⟩ := kX35.rules; have kX45 : Bk w5 (w4.heap.size) 28 #[.int .i64 R0.x0, .int .i64 R0.y0, .int .i64 R0.x1, .int .i64 R0.y1, .slice A4 n1 c4] := (by repeat (first | (with_reducible assumption) | ((with_reducible refine Bk.new _ _ _ ?_); first | (with_reducible rfl) | (simp; done)) | (with_reducible refine Bk.alloc ?_ _) | (with_reducible refine Bk.drew ?_) | (with_reducible refine Bk.drewN ?_ _) | ((with_reducible refine Bk.far ?_ ?_ _); rotate_left; focus (first | (simp; done) | (simp; omega))) | (with_reducible refine Bk.below ?_ (by with_reducible assumption)))); obtain ⟨kcX45, kfX45, kaX45, kgX45, klX45⟩ := kX45.rules
    go_wp2_with fail
    refine (requal_any R0 R0 A3 A4 n1 n1 c3 c4 L1 L1 _ (HR3.out.below (by repeat (first | (with_reducible exact Below.refl _ _) | (with_reducible refine balloc ?_ _) | (with_reducible refine Below.drew ?_) | (with_reducible refine bdrewN ?_ _) | ((with_reducible refine bset ?_ ?_ _); rotate_left; focus (first | (with_reducible exact Nat.le_refl _) | (simp; done) | (simp; omega) | omega)) | (with_reducible refine bstep (by with_reducible assumption) ?_)))) (HR4.out.below (by repeat (first | (with_reducible exact Below.refl _ _) | (with_reducible refine balloc ?_ _) | (with_reducible refine Below.drew ?_) | (with_reducible refine bdrewN ?_ _) | ((with_reducible refine bset ?_ ?_ _); rotate_left; focus (first | (with_reducible exact Nat.le_refl _) | (simp; done) | (simp; omega) | omega)) | (with_reducible refine bstep (by with_reducible assumption) ?_)))) Hn1.out Hn1.out (by omega) (by omega) true ⟨fun _ => ⟨rfl, rfl⟩, fun _ => rfl⟩).mono ?_
    rintro e w6 ⟨rfl, hb6⟩
    clear kcX35 kfX35 kaX35 kgX35 kcX45 kfX45 kaX45 kgX45
    go_wp2_with fail
    refine (ex_any _).mono ?_
    rintro e w7 ⟨rfl, hb7⟩
    go_wp2
    go_ret
    exact ⟨rfl, (by repeat (first | (with_reducible exact Below.refl _ _) | (with_reducible refine balloc ?_ _) | (with_reducible refine Below.drew ?_) | (with_reducible refine bdrewN ?_ _) | ((with_reducible refine bset ?_ ?_ _); rotate_left; focus (first | (with_reducible exact Nat.le_refl _) | (simp; done) | (simp; omega) | omega)) | (with_reducible refine bstep (by with_reducible assumption) ?_)))⟩

set_option maxRecDepth 100000 in
theorem lifted_BitmapBlur (os : Os) (started : os.Started) (H : Type) (enc : TypeId × Value → H) :
    ReturnsInHanded {} Try.checked os 11 .any (Rows.bitmapBlurSpec.pre6 enc Try.prog Try.f11 Rows.bitmapBlurRow.domain false) (Rows.bitmapBlurSpec.post enc Try.prog Try.f11 false true false false) := by
  refine returnsInHanded_of_change (C := Try.checked) Try.own started (by kernel_rfl) Try.func11
    (ChangeSpec.witness6 (enc := enc) (C := Try.checked) false ⟨#[], #[.agg #[.int .i64 0, .int .i64 0, .int .i64 0, .int .i64 0, .slice none 0 0], .int .i64 0, .agg #[.int .i64 0, .int .i64 0], .agg #[.int .u8 0, .int .u8 0, .int .u8 0, .int .u8 0]], []⟩ 8 (by kernel_rfl) (by kernel_rfl) (by kernel_rfl) (by kernel_rfl)) ?_
  intro W base args ds gs before hval0 hW hcnd _
  have hval : ∀ (j : Nat) t v, Try.f11.params[j]? = some t → args[j]? = some v → Value.okWide Try.prog W .any base t v := hval0
  have hW' := hW
  obtain ⟨p, q, hA0, hV, rfl, hfz, hnd⟩ := hW
  have hA : DataW.TrodAll enc Try.prog W 0 (fun _ => true) true Try.f11.params.toList args.toList ds p := hA0
  rw [Try.params11] at hA hval
  obtain ⟨v0, vs0, d0, ds0, p0, q0, hargs, rfl, rfl, h0, r0⟩ := trodAll_cons hA
  obtain ⟨v1, vs1, d1, ds1, p1, q1, rfl, rfl, rfl, h1, r1⟩ := trodAll_cons r0
  obtain ⟨v2, vs2, d2, ds2, p2, q2, rfl, rfl, rfl, h2, r2⟩ := trodAll_cons r1
  obtain ⟨v3, vs3, d3, ds3, p3, q3, rfl, rfl, rfl, h3, r3⟩ := trodAll_cons r2
  obtain ⟨rfl, rfl, rfl⟩ := trodAll_nil r3
  obtain rfl : args = #[v0, v1, v2, v3] := by cases args; simp_all
  obtain ⟨b0, rfl, ho0⟩ := openBm (hval 0 28 v0 rfl rfl) h0
  obtain ⟨x1, rfl, _, _, g1⟩ := open_int Try.underlying3 (hval 1 3 v1 rfl rfl) h1
  obtain ⟨c20, c21, y20, y21, n2, rfl, _, _, f20, f21⟩ := Joins.open_agg2 Try.underlying70 (by kernel_rfl) (by kernel_rfl) (hval 2 70 v2 rfl rfl) h2
  obtain ⟨x20, rfl, g20⟩ := fld_int Try.underlying3 f20
  obtain ⟨x21, rfl, g21⟩ := fld_int Try.underlying3 f21
  obtain ⟨c30, c31, c32, c33, y30, y31, y32, y33, n3, rfl, _, _, f30, f31, f32, f33⟩ := Joins.open_agg4 Try.underlying71 (by kernel_rfl) (by kernel_rfl) (hval 3 71 v3 rfl rfl) h3
  obtain ⟨x30, rfl, g30⟩ := fld_int Try.underlying5 f30
  obtain ⟨x31, rfl, g31⟩ := fld_int Try.underlying5 f31
  obtain ⟨x32, rfl, g32⟩ := fld_int Try.underlying5 f32
  obtain ⟨x33, rfl, g33⟩ := fld_int Try.underlying5 f33
  refine (walk_BitmapBlur b0 x1 x20 x21 ⟨x30, x31, x32, x33⟩ W ho0 (px_byte g30 g31 g32 g33)).mono fun e W' ⟨he, hb⟩ => ?_
  subst he
  exact ⟨_, rfl, law_post (tb := 4) Try.laidOut (by kernel_rfl) hW' rfl rfl Try.underlying4 rfl rfl rfl hb⟩

theorem BitmapBlur_holds : Rows.BitmapBlurSaid :=
  OpenClaim.holds_of_wide 11 Try.f11 rfl rfl rfl rfl rfl rfl rfl ⟨rfl, rfl, rfl, rfl, rfl⟩ rfl rfl rfl rfl rfl (by kernel_rfl) Try.func11 (by kernel_rfl)
    (of_decide_eq_true (by kernel_rfl)) (by unfold Func.isWrapper; first | (rw [if_pos (by decide +kernel)]; kernel_rfl) | (rw [if_neg (by decide +kernel)]; exact ⟨rfl, rfl⟩))
    (fun os started H enc _ => lifted_BitmapBlur os started H enc)
#print axioms BitmapBlur_holds
end Go.Proofs.Ytnefnnhnjmmebaa
