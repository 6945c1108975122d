/- BitmapCrop: for every pair of bitmaps with a mask, every mode and every rectangle the law grisaillelaw30.BitmapCrop returns true. No conditions. -/
import Derived.Test.YtnefnnhnjmmebaaCropQ
import Derived.Test.YtnefnnhnjmmebaaBm2
import Derived.Test.YtnefnnhnjmmebaaBm8
import Derived.Test.YtnefnnhnjmmebaaEx30
import Derived.Test.YtnefnnhnjmmebaaOpenX
import Derived.Test.YtnefnnhnjmmebaaPlB
namespace Go.Proofs.Ytnefnnhnjmmebaa
open Go.ChangeShapes Go.WideShapes Go.ChangeAt Go.RowKit
set_option linter.unusedSimpArgs false
set_option linter.unusedVariables false

set_option maxHeartbeats 1600000 in
theorem spair_any (s d : Bm) (m : Mk) (w : World) (v : Bool) (hv : Hid ((decide (s.n ≤ 2000) && decide (d.n ≤ 2000) && decide (m.n ≤ 2000)) = v)) :
    Calls Try.prog 22 #[.agg #[.int .i64 s.r.x0, .int .i64 s.r.y0, .int .i64 s.r.x1, .int .i64 s.r.y1, .slice s.A s.n s.c, .int .i64 d.r.x0, .int .i64 d.r.y0, .int .i64 d.r.x1, .int .i64 d.r.y1, .slice d.A d.n d.c, .int .i64 m.r.x0, .int .i64 m.r.y0, .int .i64 m.r.x1, .int .i64 m.r.y1, .slice m.A m.n m.c]] w fun e w' => e = .returned (.bool v) ∧ Below w.heap.size w w' := by
  cases h1 : decide (s.n ≤ 2000) with
  | false =>
    have H1 := Lib.hid h1
    obtain rfl : false = v := by have h := hv.out; rw [h1] at h; exact h
    clear h1 hv
    go_enter Try.func22, Try.ntmps22
    go_wp2_with fail
    refine (small_any s.r s.A s.n s.c _ false H1).mono ?_
    rintro e w1 ⟨rfl, hb1⟩
    go_wp2
    go_ret
    exact ⟨rfl, (by repeat (first | (with_reducible exact Below.refl _ _) | (with_reducible refine balloc ?_ _) | (with_reducible refine Below.drew ?_) | (with_reducible refine bdrewN ?_ _) | ((with_reducible refine bset ?_ ?_ _); rotate_left; focus (first | (with_reducible exact Nat.le_refl _) | (simp; done) | (simp; omega) | omega)) | (with_reducible refine bstep (by with_reducible assumption) ?_)))⟩
  | true =>
    have H1 := Lib.hid h1
    cases h2 : decide (d.n ≤ 2000) with
    | false =>
      have H2 := Lib.hid h2
      obtain rfl : false = v := by have h := hv.out; rw [h1, h2] at h; exact h
      clear h1 h2 hv
      go_enter Try.func22, Try.ntmps22
      go_wp2_with fail
      refine (small_any s.r s.A s.n s.c _ true H1).mono ?_
      rintro e w1 ⟨rfl, hb1⟩
      have kX1 : Bk w1 (w.heap.size) 43 #[.int .i64 s.r.x0, .int .i64 s.r.y0, .int .i64 s.r.x1, .int .i64 s.r.y1, .slice s.A s.n s.c, .int .i64 d.r.x0, .int .i64 d.r.y0, .int .i64 d.r.x1, .int .i64 d.r.y1, .slice d.A d.n d.c, .int .i64 m.r.x0, .int .i64 m.r.y0, .int .i64 m.r.x1, .int .i64 m.r.y1, .slice m.A m.n m.c] := (by repeat (first | (with_reducible assumption) | ((with_reducible refine Bk.new _ _ _ ?_); first | (with_reducible rfl) | (simp; done)) | (with_reducible refine Bk.alloc ?_ _) | (with_reducible refine Bk.drew ?_) | (with_reducible refine Bk.drewN ?_ _) | ((with_reducible refine Bk.far ?_ ?_ _); rotate_left; focus (first | (simp; done) | (simp; omega))) | (with_reducible refine Bk.below ?_ (by with_reducible assumption)))); obtain ⟨kcX1, kfX1, kaX1, kgX1, klX1⟩ := kX1.rules
      go_wp2_with fail
      refine (small_any d.r d.A d.n d.c _ false H2).mono ?_
      rintro e w2 ⟨rfl, hb2⟩
      clear kcX1 kfX1 kaX1 kgX1
      go_wp2
      go_ret
      exact ⟨rfl, (by repeat (first | (with_reducible exact Below.refl _ _) | (with_reducible refine balloc ?_ _) | (with_reducible refine Below.drew ?_) | (with_reducible refine bdrewN ?_ _) | ((with_reducible refine bset ?_ ?_ _); rotate_left; focus (first | (with_reducible exact Nat.le_refl _) | (simp; done) | (simp; omega) | omega)) | (with_reducible refine bstep (by with_reducible assumption) ?_)))⟩
    | true =>
      have H2 := Lib.hid h2
      have H3 : decide (m.n ≤ 2000) = v := by have h := hv.out; rw [h1, h2] at h; exact h
      clear h1 h2 hv
      cases v with
      | false =>
        have H4 : ¬ (m.n ≤ 2000) := of_decide_eq_false H3
        have H5 : ¬ ((m.n : Int) ≤ 2000) := by omega
        clear H3
        go_enter Try.func22, Try.ntmps22
        go_wp2_with fail
        refine (small_any s.r s.A s.n s.c _ true H1).mono ?_
        rintro e w1 ⟨rfl, hb1⟩
        have kX1 : Bk w1 (w.heap.size) 43 #[.int .i64 s.r.x0, .int .i64 s.r.y0, .int .i64 s.r.x1, .int .i64 s.r.y1, .slice s.A s.n s.c, .int .i64 d.r.x0, .int .i64 d.r.y0, .int .i64 d.r.x1, .int .i64 d.r.y1, .slice d.A d.n d.c, .int .i64 m.r.x0, .int .i64 m.r.y0, .int .i64 m.r.x1, .int .i64 m.r.y1, .slice m.A m.n m.c] := (by repeat (first | (with_reducible assumption) | ((with_reducible refine Bk.new _ _ _ ?_); first | (with_reducible rfl) | (simp; done)) | (with_reducible refine Bk.alloc ?_ _) | (with_reducible refine Bk.drew ?_) | (with_reducible refine Bk.drewN ?_ _) | ((with_reducible refine Bk.far ?_ ?_ _); rotate_left; focus (first | (simp; done) | (simp; omega))) | (with_reducible refine Bk.below ?_ (by with_reducible assumption)))); obtain ⟨kcX1, kfX1, kaX1, kgX1, klX1⟩ := kX1.rules
        go_wp2_with fail
        refine (small_any d.r d.A d.n d.c _ true H2).mono ?_
        rintro e w2 ⟨rfl, hb2⟩
        clear kcX1 kfX1 kaX1 kgX1
        have kX2 : Bk w2 (w.heap.size) 43 #[.int .i64 s.r.x0, .int .i64 s.r.y0, .int .i64 s.r.x1, .int .i64 s.r.y1, .slice s.A s.n s.c, .int .i64 d.r.x0, .int .i64 d.r.y0, .int .i64 d.r.x1, .int .i64 d.r.y1, .slice d.A d.n d.c, .int .i64 m.r.x0, .int .i64 m.r.y0, .int .i64 m.r.x1, .int .i64 m.r.y1, .slice m.A m.n m.c] := (by repeat (first | (with_reducible assumption) | ((with_reducible refine Bk.new _ _ _ ?_); first | (with_reducible rfl) | (simp; done)) | (with_reducible refine Bk.alloc ?_ _) | (with_reducible refine Bk.drew ?_) | (with_reducible refine Bk.drewN ?_ _) | ((with_reducible refine Bk.far ?_ ?_ _); rotate_left; focus (first | (simp; done) | (simp; omega))) | (with_reducible refine Bk.below ?_ (by with_reducible assumption)))); obtain ⟨kcX2, kfX2, kaX2, kgX2, klX2⟩ := kX2.rules
        go_wp2
        go_ret
        exact ⟨by first | rfl | exact ret_bool (by simp; omega) | exact ret_bool (by simp [H4]), (by repeat (first | (with_reducible exact Below.refl _ _) | (with_reducible refine balloc ?_ _) | (with_reducible refine Below.drew ?_) | (with_reducible refine bdrewN ?_ _) | ((with_reducible refine bset ?_ ?_ _); rotate_left; focus (first | (with_reducible exact Nat.le_refl _) | (simp; done) | (simp; omega) | omega)) | (with_reducible refine bstep (by with_reducible assumption) ?_)))⟩
      | true =>
        have H4 : m.n ≤ 2000 := of_decide_eq_true H3
        have H5 : (m.n : Int) ≤ 2000 := by omega
        clear H3
        go_enter Try.func22, Try.ntmps22
        go_wp2_with fail
        refine (small_any s.r s.A s.n s.c _ true H1).mono ?_
        rintro e w1 ⟨rfl, hb1⟩
        have kX1 : Bk w1 (w.heap.size) 43 #[.int .i64 s.r.x0, .int .i64 s.r.y0, .int .i64 s.r.x1, .int .i64 s.r.y1, .slice s.A s.n s.c, .int .i64 d.r.x0, .int .i64 d.r.y0, .int .i64 d.r.x1, .int .i64 d.r.y1, .slice d.A d.n d.c, .int .i64 m.r.x0, .int .i64 m.r.y0, .int .i64 m.r.x1, .int .i64 m.r.y1, .slice m.A m.n m.c] := (by repeat (first | (with_reducible assumption) | ((with_reducible refine Bk.new _ _ _ ?_); first | (with_reducible rfl) | (simp; done)) | (with_reducible refine Bk.alloc ?_ _) | (with_reducible refine Bk.drew ?_) | (with_reducible refine Bk.drewN ?_ _) | ((with_reducible refine Bk.far ?_ ?_ _); rotate_left; focus (first | (simp; done) | (simp; omega))) | (with_reducible refine Bk.below ?_ (by with_reducible assumption)))); obtain ⟨kcX1, kfX1, kaX1, kgX1, klX1⟩ := kX1.rules
        go_wp2_with fail
        refine (small_any d.r d.A d.n d.c _ true H2).mono ?_
        rintro e w2 ⟨rfl, hb2⟩
        clear kcX1 kfX1 kaX1 kgX1
        have kX2 : Bk w2 (w.heap.size) 43 #[.int .i64 s.r.x0, .int .i64 s.r.y0, .int .i64 s.r.x1, .int .i64 s.r.y1, .slice s.A s.n s.c, .int .i64 d.r.x0, .int .i64 d.r.y0, .int .i64 d.r.x1, .int .i64 d.r.y1, .slice d.A d.n d.c, .int .i64 m.r.x0, .int .i64 m.r.y0, .int .i64 m.r.x1, .int .i64 m.r.y1, .slice m.A m.n m.c] := (by repeat (first | (with_reducible assumption) | ((with_reducible refine Bk.new _ _ _ ?_); first | (with_reducible rfl) | (simp; done)) | (with_reducible refine Bk.alloc ?_ _) | (with_reducible refine Bk.drew ?_) | (with_reducible refine Bk.drewN ?_ _) | ((with_reducible refine Bk.far ?_ ?_ _); rotate_left; focus (first | (simp; done) | (simp; omega))) | (with_reducible refine Bk.below ?_ (by with_reducible assumption)))); obtain ⟨kcX2, kfX2, kaX2, kgX2, klX2⟩ := kX2.rules
        go_wp2
        go_ret
        exact ⟨by first | rfl | exact ret_bool (by simp; omega) | exact ret_bool (by simp [H4]), (by repeat (first | (with_reducible exact Below.refl _ _) | (with_reducible refine balloc ?_ _) | (with_reducible refine Below.drew ?_) | (with_reducible refine bdrewN ?_ _) | ((with_reducible refine bset ?_ ?_ _); rotate_left; focus (first | (with_reducible exact Nat.le_refl _) | (simp; done) | (simp; omega) | omega)) | (with_reducible refine bstep (by with_reducible assumption) ?_)))⟩
theorem bo_len (mode : Int) (s d : Bm) (m : Mk) : (boL mode s d m).length ≤ 67108864 := by
  unfold boL
  split
  · next h =>
    have hv : bmValid d.r d.l = true := by unfold boV vBm at h; simp at h; exact h.1.1.2
    have h3 := pix_len (boG mode s d m) d.r
    rw [(valid_cn hv).1] at h3
    have := (area_bd d.r).2
    omega
  · simp
theorem lm_len (s d : Bm) (m : Mk) : (lmL s d m).length ≤ 67108864 := by
  unfold lmL
  split
  · next h =>
    have hv : bmValid s.r s.l = true := by unfold lmV vBm at h; simp at h; exact h.1.1
    have h3 := pix_len (lmG s d m) s.r
    rw [(valid_cn hv).1] at h3
    have := (area_bd s.r).2
    omega
  · simp
theorem okB_own (r : Rc) {A : Option Addr} {n c base : Nat} {l : List Px} {w : World} (ho : OwnL encP 25 4 w base (.slice A n c) l) (hn : l.length = n) (hb : pxsB l) : Bm.ok ⟨r, A, n, c, l⟩ w := by
  obtain ⟨A', c', hv, hr, hle, hmx⟩ := ho.form2 encP_len
  injection hv with h1 h2 h3
  exact ⟨by rw [h1]; exact hr, hn, hb, by rw [h2, h3]; exact hle, by rw [h3]; exact hmx⟩

set_option maxRecDepth 100000 in
set_option maxHeartbeats 12800000 in
theorem walk_BitmapCrop (s d : Bm) (m : Mk) (mode : Int) (r : Rc) (w : World) (hs : s.ok w) (hd : d.ok w) (hm : m.ok w) :
    Calls Try.prog 9 #[.agg #[.int .i64 s.r.x0, .int .i64 s.r.y0, .int .i64 s.r.x1, .int .i64 s.r.y1, .slice s.A s.n s.c, .int .i64 d.r.x0, .int .i64 d.r.y0, .int .i64 d.r.x1, .int .i64 d.r.y1, .slice d.A d.n d.c, .int .i64 m.r.x0, .int .i64 m.r.y0, .int .i64 m.r.x1, .int .i64 m.r.y1, .slice m.A m.n m.c], .int .i64 mode, .agg #[.int .i64 r.x0, .int .i64 r.y0, .int .i64 r.x1, .int .i64 r.y1]] w fun e w' => e = .returned (.bool true) ∧ Below w.heap.size w w' := by
  have HS := Lib.hid hs
  have HD := Lib.hid hd
  have HM := Lib.hid hm
  clear hs hd hm
  cases hsp : (decide (s.n ≤ 2000) && decide (d.n ≤ 2000) && decide (m.n ≤ 2000)) with
  | false =>
    have HSP := Lib.hid hsp
    clear hsp
    go_enter Try.func9, Try.ntmps9
    go_wp2_with fail
    refine (spair_any s d m _ false HSP).mono ?_
    rintro e w1 ⟨rfl, hb1⟩
    go_wp2_with fail
    refine (ex_any _).mono ?_
    rintro e w2 ⟨rfl, hb2⟩
    go_wp2
    go_ret
    exact ⟨rfl, (by repeat (first | (with_reducible exact Below.refl _ _) | (with_reducible refine balloc ?_ _) | (with_reducible refine Below.drew ?_) | (with_reducible refine bdrewN ?_ _) | ((with_reducible refine bset ?_ ?_ _); rotate_left; focus (first | (with_reducible exact Nat.le_refl _) | (simp; done) | (simp; omega) | omega)) | (with_reducible refine bstep (by with_reducible assumption) ?_)))⟩
  | true =>
    have HSP := Lib.hid hsp
    obtain ⟨l1, l2, l3⟩ : s.n ≤ 2000 ∧ d.n ≤ 2000 ∧ m.n ≤ 2000 := by simpa [and_assoc] using hsp
    clear hsp
    obtain ⟨R0, HR0⟩ : ∃ u, Hid (boR mode s d m = u) := ⟨_, rfl⟩
    obtain ⟨L0, HL0⟩ : ∃ u, Hid (boL mode s d m = u) := ⟨_, rfl⟩
    obtain ⟨R1, HR1⟩ : ∃ u, Hid (lmR d s m = u) := ⟨_, rfl⟩
    obtain ⟨L1, HL1⟩ : ∃ u, Hid (lmL d s m = u) := ⟨_, rfl⟩
    obtain ⟨R2, HR2⟩ : ∃ u, Hid (pasR d [s] = u) := ⟨_, rfl⟩
    obtain ⟨L2, HL2⟩ : ∃ u, Hid (pasL d [s] = u) := ⟨_, rfl⟩
    obtain ⟨RE, HRE⟩ : ∃ u, Hid (crR d r = u) := ⟨_, rfl⟩
    obtain ⟨LE, HLE⟩ : ∃ u, Hid (crL d r = u) := ⟨_, rfl⟩
    obtain ⟨n0, Hn0⟩ : ∃ u, Hid (L0.length = u) := ⟨_, rfl⟩
    obtain ⟨n1, Hn1⟩ : ∃ u, Hid (L1.length = u) := ⟨_, rfl⟩
    obtain ⟨n2, Hn2⟩ : ∃ u, Hid (L2.length = u) := ⟨_, rfl⟩
    obtain ⟨nE, HnE⟩ : ∃ u, Hid (LE.length = u) := ⟨_, rfl⟩
    obtain ⟨e0, He0⟩ : ∃ u, Hid (boE mode s d m = u) := ⟨_, rfl⟩
    obtain ⟨e1, He1⟩ : ∃ u, Hid (lmE d s m = u) := ⟨_, rfl⟩
    obtain ⟨e2, He2⟩ : ∃ u, Hid (pasE d [s] = u) := ⟨_, rfl⟩
    obtain ⟨e3, He3⟩ : ∃ u, Hid (crE d = u) := ⟨_, rfl⟩
    have hn0 : n0 ≤ 67108864 := by rw [← Hn0.out, ← HL0.out]; exact bo_len _ _ _ _
    have hn1 : n1 ≤ 67108864 := by rw [← Hn1.out, ← HL1.out]; exact lm_len _ _ _
    have hn2 : n2 ≤ 67108864 := by rw [← Hn2.out, ← HL2.out]; exact pas_len _ _
    have hnE : nE ≤ 67108864 := by rw [← HnE.out, ← HLE.out]; exact cr_len _ _
    cases hbv : boV mode s d m with
    | false =>
      have HBo : Hid (∀ (W : World), s.ok W → d.ok W → m.ok W → Calls Try.prog 23 #[.int .i64 mode, .agg #[.int .i64 s.r.x0, .int .i64 s.r.y0, .int .i64 s.r.x1, .int .i64 s.r.y1, .slice s.A s.n s.c], .agg #[.int .i64 d.r.x0, .int .i64 d.r.y0, .int .i64 d.r.x1, .int .i64 d.r.y1, .slice d.A d.n d.c], .agg #[.int .i64 m.r.x0, .int .i64 m.r.y0, .int .i64 m.r.x1, .int .i64 m.r.y1, .slice m.A m.n m.c]] W (RetBE R0 L0 e0 W)) := fun W h1 h2 h3 => by
        have := bo_any mode s d m W h1 h2 h3 (by omega) (by omega) (by omega)
        rw [HR0.out, HL0.out, He0.out] at this
        exact this
      have HLm : Hid (∀ (W : World), s.ok W → d.ok W → m.ok W → Calls Try.prog 24 #[.agg #[.int .i64 d.r.x0, .int .i64 d.r.y0, .int .i64 d.r.x1, .int .i64 d.r.y1, .slice d.A d.n d.c], .agg #[.int .i64 s.r.x0, .int .i64 s.r.y0, .int .i64 s.r.x1, .int .i64 s.r.y1, .slice s.A s.n s.c], .agg #[.int .i64 m.r.x0, .int .i64 m.r.y0, .int .i64 m.r.x1, .int .i64 m.r.y1, .slice m.A m.n m.c]] W (RetBE R1 L1 e1 W)) := fun W h1 h2 h3 => by
        have := lm_any d s m W h2 h1 h3 (by omega) (by omega) (by omega)
        rw [HR1.out, HL1.out, He1.out] at this
        exact this
      have HPa : Hid (∀ (A : Option Addr) (c : Nat) (W : World), d.ok W → RdL encBm 5 W A [s] → (∀ x ∈ [s], x.ok W) → Calls Try.prog 31 #[.agg #[.int .i64 d.r.x0, .int .i64 d.r.y0, .int .i64 d.r.x1, .int .i64 d.r.y1, .slice d.A d.n d.c], .slice A 1 c] W (RetBE R2 L2 e2 W)) := fun A c W h1 h2 h3 => by
        have := bpaste_any d A 1 c [s] W h1 (by omega) h2 rfl (by omega) h3 (fun x hx => by rw [List.mem_singleton.1 hx]; omega)
        rw [HR2.out, HL2.out, He2.out] at this
        exact this
      have HCr : Hid (∀ (W : World), d.ok W → Calls Try.prog 41 #[.agg #[.int .i64 d.r.x0, .int .i64 d.r.y0, .int .i64 d.r.x1, .int .i64 d.r.y1, .slice d.A d.n d.c], .agg #[.int .i64 r.x0, .int .i64 r.y0, .int .i64 r.x1, .int .i64 r.y1]] W (RetBE RE LE e3 W)) := fun W h1 => by
        have := bcrop_any d r W h1 (by omega)
        rw [HRE.out, HLE.out, He3.out] at this
        exact this
      have hne : (e0 != 0) = true := by
        rw [← He0.out]
        unfold boE
        have h := hbv
        unfold boV at h
        cases h1 : (vBm s && vBm d) with
        | false => rfl
        | true =>
          cases h2 : vMk m with
          | false => rfl
          | true =>
            cases h3 : validModeB mode with
            | false => rfl
            | true => rw [h1, h2, h3] at h; cases h
      clear hbv
      go_enter Try.func9, Try.ntmps9
      go_wp2_with fail
      refine (spair_any s d m _ true HSP).mono ?_
      rintro e w1 ⟨rfl, hb1⟩
      have kX1 : Bk w1 (w.heap.size) 43 #[.int .i64 s.r.x0, .int .i64 s.r.y0, .int .i64 s.r.x1, .int .i64 s.r.y1, .slice s.A s.n s.c, .int .i64 d.r.x0, .int .i64 d.r.y0, .int .i64 d.r.x1, .int .i64 d.r.y1, .slice d.A d.n d.c, .int .i64 m.r.x0, .int .i64 m.r.y0, .int .i64 m.r.x1, .int .i64 m.r.y1, .slice m.A m.n m.c] := (by repeat (first | (with_reducible assumption) | ((with_reducible refine Bk.new _ _ _ ?_); first | (with_reducible rfl) | (simp; done)) | (with_reducible refine Bk.alloc ?_ _) | (with_reducible refine Bk.drew ?_) | (with_reducible refine Bk.drewN ?_ _) | ((with_reducible refine Bk.far ?_ ?_ _); rotate_left; focus (first | (simp; done) | (simp; omega))) | (with_reducible refine Bk.below ?_ (by with_reducible assumption)))); obtain ⟨kcX1, kfX1, kaX1, kgX1, klX1⟩ := kX1.rules
      go_wp2_with fail
      refine (HBo.out _ (HS.out.below (by repeat (first | (with_reducible exact Below.refl _ _) | (with_reducible refine balloc ?_ _) | (with_reducible refine Below.drew ?_) | (with_reducible refine bdrewN ?_ _) | ((with_reducible refine bset ?_ ?_ _); rotate_left; focus (first | (with_reducible exact Nat.le_refl _) | (simp; done) | (simp; omega) | omega)) | (with_reducible refine bstep (by with_reducible assumption) ?_)))) (HD.out.below (by repeat (first | (with_reducible exact Below.refl _ _) | (with_reducible refine balloc ?_ _) | (with_reducible refine Below.drew ?_) | (with_reducible refine bdrewN ?_ _) | ((with_reducible refine bset ?_ ?_ _); rotate_left; focus (first | (with_reducible exact Nat.le_refl _) | (simp; done) | (simp; omega) | omega)) | (with_reducible refine bstep (by with_reducible assumption) ?_)))) (HM.out.below (by repeat (first | (with_reducible exact Below.refl _ _) | (with_reducible refine balloc ?_ _) | (with_reducible refine Below.drew ?_) | (with_reducible refine bdrewN ?_ _) | ((with_reducible refine bset ?_ ?_ _); rotate_left; focus (first | (with_reducible exact Nat.le_refl _) | (simp; done) | (simp; omega) | omega)) | (with_reducible refine bstep (by with_reducible assumption) ?_))))).mono ?_
      rintro e w2 ⟨v2, rfl, ho2, hb2⟩
      clear kcX1 kfX1 kaX1 kgX1
      have kX2 : Bk w2 (w.heap.size) 43 #[.int .i64 s.r.x0, .int .i64 s.r.y0, .int .i64 s.r.x1, .int .i64 s.r.y1, .slice s.A s.n s.c, .int .i64 d.r.x0, .int .i64 d.r.y0, .int .i64 d.r.x1, .int .i64 d.r.y1, .slice d.A d.n d.c, .int .i64 m.r.x0, .int .i64 m.r.y0, .int .i64 m.r.x1, .int .i64 m.r.y1, .slice m.A m.n m.c] := (by repeat (first | (with_reducible assumption) | ((with_reducible refine Bk.new _ _ _ ?_); first | (with_reducible rfl) | (simp; done)) | (with_reducible refine Bk.alloc ?_ _) | (with_reducible refine Bk.drew ?_) | (with_reducible refine Bk.drewN ?_ _) | ((with_reducible refine Bk.far ?_ ?_ _); rotate_left; focus (first | (simp; done) | (simp; omega))) | (with_reducible refine Bk.below ?_ (by with_reducible assumption)))); obtain ⟨kcX2, kfX2, kaX2, kgX2, klX2⟩ := kX2.rules
      obtain ⟨A2, c2, hv2, hr2, hle2, hmx2⟩ := ho2.form2 encP_len
      rw [Hn0.out] at hv2 hle2
      subst hv2
      have HR2 := Lib.hid hr2
      have HC2 := Lib.hid (And.intro hle2 hmx2)
      clear hr2 hle2 hmx2
      
      go_wp2_with fail
      refine (HLm.out _ (HS.out.below (by repeat (first | (with_reducible exact Below.refl _ _) | (with_reducible refine balloc ?_ _) | (with_reducible refine Below.drew ?_) | (with_reducible refine bdrewN ?_ _) | ((with_reducible refine bset ?_ ?_ _); rotate_left; focus (first | (with_reducible exact Nat.le_refl _) | (simp; done) | (simp; omega) | omega)) | (with_reducible refine bstep (by with_reducible assumption) ?_)))) (HD.out.below (by repeat (first | (with_reducible exact Below.refl _ _) | (with_reducible refine balloc ?_ _) | (with_reducible refine Below.drew ?_) | (with_reducible refine bdrewN ?_ _) | ((with_reducible refine bset ?_ ?_ _); rotate_left; focus (first | (with_reducible exact Nat.le_refl _) | (simp; done) | (simp; omega) | omega)) | (with_reducible refine bstep (by with_reducible assumption) ?_)))) (HM.out.below (by repeat (first | (with_reducible exact Below.refl _ _) | (with_reducible refine balloc ?_ _) | (with_reducible refine Below.drew ?_) | (with_reducible refine bdrewN ?_ _) | ((with_reducible refine bset ?_ ?_ _); rotate_left; focus (first | (with_reducible exact Nat.le_refl _) | (simp; done) | (simp; omega) | omega)) | (with_reducible refine bstep (by with_reducible assumption) ?_))))).mono ?_
      rintro e w3 ⟨v3, rfl, ho3, hb3⟩
      clear kcX2 kfX2 kaX2 kgX2
      have kX3 : Bk w3 (w.heap.size) 43 #[.int .i64 s.r.x0, .int .i64 s.r.y0, .int .i64 s.r.x1, .int .i64 s.r.y1, .slice s.A s.n s.c, .int .i64 d.r.x0, .int .i64 d.r.y0, .int .i64 d.r.x1, .int .i64 d.r.y1, .slice d.A d.n d.c, .int .i64 m.r.x0, .int .i64 m.r.y0, .int .i64 m.r.x1, .int .i64 m.r.y1, .slice m.A m.n m.c] := (by repeat (first | (with_reducible assumption) | ((with_reducible refine Bk.new _ _ _ ?_); first | (with_reducible rfl) | (simp; done)) | (with_reducible refine Bk.alloc ?_ _) | (with_reducible refine Bk.drew ?_) | (with_reducible refine Bk.drewN ?_ _) | ((with_reducible refine Bk.far ?_ ?_ _); rotate_left; focus (first | (simp; done) | (simp; omega))) | (with_reducible refine Bk.below ?_ (by with_reducible assumption)))); obtain ⟨kcX3, kfX3, kaX3, kgX3, klX3⟩ := kX3.rules
      obtain ⟨A3, c3, hv3, hr3, hle3, hmx3⟩ := ho3.form2 encP_len
      rw [Hn1.out] at hv3 hle3
      subst hv3
      have HR3 := Lib.hid hr3
      have HC3 := Lib.hid (And.intro hle3 hmx3)
      clear hr3 hle3 hmx3
      
      go_wp2_with fail
      refine (HPa.out _ _ _ (HD.out.below (by repeat (first | (with_reducible exact Below.refl _ _) | (with_reducible refine balloc ?_ _) | (with_reducible refine Below.drew ?_) | (with_reducible refine bdrewN ?_ _) | ((with_reducible refine bset ?_ ?_ _); rotate_left; focus (first | (with_reducible exact Nat.le_refl _) | (simp; done) | (simp; omega) | omega)) | (with_reducible refine bstep (by with_reducible assumption) ?_)))) (rd_of_bk (e := 28) encBm_len (Bk.new _ _ _ (by first | rfl | simp)) rfl) (fun x hx => by rw [List.mem_singleton.1 hx]; exact HS.out.below (by repeat (first | (with_reducible exact Below.refl _ _) | (with_reducible refine balloc ?_ _) | (with_reducible refine Below.drew ?_) | (with_reducible refine bdrewN ?_ _) | ((with_reducible refine bset ?_ ?_ _); rotate_left; focus (first | (with_reducible exact Nat.le_refl _) | (simp; done) | (simp; omega) | omega)) | (with_reducible refine bstep (by with_reducible assumption) ?_))))).mono ?_
      rintro e w4 ⟨v4, rfl, ho4, hb4⟩
      clear kcX3 kfX3 kaX3 kgX3
      have kX4 : Bk w4 (w.heap.size) 43 #[.int .i64 s.r.x0, .int .i64 s.r.y0, .int .i64 s.r.x1, .int .i64 s.r.y1, .slice s.A s.n s.c, .int .i64 d.r.x0, .int .i64 d.r.y0, .int .i64 d.r.x1, .int .i64 d.r.y1, .slice d.A d.n d.c, .int .i64 m.r.x0, .int .i64 m.r.y0, .int .i64 m.r.x1, .int .i64 m.r.y1, .slice m.A m.n m.c] := (by repeat (first | (with_reducible assumption) | ((with_reducible refine Bk.new _ _ _ ?_); first | (with_reducible rfl) | (simp; done)) | (with_reducible refine Bk.alloc ?_ _) | (with_reducible refine Bk.drew ?_) | (with_reducible refine Bk.drewN ?_ _) | ((with_reducible refine Bk.far ?_ ?_ _); rotate_left; focus (first | (simp; done) | (simp; omega))) | (with_reducible refine Bk.below ?_ (by with_reducible assumption)))); obtain ⟨kcX4, kfX4, kaX4, kgX4, klX4⟩ := kX4.rules; have kQ4 : Bk w4 (w.heap.size + 1) 23 #[.int .i64 r.x0, .int .i64 r.y0, .int .i64 r.x1, .int .i64 r.y1] := (by repeat (first | (with_reducible assumption) | ((with_reducible refine Bk.new _ _ _ ?_); first | (with_reducible rfl) | (simp; done)) | (with_reducible refine Bk.alloc ?_ _) | (with_reducible refine Bk.drew ?_) | (with_reducible refine Bk.drewN ?_ _) | ((with_reducible refine Bk.far ?_ ?_ _); rotate_left; focus (first | (simp; done) | (simp; omega))) | (with_reducible refine Bk.below ?_ (by with_reducible assumption)))); obtain ⟨kcQ4, kfQ4, kaQ4, kgQ4, klQ4⟩ := kQ4.rules
      obtain ⟨A4, c4, hv4, hr4, hle4, hmx4⟩ := ho4.form2 encP_len
      rw [Hn2.out] at hv4 hle4
      subst hv4
      have HR4 := Lib.hid hr4
      have HC4 := Lib.hid (And.intro hle4 hmx4)
      clear hr4 hle4 hmx4
      
      go_wp2_with fail
      refine (HCr.out _ (HD.out.below (by repeat (first | (with_reducible exact Below.refl _ _) | (with_reducible refine balloc ?_ _) | (with_reducible refine Below.drew ?_) | (with_reducible refine bdrewN ?_ _) | ((with_reducible refine bset ?_ ?_ _); rotate_left; focus (first | (with_reducible exact Nat.le_refl _) | (simp; done) | (simp; omega) | omega)) | (with_reducible refine bstep (by with_reducible assumption) ?_))))).mono ?_
      rintro e w5 ⟨v5, rfl, ho5, hb5⟩
      clear kcX4 kfX4 kaX4 kgX4 kcQ4 kfQ4 kaQ4 kgQ4
      obtain ⟨A5, c5, hv5, hr5, hle5, hmx5⟩ := ho5.form2 encP_len
      rw [HnE.out] at hv5 hle5
      subst hv5
      have HR5 := Lib.hid hr5
      have HC5 := Lib.hid (And.intro hle5 hmx5)
      clear hr5 hle5 hmx5
      
      go_wp2_with fail
      refine (ex_any _).mono ?_
      rintro e w6 ⟨rfl, hb6⟩
      go_wp2
      go_ret
      exact ⟨rfl, (by repeat (first | (with_reducible exact Below.refl _ _) | (with_reducible refine balloc ?_ _) | (with_reducible refine Below.drew ?_) | (with_reducible refine bdrewN ?_ _) | ((with_reducible refine bset ?_ ?_ _); rotate_left; focus (first | (with_reducible exact Nat.le_refl _) | (simp; done) | (simp; omega) | omega)) | (with_reducible refine bstep (by with_reducible assumption) ?_)))⟩
    | true =>
      obtain rfl : 0 = e0 := by rw [← He0.out]; unfold boE; have h := hbv; unfold boV at h; simp at h; rw [h.1.1.1, h.1.1.2, h.1.2, h.2]; rfl
      obtain rfl : 0 = e1 := by rw [← He1.out]; unfold lmE; have h := hbv; unfold boV at h; simp at h; rw [h.1.1.1, h.1.1.2, h.1.2]; rfl
      obtain rfl : 0 = e2 := by rw [← He2.out]; have h := hbv; unfold boV at h; simp at h; exact ((crop_pas (r := r) h.1.1.2 h.1.1.1 none none 0 0 0 0).2.1).symm
      obtain rfl : 0 = e3 := by rw [← He3.out]; have h := hbv; unfold boV at h; simp at h; exact ((cr_form h.1.1.2 r).2.2).symm
      have HBo : Hid (∀ (W : World), s.ok W → d.ok W → m.ok W → Calls Try.prog 23 #[.int .i64 mode, .agg #[.int .i64 s.r.x0, .int .i64 s.r.y0, .int .i64 s.r.x1, .int .i64 s.r.y1, .slice s.A s.n s.c], .agg #[.int .i64 d.r.x0, .int .i64 d.r.y0, .int .i64 d.r.x1, .int .i64 d.r.y1, .slice d.A d.n d.c], .agg #[.int .i64 m.r.x0, .int .i64 m.r.y0, .int .i64 m.r.x1, .int .i64 m.r.y1, .slice m.A m.n m.c]] W (RetBE R0 L0 0 W)) := fun W h1 h2 h3 => by
        have := bo_any mode s d m W h1 h2 h3 (by omega) (by omega) (by omega)
        rw [HR0.out, HL0.out, He0.out] at this
        exact this
      have HLm : Hid (∀ (W : World), s.ok W → d.ok W → m.ok W → Calls Try.prog 24 #[.agg #[.int .i64 d.r.x0, .int .i64 d.r.y0, .int .i64 d.r.x1, .int .i64 d.r.y1, .slice d.A d.n d.c], .agg #[.int .i64 s.r.x0, .int .i64 s.r.y0, .int .i64 s.r.x1, .int .i64 s.r.y1, .slice s.A s.n s.c], .agg #[.int .i64 m.r.x0, .int .i64 m.r.y0, .int .i64 m.r.x1, .int .i64 m.r.y1, .slice m.A m.n m.c]] W (RetBE R1 L1 0 W)) := fun W h1 h2 h3 => by
        have := lm_any d s m W h2 h1 h3 (by omega) (by omega) (by omega)
        rw [HR1.out, HL1.out, He1.out] at this
        exact this
      have HPa : Hid (∀ (A : Option Addr) (c : Nat) (W : World), d.ok W → RdL encBm 5 W A [s] → (∀ x ∈ [s], x.ok W) → Calls Try.prog 31 #[.agg #[.int .i64 d.r.x0, .int .i64 d.r.y0, .int .i64 d.r.x1, .int .i64 d.r.y1, .slice d.A d.n d.c], .slice A 1 c] W (RetBE R2 L2 0 W)) := fun A c W h1 h2 h3 => by
        have := bpaste_any d A 1 c [s] W h1 (by omega) h2 rfl (by omega) h3 (fun x hx => by rw [List.mem_singleton.1 hx]; omega)
        rw [HR2.out, HL2.out, He2.out] at this
        exact this
      have HCr : Hid (∀ (W : World), d.ok W → Calls Try.prog 41 #[.agg #[.int .i64 d.r.x0, .int .i64 d.r.y0, .int .i64 d.r.x1, .int .i64 d.r.y1, .slice d.A d.n d.c], .agg #[.int .i64 r.x0, .int .i64 r.y0, .int .i64 r.x1, .int .i64 r.y1]] W (RetBE RE LE 0 W)) := fun W h1 => by
        have := bcrop_any d r W h1 (by omega)
        rw [HRE.out, HLE.out, He3.out] at this
        exact this
      obtain ⟨⟨⟨h1, h2⟩, h3⟩, h4⟩ : ((vBm s = true ∧ vBm d = true) ∧ vMk m = true) ∧ validModeB mode = true := by have := hbv; unfold boV at this; simpa using this
      have hlv : lmV d s m = true := by unfold lmV; rw [h1, h2, h3]; rfl
      have hvd : bmValid d.r d.l = true := h2
      obtain ⟨RU, HRU⟩ : ∃ u, Hid (boR mode s (cutB d r none nE 0) m = u) := ⟨_, rfl⟩
      obtain ⟨LU, HLU⟩ : ∃ u, Hid (boL mode s (cutB d r none nE 0) m = u) := ⟨_, rfl⟩
      obtain ⟨RV, HRV⟩ : ∃ u, Hid (lmR (cutB d r none nE 0) s m = u) := ⟨_, rfl⟩
      obtain ⟨LV, HLV⟩ : ∃ u, Hid (lmL (cutB d r none nE 0) s m = u) := ⟨_, rfl⟩
      obtain ⟨RW, HRW⟩ : ∃ u, Hid (pasR (cutB d r none nE 0) [s] = u) := ⟨_, rfl⟩
      obtain ⟨LW, HLW⟩ : ∃ u, Hid (pasL (cutB d r none nE 0) [s] = u) := ⟨_, rfl⟩
      obtain ⟨nU, HnU⟩ : ∃ u, Hid (LU.length = u) := ⟨_, rfl⟩
      obtain ⟨nV, HnV⟩ : ∃ u, Hid (LV.length = u) := ⟨_, rfl⟩
      obtain ⟨nW, HnW⟩ : ∃ u, Hid (LW.length = u) := ⟨_, rfl⟩
      have hnU : nU ≤ 67108864 := by rw [← HnU.out, ← HLU.out]; exact bo_len _ _ _ _
      have hnV : nV ≤ 67108864 := by rw [← HnV.out, ← HLV.out]; exact lm_len _ _ _
      have hnW : nW ≤ 67108864 := by rw [← HnW.out, ← HLW.out]; exact pas_len _ _
      have eC : ∀ (A : Option Addr) (c : Nat), (⟨RE, A, nE, c, LE⟩ : Bm) = cutB d r A nE c := fun A c => by unfold cutB; rw [HRE.out, HLE.out]
      have Hb0 : Hid (pxsB L0) := by unfold Hid; rw [← HL0.out]; unfold boL; rw [hbv]; exact bpix_bytes fun x y => bwc_byte mode (atL_px HS.out.byte x y) (atL_px HD.out.byte x y) (atL_byte HM.out.byte x y).1 (atL_byte HM.out.byte x y).2
      have Hb1 : Hid (pxsB L1) := by unfold Hid; rw [← HL1.out]; unfold lmL; rw [hlv]; exact bpix_bytes fun x y => lerp_byte _ _ _
      have Hb2 : Hid (pxsB L2) := by
        unfold Hid; rw [← HL2.out]; unfold pasL; split
        · exact bpix_bytes fun x y => by
            show (pstF s (atL zP d.r d.l) x y).byte
            unfold pstF; split
            · exact atL_px HS.out.byte x y
            · exact atL_px HD.out.byte x y
        · intro p hp; simp at hp
      have HbE : Hid (pxsB LE) := by unfold Hid; rw [← HLE.out]; exact cr_bytes HD.out.byte r
      have HvA : Hid (bmValid R0 L0 = true) := by unfold Hid; rw [← HR0.out, ← HL0.out]; exact (crop_bo (r := r) hbv HS.out.byte HD.out.byte HM.out.byte none none 0 0 0 0).1
      have HvB : Hid (bmValid R1 L1 = true) := by unfold Hid; rw [← HR1.out, ← HL1.out]; exact (crop_lm (r := r) hlv HS.out.byte HD.out.byte HM.out.byte none none 0 0 0 0).1
      have HvC : Hid (bmValid R2 L2 = true) := by unfold Hid; rw [← HR2.out, ← HL2.out]; exact (crop_pas (r := r) hvd h1 none none 0 0 0 0).1
      have HvE : Hid (bmValid RE LE = true) := by unfold Hid; rw [← HRE.out, ← HLE.out]; exact cr_valid hvd r
      have HCA : Hid (∀ (A : Option Addr) (c : Nat) (W : World), Bm.ok ⟨R0, A, n0, c, L0⟩ W → Calls Try.prog 41 #[.agg #[.int .i64 R0.x0, .int .i64 R0.y0, .int .i64 R0.x1, .int .i64 R0.y1, .slice A n0 c], .agg #[.int .i64 r.x0, .int .i64 r.y0, .int .i64 r.x1, .int .i64 r.y1]] W (RetBE RU LU 0 W)) := fun A c W h => by
        have := bcrop_any ⟨R0, A, n0, c, L0⟩ r W h (by show n0 ≤ _; omega)
        obtain ⟨_, f1, f2, _⟩ := crop_bo (r := r) hbv HS.out.byte HD.out.byte HM.out.byte A none n0 c nE 0
        rw [HR0.out, HL0.out] at f1 f2
        rw [f1, f2, HRU.out, HLU.out, (cr_form (b := ⟨R0, A, n0, c, L0⟩) HvA.out r).2.2] at this
        exact this
      have HCB : Hid (∀ (A : Option Addr) (c : Nat) (W : World), Bm.ok ⟨R1, A, n1, c, L1⟩ W → Calls Try.prog 41 #[.agg #[.int .i64 R1.x0, .int .i64 R1.y0, .int .i64 R1.x1, .int .i64 R1.y1, .slice A n1 c], .agg #[.int .i64 r.x0, .int .i64 r.y0, .int .i64 r.x1, .int .i64 r.y1]] W (RetBE RV LV 0 W)) := fun A c W h => by
        have := bcrop_any ⟨R1, A, n1, c, L1⟩ r W h (by show n1 ≤ _; omega)
        obtain ⟨_, f1, f2, _⟩ := crop_lm (r := r) hlv HS.out.byte HD.out.byte HM.out.byte A none n1 c nE 0
        rw [HR1.out, HL1.out] at f1 f2
        rw [f1, f2, HRV.out, HLV.out, (cr_form (b := ⟨R1, A, n1, c, L1⟩) HvB.out r).2.2] at this
        exact this
      have HCC : Hid (∀ (A : Option Addr) (c : Nat) (W : World), Bm.ok ⟨R2, A, n2, c, L2⟩ W → Calls Try.prog 41 #[.agg #[.int .i64 R2.x0, .int .i64 R2.y0, .int .i64 R2.x1, .int .i64 R2.y1, .slice A n2 c], .agg #[.int .i64 r.x0, .int .i64 r.y0, .int .i64 r.x1, .int .i64 r.y1]] W (RetBE RW LW 0 W)) := fun A c W h => by
        have := bcrop_any ⟨R2, A, n2, c, L2⟩ r W h (by show n2 ≤ _; omega)
        obtain ⟨_, _, f1, f2, _⟩ := crop_pas (r := r) hvd h1 A none n2 c nE 0
        rw [HR2.out, HL2.out] at f1 f2
        rw [f1, f2, HRW.out, HLW.out, (cr_form (b := ⟨R2, A, n2, c, L2⟩) HvC.out r).2.2] at this
        exact this
      have HBo2 : Hid (∀ (A : Option Addr) (c : Nat) (W : World), s.ok W → Bm.ok ⟨RE, A, nE, c, LE⟩ W → m.ok W → Calls Try.prog 23 #[.int .i64 mode, .agg #[.int .i64 s.r.x0, .int .i64 s.r.y0, .int .i64 s.r.x1, .int .i64 s.r.y1, .slice s.A s.n s.c], .agg #[.int .i64 RE.x0, .int .i64 RE.y0, .int .i64 RE.x1, .int .i64 RE.y1, .slice A nE c], .agg #[.int .i64 m.r.x0, .int .i64 m.r.y0, .int .i64 m.r.x1, .int .i64 m.r.y1, .slice m.A m.n m.c]] W (RetBE RU LU 0 W)) := fun A c W h1 h2 h3 => by
        have := bo_any mode s ⟨RE, A, nE, c, LE⟩ m W h1 h2 h3 (by omega) (by show nE ≤ _; omega) (by omega)
        have g1 : boR mode s ⟨RE, A, nE, c, LE⟩ m = RU := by rw [← HRU.out, eC]; rfl
        have g2 : boL mode s ⟨RE, A, nE, c, LE⟩ m = LU := by rw [← HLU.out, eC]; rfl
        have g3 : boE mode s ⟨RE, A, nE, c, LE⟩ m = 0 := by rw [eC]; exact (crop_bo (r := r) hbv HS.out.byte HD.out.byte HM.out.byte none A 0 0 nE c).2.2.2
        rw [g1, g2, g3] at this
        exact this
      have HLm2 : Hid (∀ (A : Option Addr) (c : Nat) (W : World), s.ok W → Bm.ok ⟨RE, A, nE, c, LE⟩ W → m.ok W → Calls Try.prog 24 #[.agg #[.int .i64 RE.x0, .int .i64 RE.y0, .int .i64 RE.x1, .int .i64 RE.y1, .slice A nE c], .agg #[.int .i64 s.r.x0, .int .i64 s.r.y0, .int .i64 s.r.x1, .int .i64 s.r.y1, .slice s.A s.n s.c], .agg #[.int .i64 m.r.x0, .int .i64 m.r.y0, .int .i64 m.r.x1, .int .i64 m.r.y1, .slice m.A m.n m.c]] W (RetBE RV LV 0 W)) := fun A c W h1 h2 h3 => by
        have := lm_any ⟨RE, A, nE, c, LE⟩ s m W h2 h1 h3 (by show nE ≤ _; omega) (by omega) (by omega)
        have g1 : lmR ⟨RE, A, nE, c, LE⟩ s m = RV := by rw [← HRV.out, eC]; rfl
        have g2 : lmL ⟨RE, A, nE, c, LE⟩ s m = LV := by rw [← HLV.out, eC]; rfl
        have g3 : lmE ⟨RE, A, nE, c, LE⟩ s m = 0 := by rw [eC]; exact (crop_lm (r := r) hlv HS.out.byte HD.out.byte HM.out.byte none A 0 0 nE c).2.2.2
        rw [g1, g2, g3] at this
        exact this
      have HPa2 : Hid (∀ (A1 : Option Addr) (c1 : Nat) (A : Option Addr) (c : Nat) (W : World), Bm.ok ⟨RE, A1, nE, c1, LE⟩ W → RdL encBm 5 W A [s] → (∀ x ∈ [s], x.ok W) → Calls Try.prog 31 #[.agg #[.int .i64 RE.x0, .int .i64 RE.y0, .int .i64 RE.x1, .int .i64 RE.y1, .slice A1 nE c1], .slice A 1 c] W (RetBE RW LW 0 W)) := fun A1 c1 A c W h2 h3 h4' => by
        have := bpaste_any ⟨RE, A1, nE, c1, LE⟩ A 1 c [s] W h2 (by show nE ≤ _; omega) h3 rfl (by omega) h4' (fun x hx => by rw [List.mem_singleton.1 hx]; omega)
        have g1 : pasR ⟨RE, A1, nE, c1, LE⟩ [s] = RW := by rw [← HRW.out, eC]; rfl
        have g2 : pasL ⟨RE, A1, nE, c1, LE⟩ [s] = LW := by rw [← HLW.out, eC]; rfl
        have g3 : pasE ⟨RE, A1, nE, c1, LE⟩ [s] = 0 := by rw [eC]; exact (crop_pas (r := r) hvd h1 none A1 0 0 nE c1).2.2.2.2
        rw [g1, g2, g3] at this
        exact this
      clear hbv h1 h2 h3 h4 hlv hvd eC
      go_enter Try.func9, Try.ntmps9
      go_wp2_with fail
      refine (spair_any s d m _ true HSP).mono ?_
      rintro e w1 ⟨rfl, hb1⟩
      have kX1 : Bk w1 (w.heap.size) 43 #[.int .i64 s.r.x0, .int .i64 s.r.y0, .int .i64 s.r.x1, .int .i64 s.r.y1, .slice s.A s.n s.c, .int .i64 d.r.x0, .int .i64 d.r.y0, .int .i64 d.r.x1, .int .i64 d.r.y1, .slice d.A d.n d.c, .int .i64 m.r.x0, .int .i64 m.r.y0, .int .i64 m.r.x1, .int .i64 m.r.y1, .slice m.A m.n m.c] := (by repeat (first | (with_reducible assumption) | ((with_reducible refine Bk.new _ _ _ ?_); first | (with_reducible rfl) | (simp; done)) | (with_reducible refine Bk.alloc ?_ _) | (with_reducible refine Bk.drew ?_) | (with_reducible refine Bk.drewN ?_ _) | ((with_reducible refine Bk.far ?_ ?_ _); rotate_left; focus (first | (simp; done) | (simp; omega))) | (with_reducible refine Bk.below ?_ (by with_reducible assumption)))); obtain ⟨kcX1, kfX1, kaX1, kgX1, klX1⟩ := kX1.rules
      go_wp2_with fail
      refine (HBo.out _ (HS.out.below (by repeat (first | (with_reducible exact Below.refl _ _) | (with_reducible refine balloc ?_ _) | (with_reducible refine Below.drew ?_) | (with_reducible refine bdrewN ?_ _) | ((with_reducible refine bset ?_ ?_ _); rotate_left; focus (first | (with_reducible exact Nat.le_refl _) | (simp; done) | (simp; omega) | omega)) | (with_reducible refine bstep (by with_reducible assumption) ?_)))) (HD.out.below (by repeat (first | (with_reducible exact Below.refl _ _) | (with_reducible refine balloc ?_ _) | (with_reducible refine Below.drew ?_) | (with_reducible refine bdrewN ?_ _) | ((with_reducible refine bset ?_ ?_ _); rotate_left; focus (first | (with_reducible exact Nat.le_refl _) | (simp; done) | (simp; omega) | omega)) | (with_reducible refine bstep (by with_reducible assumption) ?_)))) (HM.out.below (by repeat (first | (with_reducible exact Below.refl _ _) | (with_reducible refine balloc ?_ _) | (with_reducible refine Below.drew ?_) | (with_reducible refine bdrewN ?_ _) | ((with_reducible refine bset ?_ ?_ _); rotate_left; focus (first | (with_reducible exact Nat.le_refl _) | (simp; done) | (simp; omega) | omega)) | (with_reducible refine bstep (by with_reducible assumption) ?_))))).mono ?_
      rintro e w2 ⟨v2, rfl, ho2, hb2⟩
      clear kcX1 kfX1 kaX1 kgX1
      have kX2 : Bk w2 (w.heap.size) 43 #[.int .i64 s.r.x0, .int .i64 s.r.y0, .int .i64 s.r.x1, .int .i64 s.r.y1, .slice s.A s.n s.c, .int .i64 d.r.x0, .int .i64 d.r.y0, .int .i64 d.r.x1, .int .i64 d.r.y1, .slice d.A d.n d.c, .int .i64 m.r.x0, .int .i64 m.r.y0, .int .i64 m.r.x1, .int .i64 m.r.y1, .slice m.A m.n m.c] := (by repeat (first | (with_reducible assumption) | ((with_reducible refine Bk.new _ _ _ ?_); first | (with_reducible rfl) | (simp; done)) | (with_reducible refine Bk.alloc ?_ _) | (with_reducible refine Bk.drew ?_) | (with_reducible refine Bk.drewN ?_ _) | ((with_reducible refine Bk.far ?_ ?_ _); rotate_left; focus (first | (simp; done) | (simp; omega))) | (with_reducible refine Bk.below ?_ (by with_reducible assumption)))); obtain ⟨kcX2, kfX2, kaX2, kgX2, klX2⟩ := kX2.rules
      obtain ⟨A2, c2, hv2, hr2, hle2, hmx2⟩ := ho2.form2 encP_len
      rw [Hn0.out] at hv2 hle2
      subst hv2
      have HR2 := Lib.hid hr2
      have HC2 := Lib.hid (And.intro hle2 hmx2)
      clear hr2 hle2 hmx2
      
      go_wp2_with fail
      refine (HLm.out _ (HS.out.below (by repeat (first | (with_reducible exact Below.refl _ _) | (with_reducible refine balloc ?_ _) | (with_reducible refine Below.drew ?_) | (with_reducible refine bdrewN ?_ _) | ((with_reducible refine bset ?_ ?_ _); rotate_left; focus (first | (with_reducible exact Nat.le_refl _) | (simp; done) | (simp; omega) | omega)) | (with_reducible refine bstep (by with_reducible assumption) ?_)))) (HD.out.below (by repeat (first | (with_reducible exact Below.refl _ _) | (with_reducible refine balloc ?_ _) | (with_reducible refine Below.drew ?_) | (with_reducible refine bdrewN ?_ _) | ((with_reducible refine bset ?_ ?_ _); rotate_left; focus (first | (with_reducible exact Nat.le_refl _) | (simp; done) | (simp; omega) | omega)) | (with_reducible refine bstep (by with_reducible assumption) ?_)))) (HM.out.below (by repeat (first | (with_reducible exact Below.refl _ _) | (with_reducible refine balloc ?_ _) | (with_reducible refine Below.drew ?_) | (with_reducible refine bdrewN ?_ _) | ((with_reducible refine bset ?_ ?_ _); rotate_left; focus (first | (with_reducible exact Nat.le_refl _) | (simp; done) | (simp; omega) | omega)) | (with_reducible refine bstep (by with_reducible assumption) ?_))))).mono ?_
      rintro e w3 ⟨v3, rfl, ho3, hb3⟩
      clear kcX2 kfX2 kaX2 kgX2
      have kX3 : Bk w3 (w.heap.size) 43 #[.int .i64 s.r.x0, .int .i64 s.r.y0, .int .i64 s.r.x1, .int .i64 s.r.y1, .slice s.A s.n s.c, .int .i64 d.r.x0, .int .i64 d.r.y0, .int .i64 d.r.x1, .int .i64 d.r.y1, .slice d.A d.n d.c, .int .i64 m.r.x0, .int .i64 m.r.y0, .int .i64 m.r.x1, .int .i64 m.r.y1, .slice m.A m.n m.c] := (by repeat (first | (with_reducible assumption) | ((with_reducible refine Bk.new _ _ _ ?_); first | (with_reducible rfl) | (simp; done)) | (with_reducible refine Bk.alloc ?_ _) | (with_reducible refine Bk.drew ?_) | (with_reducible refine Bk.drewN ?_ _) | ((with_reducible refine Bk.far ?_ ?_ _); rotate_left; focus (first | (simp; done) | (simp; omega))) | (with_reducible refine Bk.below ?_ (by with_reducible assumption)))); obtain ⟨kcX3, kfX3, kaX3, kgX3, klX3⟩ := kX3.rules
      obtain ⟨A3, c3, hv3, hr3, hle3, hmx3⟩ := ho3.form2 encP_len
      rw [Hn1.out] at hv3 hle3
      subst hv3
      have HR3 := Lib.hid hr3
      have HC3 := Lib.hid (And.intro hle3 hmx3)
      clear hr3 hle3 hmx3
      
      go_wp2_with fail
      refine (HPa.out _ _ _ (HD.out.below (by repeat (first | (with_reducible exact Below.refl _ _) | (with_reducible refine balloc ?_ _) | (with_reducible refine Below.drew ?_) | (with_reducible refine bdrewN ?_ _) | ((with_reducible refine bset ?_ ?_ _); rotate_left; focus (first | (with_reducible exact Nat.le_refl _) | (simp; done) | (simp; omega) | omega)) | (with_reducible refine bstep (by with_reducible assumption) ?_)))) (rd_of_bk (e := 28) encBm_len (Bk.new _ _ _ (by first | rfl | simp)) rfl) (fun x hx => by rw [List.mem_singleton.1 hx]; exact HS.out.below (by repeat (first | (with_reducible exact Below.refl _ _) | (with_reducible refine balloc ?_ _) | (with_reducible refine Below.drew ?_) | (with_reducible refine bdrewN ?_ _) | ((with_reducible refine bset ?_ ?_ _); rotate_left; focus (first | (with_reducible exact Nat.le_refl _) | (simp; done) | (simp; omega) | omega)) | (with_reducible refine bstep (by with_reducible assumption) ?_))))).mono ?_
      rintro e w4 ⟨v4, rfl, ho4, hb4⟩
      clear kcX3 kfX3 kaX3 kgX3
      have kX4 : Bk w4 (w.heap.size) 43 #[.int .i64 s.r.x0, .int .i64 s.r.y0, .int .i64 s.r.x1, .int .i64 s.r.y1, .slice s.A s.n s.c, .int .i64 d.r.x0, .int .i64 d.r.y0, .int .i64 d.r.x1, .int .i64 d.r.y1, .slice d.A d.n d.c, .int .i64 m.r.x0, .int .i64 m.r.y0, .int .i64 m.r.x1, .int .i64 m.r.y1, .slice m.A m.n m.c] := (by repeat (first | (with_reducible assumption) | ((with_reducible refine Bk.new _ _ _ ?_); first | (with_reducible rfl) | (simp; done)) | (with_reducible refine Bk.alloc ?_ _) | (with_reducible refine Bk.drew ?_) | (with_reducible refine Bk.drewN ?_ _) | ((with_reducible refine Bk.far ?_ ?_ _); rotate_left; focus (first | (simp; done) | (simp; omega))) | (with_reducible refine Bk.below ?_ (by with_reducible assumption)))); obtain ⟨kcX4, kfX4, kaX4, kgX4, klX4⟩ := kX4.rules; have kQ4 : Bk w4 (w.heap.size + 1) 23 #[.int .i64 r.x0, .int .i64 r.y0, .int .i64 r.x1, .int .i64 r.y1] := (by repeat (first | (with_reducible assumption) | ((with_reducible refine Bk.new _ _ _ ?_); first | (with_reducible rfl) | (simp; done)) | (with_reducible refine Bk.alloc ?_ _) | (with_reducible refine Bk.drew ?_) | (with_reducible refine Bk.drewN ?_ _) | ((with_reducible refine Bk.far ?_ ?_ _); rotate_left; focus (first | (simp; done) | (simp; omega))) | (with_reducible refine Bk.below ?_ (by with_reducible assumption)))); obtain ⟨kcQ4, kfQ4, kaQ4, kgQ4, klQ4⟩ := kQ4.rules
      obtain ⟨A4, c4, hv4, hr4, hle4, hmx4⟩ := ho4.form2 encP_len
      rw [Hn2.out] at hv4 hle4
      subst hv4
      have HR4 := Lib.hid hr4
      have HC4 := Lib.hid (And.intro hle4 hmx4)
      clear hr4 hle4 hmx4
      
      go_wp2_with fail
      refine (HCr.out _ (HD.out.below (by repeat (first | (with_reducible exact Below.refl _ _) | (with_reducible refine balloc ?_ _) | (with_reducible refine Below.drew ?_) | (with_reducible refine bdrewN ?_ _) | ((with_reducible refine bset ?_ ?_ _); rotate_left; focus (first | (with_reducible exact Nat.le_refl _) | (simp; done) | (simp; omega) | omega)) | (with_reducible refine bstep (by with_reducible assumption) ?_))))).mono ?_
      rintro e w5 ⟨v5, rfl, ho5, hb5⟩
      clear kcX4 kfX4 kaX4 kgX4 kcQ4 kfQ4 kaQ4 kgQ4
      obtain ⟨A5, c5, hv5, hr5, hle5, hmx5⟩ := ho5.form2 encP_len
      rw [HnE.out] at hv5 hle5
      subst hv5
      have HR5 := Lib.hid hr5
      have HC5 := Lib.hid (And.intro hle5 hmx5)
      clear hr5 hle5 hmx5
      
      have kE5 : Bk _ _ _ _ := Bk.new w5 28 #[.int .i64 RE.x0, .int .i64 RE.y0, .int .i64 RE.x1, .int .i64 RE.y1, .slice A5 nE c5] rfl
      have bX : Bk (w5.alloc (.cells #[.int .i64 RE.x0, .int .i64 RE.y0, .int .i64 RE.x1, .int .i64 RE.y1, .slice A5 nE c5] 28)) (w.heap.size) 43 #[.int .i64 s.r.x0, .int .i64 s.r.y0, .int .i64 s.r.x1, .int .i64 s.r.y1, .slice s.A s.n s.c, .int .i64 d.r.x0, .int .i64 d.r.y0, .int .i64 d.r.x1, .int .i64 d.r.y1, .slice d.A d.n d.c, .int .i64 m.r.x0, .int .i64 m.r.y0, .int .i64 m.r.x1, .int .i64 m.r.y1, .slice m.A m.n m.c] := (by repeat (first | (with_reducible assumption) | ((with_reducible refine Bk.new _ _ _ ?_); first | (with_reducible rfl) | (simp; done)) | (with_reducible refine Bk.alloc ?_ _) | (with_reducible refine Bk.drew ?_) | (with_reducible refine Bk.drewN ?_ _) | ((with_reducible refine Bk.far ?_ ?_ _); rotate_left; focus (first | (simp; done) | (simp; omega))) | (with_reducible refine Bk.below ?_ (by with_reducible assumption))))
      have bQ : Bk (w5.alloc (.cells #[.int .i64 RE.x0, .int .i64 RE.y0, .int .i64 RE.x1, .int .i64 RE.y1, .slice A5 nE c5] 28)) (w.heap.size + 1) 23 #[.int .i64 r.x0, .int .i64 r.y0, .int .i64 r.x1, .int .i64 r.y1] := (by repeat (first | (with_reducible assumption) | ((with_reducible refine Bk.new _ _ _ ?_); first | (with_reducible rfl) | (simp; done)) | (with_reducible refine Bk.alloc ?_ _) | (with_reducible refine Bk.drew ?_) | (with_reducible refine Bk.drewN ?_ _) | ((with_reducible refine Bk.far ?_ ?_ _); rotate_left; focus (first | (simp; done) | (simp; omega))) | (with_reducible refine Bk.below ?_ (by with_reducible assumption))))
      have bA : Bk (w5.alloc (.cells #[.int .i64 RE.x0, .int .i64 RE.y0, .int .i64 RE.x1, .int .i64 RE.y1, .slice A5 nE c5] 28)) (w2.heap.size) 28 #[.int .i64 R0.x0, .int .i64 R0.y0, .int .i64 R0.x1, .int .i64 R0.y1, .slice A2 n0 c2] := (by repeat (first | (with_reducible assumption) | ((with_reducible refine Bk.new _ _ _ ?_); first | (with_reducible rfl) | (simp; done)) | (with_reducible refine Bk.alloc ?_ _) | (with_reducible refine Bk.drew ?_) | (with_reducible refine Bk.drewN ?_ _) | ((with_reducible refine Bk.far ?_ ?_ _); rotate_left; focus (first | (simp; done) | (simp; omega))) | (with_reducible refine Bk.below ?_ (by with_reducible assumption))))
      have bB : Bk (w5.alloc (.cells #[.int .i64 RE.x0, .int .i64 RE.y0, .int .i64 RE.x1, .int .i64 RE.y1, .slice A5 nE c5] 28)) (w3.heap.size) 28 #[.int .i64 R1.x0, .int .i64 R1.y0, .int .i64 R1.x1, .int .i64 R1.y1, .slice A3 n1 c3] := (by repeat (first | (with_reducible assumption) | ((with_reducible refine Bk.new _ _ _ ?_); first | (with_reducible rfl) | (simp; done)) | (with_reducible refine Bk.alloc ?_ _) | (with_reducible refine Bk.drew ?_) | (with_reducible refine Bk.drewN ?_ _) | ((with_reducible refine Bk.far ?_ ?_ _); rotate_left; focus (first | (simp; done) | (simp; omega))) | (with_reducible refine Bk.below ?_ (by with_reducible assumption))))
      have bC : Bk (w5.alloc (.cells #[.int .i64 RE.x0, .int .i64 RE.y0, .int .i64 RE.x1, .int .i64 RE.y1, .slice A5 nE c5] 28)) (w4.heap.size) 28 #[.int .i64 R2.x0, .int .i64 R2.y0, .int .i64 R2.x1, .int .i64 R2.y1, .slice A4 n2 c4] := (by repeat (first | (with_reducible assumption) | ((with_reducible refine Bk.new _ _ _ ?_); first | (with_reducible rfl) | (simp; done)) | (with_reducible refine Bk.alloc ?_ _) | (with_reducible refine Bk.drew ?_) | (with_reducible refine Bk.drewN ?_ _) | ((with_reducible refine Bk.far ?_ ?_ _); rotate_left; focus (first | (simp; done) | (simp; omega))) | (with_reducible refine Bk.below ?_ (by with_reducible assumption))))
      have bE : Bk (w5.alloc (.cells #[.int .i64 RE.x0, .int .i64 RE.y0, .int .i64 RE.x1, .int .i64 RE.y1, .slice A5 nE c5] 28)) (w5.heap.size) 28 #[.int .i64 RE.x0, .int .i64 RE.y0, .int .i64 RE.x1, .int .i64 RE.y1, .slice A5 nE c5] := Bk.new _ _ _ rfl
      have hW : Below w.heap.size w (w5.alloc (.cells #[.int .i64 RE.x0, .int .i64 RE.y0, .int .i64 RE.x1, .int .i64 RE.y1, .slice A5 nE c5] 28)) := (by repeat (first | (with_reducible exact Below.refl _ _) | (with_reducible refine balloc ?_ _) | (with_reducible refine Below.drew ?_) | (with_reducible refine bdrewN ?_ _) | ((with_reducible refine bset ?_ ?_ _); rotate_left; focus (first | (with_reducible exact Nat.le_refl _) | (simp; done) | (simp; omega) | omega)) | (with_reducible refine bstep (by with_reducible assumption) ?_)))
      have oA := ho2.below (show Below w2.heap.size w2 (w5.alloc (.cells #[.int .i64 RE.x0, .int .i64 RE.y0, .int .i64 RE.x1, .int .i64 RE.y1, .slice A5 nE c5] 28)) from (by repeat (first | (with_reducible exact Below.refl _ _) | (with_reducible refine balloc ?_ _) | (with_reducible refine Below.drew ?_) | (with_reducible refine bdrewN ?_ _) | ((with_reducible refine bset ?_ ?_ _); rotate_left; focus (first | (with_reducible exact Nat.le_refl _) | (simp; done) | (simp; omega) | omega)) | (with_reducible refine bstep (by with_reducible assumption) ?_))))
      have oB := ho3.below (show Below w3.heap.size w3 (w5.alloc (.cells #[.int .i64 RE.x0, .int .i64 RE.y0, .int .i64 RE.x1, .int .i64 RE.y1, .slice A5 nE c5] 28)) from (by repeat (first | (with_reducible exact Below.refl _ _) | (with_reducible refine balloc ?_ _) | (with_reducible refine Below.drew ?_) | (with_reducible refine bdrewN ?_ _) | ((with_reducible refine bset ?_ ?_ _); rotate_left; focus (first | (with_reducible exact Nat.le_refl _) | (simp; done) | (simp; omega) | omega)) | (with_reducible refine bstep (by with_reducible assumption) ?_))))
      have oC := ho4.below (show Below w4.heap.size w4 (w5.alloc (.cells #[.int .i64 RE.x0, .int .i64 RE.y0, .int .i64 RE.x1, .int .i64 RE.y1, .slice A5 nE c5] 28)) from (by repeat (first | (with_reducible exact Below.refl _ _) | (with_reducible refine balloc ?_ _) | (with_reducible refine Below.drew ?_) | (with_reducible refine bdrewN ?_ _) | ((with_reducible refine bset ?_ ?_ _); rotate_left; focus (first | (with_reducible exact Nat.le_refl _) | (simp; done) | (simp; omega) | omega)) | (with_reducible refine bstep (by with_reducible assumption) ?_))))
      have oE := ho5.below (show Below w5.heap.size w5 (w5.alloc (.cells #[.int .i64 RE.x0, .int .i64 RE.y0, .int .i64 RE.x1, .int .i64 RE.y1, .slice A5 nE c5] 28)) from (by repeat (first | (with_reducible exact Below.refl _ _) | (with_reducible refine balloc ?_ _) | (with_reducible refine Below.drew ?_) | (with_reducible refine bdrewN ?_ _) | ((with_reducible refine bset ?_ ?_ _); rotate_left; focus (first | (with_reducible exact Nat.le_refl _) | (simp; done) | (simp; omega) | omega)) | (with_reducible refine bstep (by with_reducible assumption) ?_))))
      have y1 := hb1.size
      try simp at y1
      have y2 := hb2.size
      try simp at y2
      have y3 := hb3.size
      try simp at y3
      have y4 := hb4.size
      try simp at y4
      have y5 := hb5.size
      try simp at y5
      obtain ⟨kcA, kfA, kaA, kgA, klA⟩ := bA.rules
      go_wp2_with fail
      generalize (w5.alloc (.cells #[.int .i64 RE.x0, .int .i64 RE.y0, .int .i64 RE.x1, .int .i64 RE.y1, .slice A5 nE c5] 28)) = S0 at bX bQ bA bB bC bE hW oA oB oC oE ⊢
      clear kcA kfA kaA kgA
      refine (bvalid_any R0 A2 n0 c2 L0 _ (okB_own R0 oA Hn0.out (Hb0.out)).rd Hn0.out (by omega) true HvA).mono ?_
      rintro e t0 ⟨rfl, hb⟩
      replace bX := bX.below hb
      replace bQ := bQ.below hb
      replace bA := bA.below hb
      replace bB := bB.below hb
      replace bC := bC.below hb
      replace bE := bE.below hb
      replace oA := oA.below hb
      replace oB := oB.below hb
      replace oC := oC.below hb
      replace oE := oE.below hb
      replace hW : Below w.heap.size w t0 := bstep hb hW
      clear hb
      obtain ⟨kcZ, kfZ, kaZ, kgZ, klZ⟩ := bB.rules
      go_wp2_with fail
      refine (bvalid_any R1 A3 n1 c3 L1 _ (okB_own R1 oB Hn1.out (Hb1.out)).rd Hn1.out (by omega) true HvB).mono ?_
      rintro e t1 ⟨rfl, hb⟩
      clear kcZ kfZ kaZ kgZ
      replace bX := bX.below hb
      replace bQ := bQ.below hb
      replace bA := bA.below hb
      replace bB := bB.below hb
      replace bC := bC.below hb
      replace bE := bE.below hb
      replace oA := oA.below hb
      replace oB := oB.below hb
      replace oC := oC.below hb
      replace oE := oE.below hb
      replace hW : Below w.heap.size w t1 := bstep hb hW
      clear hb
      obtain ⟨kcZ, kfZ, kaZ, kgZ, klZ⟩ := bC.rules
      go_wp2_with fail
      refine (bvalid_any R2 A4 n2 c4 L2 _ (okB_own R2 oC Hn2.out (Hb2.out)).rd Hn2.out (by omega) true HvC).mono ?_
      rintro e t2 ⟨rfl, hb⟩
      clear kcZ kfZ kaZ kgZ
      replace bX := bX.below hb
      replace bQ := bQ.below hb
      replace bA := bA.below hb
      replace bB := bB.below hb
      replace bC := bC.below hb
      replace bE := bE.below hb
      replace oA := oA.below hb
      replace oB := oB.below hb
      replace oC := oC.below hb
      replace oE := oE.below hb
      replace hW : Below w.heap.size w t2 := bstep hb hW
      clear hb
      obtain ⟨kcZ, kfZ, kaZ, kgZ, klZ⟩ := bE.rules
      go_wp2_with fail
      refine (bvalid_any RE A5 nE c5 LE _ (okB_own RE oE HnE.out (HbE.out)).rd HnE.out (by omega) true HvE).mono ?_
      rintro e t3 ⟨rfl, hb⟩
      clear kcZ kfZ kaZ kgZ
      replace bX := bX.below hb
      replace bQ := bQ.below hb
      replace bA := bA.below hb
      replace bB := bB.below hb
      replace bC := bC.below hb
      replace bE := bE.below hb
      replace oA := oA.below hb
      replace oB := oB.below hb
      replace oC := oC.below hb
      replace oE := oE.below hb
      replace hW : Below w.heap.size w t3 := bstep hb hW
      clear hb
      obtain ⟨kcZ, kfZ, kaZ, kgZ, klZ⟩ := bA.rules
      obtain ⟨kcY, kfY, kaY, kgY, klY⟩ := bQ.rules
      go_wp2_with fail
      refine (HCA.out A2 c2 _ (okB_own R0 oA Hn0.out Hb0.out)).mono ?_
      rintro e u0 ⟨v, rfl, hov, hb⟩
      obtain ⟨B0, d0, hv, _, _⟩ := hov.form encP_len
      rw [HnU.out] at hv
      subst hv
      clear kcZ kfZ kaZ kgZ kcY kfY kaY kgY
      replace bX := bX.below hb
      replace bQ := bQ.below hb
      replace bA := bA.below hb
      replace bB := bB.below hb
      replace bC := bC.below hb
      replace bE := bE.below hb
      skip
      replace oB := oB.below hb
      replace oC := oC.below hb
      replace oE := oE.below hb
      have hWu : Below w.heap.size w u0 := bstep hb hW
      clear hb
      obtain ⟨kcZ, kfZ, kaZ, kgZ, klZ⟩ := bA.rules
      obtain ⟨kcZ2, kfZ2, kaZ2, kgZ2, klZ2⟩ := bB.rules
      obtain ⟨kcY, kfY, kaY, kgY, klY⟩ := bQ.rules
      have neX : w.heap.size ≠ w2.heap.size := by omega
      have neQ : w.heap.size + 1 ≠ w2.heap.size := by omega
      have neB : w3.heap.size ≠ w2.heap.size := by omega
      have neC : w4.heap.size ≠ w2.heap.size := by omega
      have neE : w5.heap.size ≠ w2.heap.size := by omega
      go_wp2_with fail
      clear kcZ kfZ kaZ kgZ kcZ2 kfZ2 kaZ2 kgZ2 kcY kfY kaY kgY
      have qX := (((((bX.far (p := ⟨w2.heap.size, 0, none⟩) neX (.int .i64 RU.x0)).far (p := ⟨w2.heap.size, 1, none⟩) neX (.int .i64 RU.y0)).far (p := ⟨w2.heap.size, 2, none⟩) neX (.int .i64 RU.x1)).far (p := ⟨w2.heap.size, 3, none⟩) neX (.int .i64 RU.y1)).far (p := ⟨w2.heap.size, 4, none⟩) neX (.slice B0 nU d0))
      have qQ := (((((bQ.far (p := ⟨w2.heap.size, 0, none⟩) neQ (.int .i64 RU.x0)).far (p := ⟨w2.heap.size, 1, none⟩) neQ (.int .i64 RU.y0)).far (p := ⟨w2.heap.size, 2, none⟩) neQ (.int .i64 RU.x1)).far (p := ⟨w2.heap.size, 3, none⟩) neQ (.int .i64 RU.y1)).far (p := ⟨w2.heap.size, 4, none⟩) neQ (.slice B0 nU d0))
      have qA : Bk ((((((u0.setCell ⟨w2.heap.size, 0, none⟩ (.int .i64 RU.x0)).setCell ⟨w2.heap.size, 1, none⟩ (.int .i64 RU.y0)).setCell ⟨w2.heap.size, 2, none⟩ (.int .i64 RU.x1)).setCell ⟨w2.heap.size, 3, none⟩ (.int .i64 RU.y1)).setCell ⟨w2.heap.size, 4, none⟩ (.slice B0 nU d0))) (w2.heap.size) 28 #[.int .i64 RU.x0, .int .i64 RU.y0, .int .i64 RU.x1, .int .i64 RU.y1, .slice B0 nU d0] := (((((bA.set 0 (.int .i64 RU.x0)).set 1 (.int .i64 RU.y0)).set 2 (.int .i64 RU.x1)).set 3 (.int .i64 RU.y1)).set 4 (.slice B0 nU d0))
      have qB := (((((bB.far (p := ⟨w2.heap.size, 0, none⟩) neB (.int .i64 RU.x0)).far (p := ⟨w2.heap.size, 1, none⟩) neB (.int .i64 RU.y0)).far (p := ⟨w2.heap.size, 2, none⟩) neB (.int .i64 RU.x1)).far (p := ⟨w2.heap.size, 3, none⟩) neB (.int .i64 RU.y1)).far (p := ⟨w2.heap.size, 4, none⟩) neB (.slice B0 nU d0))
      have qC := (((((bC.far (p := ⟨w2.heap.size, 0, none⟩) neC (.int .i64 RU.x0)).far (p := ⟨w2.heap.size, 1, none⟩) neC (.int .i64 RU.y0)).far (p := ⟨w2.heap.size, 2, none⟩) neC (.int .i64 RU.x1)).far (p := ⟨w2.heap.size, 3, none⟩) neC (.int .i64 RU.y1)).far (p := ⟨w2.heap.size, 4, none⟩) neC (.slice B0 nU d0))
      have qE := (((((bE.far (p := ⟨w2.heap.size, 0, none⟩) neE (.int .i64 RU.x0)).far (p := ⟨w2.heap.size, 1, none⟩) neE (.int .i64 RU.y0)).far (p := ⟨w2.heap.size, 2, none⟩) neE (.int .i64 RU.x1)).far (p := ⟨w2.heap.size, 3, none⟩) neE (.int .i64 RU.y1)).far (p := ⟨w2.heap.size, 4, none⟩) neE (.slice B0 nU d0))
      have qW := (bset (bset (bset (bset (bset hWu (p := ⟨w2.heap.size, 0, none⟩) (by show _ ≤ w2.heap.size; omega) (.int .i64 RU.x0)) (p := ⟨w2.heap.size, 1, none⟩) (by show _ ≤ w2.heap.size; omega) (.int .i64 RU.y0)) (p := ⟨w2.heap.size, 2, none⟩) (by show _ ≤ w2.heap.size; omega) (.int .i64 RU.x1)) (p := ⟨w2.heap.size, 3, none⟩) (by show _ ≤ w2.heap.size; omega) (.int .i64 RU.y1)) (p := ⟨w2.heap.size, 4, none⟩) (by show _ ≤ w2.heap.size; omega) (.slice B0 nU d0))
      have pA := (((((hov.setFar bA (by decide) 0 (.int .i64 RU.x0)).setFar (bA.set 0 (.int .i64 RU.x0)) (by decide) 1 (.int .i64 RU.y0)).setFar ((bA.set 0 (.int .i64 RU.x0)).set 1 (.int .i64 RU.y0)) (by decide) 2 (.int .i64 RU.x1)).setFar (((bA.set 0 (.int .i64 RU.x0)).set 1 (.int .i64 RU.y0)).set 2 (.int .i64 RU.x1)) (by decide) 3 (.int .i64 RU.y1)).setFar ((((bA.set 0 (.int .i64 RU.x0)).set 1 (.int .i64 RU.y0)).set 2 (.int .i64 RU.x1)).set 3 (.int .i64 RU.y1)) (by decide) 4 (.slice B0 nU d0))
      have pB := (((((oB.setFar bA (by decide) 0 (.int .i64 RU.x0)).setFar (bA.set 0 (.int .i64 RU.x0)) (by decide) 1 (.int .i64 RU.y0)).setFar ((bA.set 0 (.int .i64 RU.x0)).set 1 (.int .i64 RU.y0)) (by decide) 2 (.int .i64 RU.x1)).setFar (((bA.set 0 (.int .i64 RU.x0)).set 1 (.int .i64 RU.y0)).set 2 (.int .i64 RU.x1)) (by decide) 3 (.int .i64 RU.y1)).setFar ((((bA.set 0 (.int .i64 RU.x0)).set 1 (.int .i64 RU.y0)).set 2 (.int .i64 RU.x1)).set 3 (.int .i64 RU.y1)) (by decide) 4 (.slice B0 nU d0))
      have pC := (((((oC.setFar bA (by decide) 0 (.int .i64 RU.x0)).setFar (bA.set 0 (.int .i64 RU.x0)) (by decide) 1 (.int .i64 RU.y0)).setFar ((bA.set 0 (.int .i64 RU.x0)).set 1 (.int .i64 RU.y0)) (by decide) 2 (.int .i64 RU.x1)).setFar (((bA.set 0 (.int .i64 RU.x0)).set 1 (.int .i64 RU.y0)).set 2 (.int .i64 RU.x1)) (by decide) 3 (.int .i64 RU.y1)).setFar ((((bA.set 0 (.int .i64 RU.x0)).set 1 (.int .i64 RU.y0)).set 2 (.int .i64 RU.x1)).set 3 (.int .i64 RU.y1)) (by decide) 4 (.slice B0 nU d0))
      have pE := (((((oE.setFar bA (by decide) 0 (.int .i64 RU.x0)).setFar (bA.set 0 (.int .i64 RU.x0)) (by decide) 1 (.int .i64 RU.y0)).setFar ((bA.set 0 (.int .i64 RU.x0)).set 1 (.int .i64 RU.y0)) (by decide) 2 (.int .i64 RU.x1)).setFar (((bA.set 0 (.int .i64 RU.x0)).set 1 (.int .i64 RU.y0)).set 2 (.int .i64 RU.x1)) (by decide) 3 (.int .i64 RU.y1)).setFar ((((bA.set 0 (.int .i64 RU.x0)).set 1 (.int .i64 RU.y0)).set 2 (.int .i64 RU.x1)).set 3 (.int .i64 RU.y1)) (by decide) 4 (.slice B0 nU d0))
      clear bX bQ bA bB bC bE oA oB oC oE hov hW hWu neX neQ neB neC neE
      generalize (((((u0.setCell ⟨w2.heap.size, 0, none⟩ (.int .i64 RU.x0)).setCell ⟨w2.heap.size, 1, none⟩ (.int .i64 RU.y0)).setCell ⟨w2.heap.size, 2, none⟩ (.int .i64 RU.x1)).setCell ⟨w2.heap.size, 3, none⟩ (.int .i64 RU.y1)).setCell ⟨w2.heap.size, 4, none⟩ (.slice B0 nU d0)) = S1 at qX qQ qA qB qC qE qW pA pB pC pE ⊢
      have bX := qX
      have bQ := qQ
      have bA := qA
      have bB := qB
      have bC := qC
      have bE := qE
      have oA := pA
      have oB := pB
      have oC := pC
      have oE := pE
      have hW := qW
      clear qX qQ qA qB qC qE qW pA pB pC pE
      refine (HCB.out A3 c3 _ (okB_own R1 oB Hn1.out Hb1.out)).mono ?_
      rintro e u1 ⟨v, rfl, hov, hb⟩
      obtain ⟨B1, d1, hv, _, _⟩ := hov.form encP_len
      rw [HnV.out] at hv
      subst hv
      replace bX := bX.below hb
      replace bQ := bQ.below hb
      replace bA := bA.below hb
      replace bB := bB.below hb
      replace bC := bC.below hb
      replace bE := bE.below hb
      replace oA := oA.below hb
      skip
      replace oC := oC.below hb
      replace oE := oE.below hb
      have hWu : Below w.heap.size w u1 := bstep hb hW
      clear hb
      obtain ⟨kcZ, kfZ, kaZ, kgZ, klZ⟩ := bB.rules
      obtain ⟨kcZ2, kfZ2, kaZ2, kgZ2, klZ2⟩ := bC.rules
      obtain ⟨kcY, kfY, kaY, kgY, klY⟩ := bQ.rules
      have neX : w.heap.size ≠ w3.heap.size := by omega
      have neQ : w.heap.size + 1 ≠ w3.heap.size := by omega
      have neA : w2.heap.size ≠ w3.heap.size := by omega
      have neC : w4.heap.size ≠ w3.heap.size := by omega
      have neE : w5.heap.size ≠ w3.heap.size := by omega
      go_wp2_with fail
      clear kcZ kfZ kaZ kgZ kcZ2 kfZ2 kaZ2 kgZ2 kcY kfY kaY kgY
      have qX := (((((bX.far (p := ⟨w3.heap.size, 0, none⟩) neX (.int .i64 RV.x0)).far (p := ⟨w3.heap.size, 1, none⟩) neX (.int .i64 RV.y0)).far (p := ⟨w3.heap.size, 2, none⟩) neX (.int .i64 RV.x1)).far (p := ⟨w3.heap.size, 3, none⟩) neX (.int .i64 RV.y1)).far (p := ⟨w3.heap.size, 4, none⟩) neX (.slice B1 nV d1))
      have qQ := (((((bQ.far (p := ⟨w3.heap.size, 0, none⟩) neQ (.int .i64 RV.x0)).far (p := ⟨w3.heap.size, 1, none⟩) neQ (.int .i64 RV.y0)).far (p := ⟨w3.heap.size, 2, none⟩) neQ (.int .i64 RV.x1)).far (p := ⟨w3.heap.size, 3, none⟩) neQ (.int .i64 RV.y1)).far (p := ⟨w3.heap.size, 4, none⟩) neQ (.slice B1 nV d1))
      have qA := (((((bA.far (p := ⟨w3.heap.size, 0, none⟩) neA (.int .i64 RV.x0)).far (p := ⟨w3.heap.size, 1, none⟩) neA (.int .i64 RV.y0)).far (p := ⟨w3.heap.size, 2, none⟩) neA (.int .i64 RV.x1)).far (p := ⟨w3.heap.size, 3, none⟩) neA (.int .i64 RV.y1)).far (p := ⟨w3.heap.size, 4, none⟩) neA (.slice B1 nV d1))
      have qB : Bk ((((((u1.setCell ⟨w3.heap.size, 0, none⟩ (.int .i64 RV.x0)).setCell ⟨w3.heap.size, 1, none⟩ (.int .i64 RV.y0)).setCell ⟨w3.heap.size, 2, none⟩ (.int .i64 RV.x1)).setCell ⟨w3.heap.size, 3, none⟩ (.int .i64 RV.y1)).setCell ⟨w3.heap.size, 4, none⟩ (.slice B1 nV d1))) (w3.heap.size) 28 #[.int .i64 RV.x0, .int .i64 RV.y0, .int .i64 RV.x1, .int .i64 RV.y1, .slice B1 nV d1] := (((((bB.set 0 (.int .i64 RV.x0)).set 1 (.int .i64 RV.y0)).set 2 (.int .i64 RV.x1)).set 3 (.int .i64 RV.y1)).set 4 (.slice B1 nV d1))
      have qC := (((((bC.far (p := ⟨w3.heap.size, 0, none⟩) neC (.int .i64 RV.x0)).far (p := ⟨w3.heap.size, 1, none⟩) neC (.int .i64 RV.y0)).far (p := ⟨w3.heap.size, 2, none⟩) neC (.int .i64 RV.x1)).far (p := ⟨w3.heap.size, 3, none⟩) neC (.int .i64 RV.y1)).far (p := ⟨w3.heap.size, 4, none⟩) neC (.slice B1 nV d1))
      have qE := (((((bE.far (p := ⟨w3.heap.size, 0, none⟩) neE (.int .i64 RV.x0)).far (p := ⟨w3.heap.size, 1, none⟩) neE (.int .i64 RV.y0)).far (p := ⟨w3.heap.size, 2, none⟩) neE (.int .i64 RV.x1)).far (p := ⟨w3.heap.size, 3, none⟩) neE (.int .i64 RV.y1)).far (p := ⟨w3.heap.size, 4, none⟩) neE (.slice B1 nV d1))
      have qW := (bset (bset (bset (bset (bset hWu (p := ⟨w3.heap.size, 0, none⟩) (by show _ ≤ w3.heap.size; omega) (.int .i64 RV.x0)) (p := ⟨w3.heap.size, 1, none⟩) (by show _ ≤ w3.heap.size; omega) (.int .i64 RV.y0)) (p := ⟨w3.heap.size, 2, none⟩) (by show _ ≤ w3.heap.size; omega) (.int .i64 RV.x1)) (p := ⟨w3.heap.size, 3, none⟩) (by show _ ≤ w3.heap.size; omega) (.int .i64 RV.y1)) (p := ⟨w3.heap.size, 4, none⟩) (by show _ ≤ w3.heap.size; omega) (.slice B1 nV d1))
      have pA := (((((oA.setFar bB (by decide) 0 (.int .i64 RV.x0)).setFar (bB.set 0 (.int .i64 RV.x0)) (by decide) 1 (.int .i64 RV.y0)).setFar ((bB.set 0 (.int .i64 RV.x0)).set 1 (.int .i64 RV.y0)) (by decide) 2 (.int .i64 RV.x1)).setFar (((bB.set 0 (.int .i64 RV.x0)).set 1 (.int .i64 RV.y0)).set 2 (.int .i64 RV.x1)) (by decide) 3 (.int .i64 RV.y1)).setFar ((((bB.set 0 (.int .i64 RV.x0)).set 1 (.int .i64 RV.y0)).set 2 (.int .i64 RV.x1)).set 3 (.int .i64 RV.y1)) (by decide) 4 (.slice B1 nV d1))
      have pB := (((((hov.setFar bB (by decide) 0 (.int .i64 RV.x0)).setFar (bB.set 0 (.int .i64 RV.x0)) (by decide) 1 (.int .i64 RV.y0)).setFar ((bB.set 0 (.int .i64 RV.x0)).set 1 (.int .i64 RV.y0)) (by decide) 2 (.int .i64 RV.x1)).setFar (((bB.set 0 (.int .i64 RV.x0)).set 1 (.int .i64 RV.y0)).set 2 (.int .i64 RV.x1)) (by decide) 3 (.int .i64 RV.y1)).setFar ((((bB.set 0 (.int .i64 RV.x0)).set 1 (.int .i64 RV.y0)).set 2 (.int .i64 RV.x1)).set 3 (.int .i64 RV.y1)) (by decide) 4 (.slice B1 nV d1))
      have pC := (((((oC.setFar bB (by decide) 0 (.int .i64 RV.x0)).setFar (bB.set 0 (.int .i64 RV.x0)) (by decide) 1 (.int .i64 RV.y0)).setFar ((bB.set 0 (.int .i64 RV.x0)).set 1 (.int .i64 RV.y0)) (by decide) 2 (.int .i64 RV.x1)).setFar (((bB.set 0 (.int .i64 RV.x0)).set 1 (.int .i64 RV.y0)).set 2 (.int .i64 RV.x1)) (by decide) 3 (.int .i64 RV.y1)).setFar ((((bB.set 0 (.int .i64 RV.x0)).set 1 (.int .i64 RV.y0)).set 2 (.int .i64 RV.x1)).set 3 (.int .i64 RV.y1)) (by decide) 4 (.slice B1 nV d1))
      have pE := (((((oE.setFar bB (by decide) 0 (.int .i64 RV.x0)).setFar (bB.set 0 (.int .i64 RV.x0)) (by decide) 1 (.int .i64 RV.y0)).setFar ((bB.set 0 (.int .i64 RV.x0)).set 1 (.int .i64 RV.y0)) (by decide) 2 (.int .i64 RV.x1)).setFar (((bB.set 0 (.int .i64 RV.x0)).set 1 (.int .i64 RV.y0)).set 2 (.int .i64 RV.x1)) (by decide) 3 (.int .i64 RV.y1)).setFar ((((bB.set 0 (.int .i64 RV.x0)).set 1 (.int .i64 RV.y0)).set 2 (.int .i64 RV.x1)).set 3 (.int .i64 RV.y1)) (by decide) 4 (.slice B1 nV d1))
      clear bX bQ bA bB bC bE oA oB oC oE hov hW hWu neX neQ neA neC neE
      generalize (((((u1.setCell ⟨w3.heap.size, 0, none⟩ (.int .i64 RV.x0)).setCell ⟨w3.heap.size, 1, none⟩ (.int .i64 RV.y0)).setCell ⟨w3.heap.size, 2, none⟩ (.int .i64 RV.x1)).setCell ⟨w3.heap.size, 3, none⟩ (.int .i64 RV.y1)).setCell ⟨w3.heap.size, 4, none⟩ (.slice B1 nV d1)) = S2 at qX qQ qA qB qC qE qW pA pB pC pE ⊢
      have bX := qX
      have bQ := qQ
      have bA := qA
      have bB := qB
      have bC := qC
      have bE := qE
      have oA := pA
      have oB := pB
      have oC := pC
      have oE := pE
      have hW := qW
      clear qX qQ qA qB qC qE qW pA pB pC pE
      refine (HCC.out A4 c4 _ (okB_own R2 oC Hn2.out Hb2.out)).mono ?_
      rintro e u2 ⟨v, rfl, hov, hb⟩
      obtain ⟨B2, d2, hv, _, _⟩ := hov.form encP_len
      rw [HnW.out] at hv
      subst hv
      replace bX := bX.below hb
      replace bQ := bQ.below hb
      replace bA := bA.below hb
      replace bB := bB.below hb
      replace bC := bC.below hb
      replace bE := bE.below hb
      replace oA := oA.below hb
      replace oB := oB.below hb
      skip
      replace oE := oE.below hb
      have hWu : Below w.heap.size w u2 := bstep hb hW
      clear hb
      obtain ⟨kcZ, kfZ, kaZ, kgZ, klZ⟩ := bC.rules
      obtain ⟨kcZ2, kfZ2, kaZ2, kgZ2, klZ2⟩ := bE.rules
      obtain ⟨kcY, kfY, kaY, kgY, klY⟩ := bX.rules
      have neX : w.heap.size ≠ w4.heap.size := by omega
      have neQ : w.heap.size + 1 ≠ w4.heap.size := by omega
      have neA : w2.heap.size ≠ w4.heap.size := by omega
      have neB : w3.heap.size ≠ w4.heap.size := by omega
      have neE : w5.heap.size ≠ w4.heap.size := by omega
      go_wp2_with fail
      clear kcZ kfZ kaZ kgZ kcZ2 kfZ2 kaZ2 kgZ2 kcY kfY kaY kgY
      have qX := (((((bX.far (p := ⟨w4.heap.size, 0, none⟩) neX (.int .i64 RW.x0)).far (p := ⟨w4.heap.size, 1, none⟩) neX (.int .i64 RW.y0)).far (p := ⟨w4.heap.size, 2, none⟩) neX (.int .i64 RW.x1)).far (p := ⟨w4.heap.size, 3, none⟩) neX (.int .i64 RW.y1)).far (p := ⟨w4.heap.size, 4, none⟩) neX (.slice B2 nW d2))
      have qQ := (((((bQ.far (p := ⟨w4.heap.size, 0, none⟩) neQ (.int .i64 RW.x0)).far (p := ⟨w4.heap.size, 1, none⟩) neQ (.int .i64 RW.y0)).far (p := ⟨w4.heap.size, 2, none⟩) neQ (.int .i64 RW.x1)).far (p := ⟨w4.heap.size, 3, none⟩) neQ (.int .i64 RW.y1)).far (p := ⟨w4.heap.size, 4, none⟩) neQ (.slice B2 nW d2))
      have qA := (((((bA.far (p := ⟨w4.heap.size, 0, none⟩) neA (.int .i64 RW.x0)).far (p := ⟨w4.heap.size, 1, none⟩) neA (.int .i64 RW.y0)).far (p := ⟨w4.heap.size, 2, none⟩) neA (.int .i64 RW.x1)).far (p := ⟨w4.heap.size, 3, none⟩) neA (.int .i64 RW.y1)).far (p := ⟨w4.heap.size, 4, none⟩) neA (.slice B2 nW d2))
      have qB := (((((bB.far (p := ⟨w4.heap.size, 0, none⟩) neB (.int .i64 RW.x0)).far (p := ⟨w4.heap.size, 1, none⟩) neB (.int .i64 RW.y0)).far (p := ⟨w4.heap.size, 2, none⟩) neB (.int .i64 RW.x1)).far (p := ⟨w4.heap.size, 3, none⟩) neB (.int .i64 RW.y1)).far (p := ⟨w4.heap.size, 4, none⟩) neB (.slice B2 nW d2))
      have qC : Bk ((((((u2.setCell ⟨w4.heap.size, 0, none⟩ (.int .i64 RW.x0)).setCell ⟨w4.heap.size, 1, none⟩ (.int .i64 RW.y0)).setCell ⟨w4.heap.size, 2, none⟩ (.int .i64 RW.x1)).setCell ⟨w4.heap.size, 3, none⟩ (.int .i64 RW.y1)).setCell ⟨w4.heap.size, 4, none⟩ (.slice B2 nW d2))) (w4.heap.size) 28 #[.int .i64 RW.x0, .int .i64 RW.y0, .int .i64 RW.x1, .int .i64 RW.y1, .slice B2 nW d2] := (((((bC.set 0 (.int .i64 RW.x0)).set 1 (.int .i64 RW.y0)).set 2 (.int .i64 RW.x1)).set 3 (.int .i64 RW.y1)).set 4 (.slice B2 nW d2))
      have qE := (((((bE.far (p := ⟨w4.heap.size, 0, none⟩) neE (.int .i64 RW.x0)).far (p := ⟨w4.heap.size, 1, none⟩) neE (.int .i64 RW.y0)).far (p := ⟨w4.heap.size, 2, none⟩) neE (.int .i64 RW.x1)).far (p := ⟨w4.heap.size, 3, none⟩) neE (.int .i64 RW.y1)).far (p := ⟨w4.heap.size, 4, none⟩) neE (.slice B2 nW d2))
      have qW := (bset (bset (bset (bset (bset hWu (p := ⟨w4.heap.size, 0, none⟩) (by show _ ≤ w4.heap.size; omega) (.int .i64 RW.x0)) (p := ⟨w4.heap.size, 1, none⟩) (by show _ ≤ w4.heap.size; omega) (.int .i64 RW.y0)) (p := ⟨w4.heap.size, 2, none⟩) (by show _ ≤ w4.heap.size; omega) (.int .i64 RW.x1)) (p := ⟨w4.heap.size, 3, none⟩) (by show _ ≤ w4.heap.size; omega) (.int .i64 RW.y1)) (p := ⟨w4.heap.size, 4, none⟩) (by show _ ≤ w4.heap.size; omega) (.slice B2 nW d2))
      have pA := (((((oA.setFar bC (by decide) 0 (.int .i64 RW.x0)).setFar (bC.set 0 (.int .i64 RW.x0)) (by decide) 1 (.int .i64 RW.y0)).setFar ((bC.set 0 (.int .i64 RW.x0)).set 1 (.int .i64 RW.y0)) (by decide) 2 (.int .i64 RW.x1)).setFar (((bC.set 0 (.int .i64 RW.x0)).set 1 (.int .i64 RW.y0)).set 2 (.int .i64 RW.x1)) (by decide) 3 (.int .i64 RW.y1)).setFar ((((bC.set 0 (.int .i64 RW.x0)).set 1 (.int .i64 RW.y0)).set 2 (.int .i64 RW.x1)).set 3 (.int .i64 RW.y1)) (by decide) 4 (.slice B2 nW d2))
      have pB := (((((oB.setFar bC (by decide) 0 (.int .i64 RW.x0)).setFar (bC.set 0 (.int .i64 RW.x0)) (by decide) 1 (.int .i64 RW.y0)).setFar ((bC.set 0 (.int .i64 RW.x0)).set 1 (.int .i64 RW.y0)) (by decide) 2 (.int .i64 RW.x1)).setFar (((bC.set 0 (.int .i64 RW.x0)).set 1 (.int .i64 RW.y0)).set 2 (.int .i64 RW.x1)) (by decide) 3 (.int .i64 RW.y1)).setFar ((((bC.set 0 (.int .i64 RW.x0)).set 1 (.int .i64 RW.y0)).set 2 (.int .i64 RW.x1)).set 3 (.int .i64 RW.y1)) (by decide) 4 (.slice B2 nW d2))
      have pC := (((((hov.setFar bC (by decide) 0 (.int .i64 RW.x0)).setFar (bC.set 0 (.int .i64 RW.x0)) (by decide) 1 (.int .i64 RW.y0)).setFar ((bC.set 0 (.int .i64 RW.x0)).set 1 (.int .i64 RW.y0)) (by decide) 2 (.int .i64 RW.x1)).setFar (((bC.set 0 (.int .i64 RW.x0)).set 1 (.int .i64 RW.y0)).set 2 (.int .i64 RW.x1)) (by decide) 3 (.int .i64 RW.y1)).setFar ((((bC.set 0 (.int .i64 RW.x0)).set 1 (.int .i64 RW.y0)).set 2 (.int .i64 RW.x1)).set 3 (.int .i64 RW.y1)) (by decide) 4 (.slice B2 nW d2))
      have pE := (((((oE.setFar bC (by decide) 0 (.int .i64 RW.x0)).setFar (bC.set 0 (.int .i64 RW.x0)) (by decide) 1 (.int .i64 RW.y0)).setFar ((bC.set 0 (.int .i64 RW.x0)).set 1 (.int .i64 RW.y0)) (by decide) 2 (.int .i64 RW.x1)).setFar (((bC.set 0 (.int .i64 RW.x0)).set 1 (.int .i64 RW.y0)).set 2 (.int .i64 RW.x1)) (by decide) 3 (.int .i64 RW.y1)).setFar ((((bC.set 0 (.int .i64 RW.x0)).set 1 (.int .i64 RW.y0)).set 2 (.int .i64 RW.x1)).set 3 (.int .i64 RW.y1)) (by decide) 4 (.slice B2 nW d2))
      clear bX bQ bA bB bC bE oA oB oC oE hov hW hWu neX neQ neA neB neE
      generalize (((((u2.setCell ⟨w4.heap.size, 0, none⟩ (.int .i64 RW.x0)).setCell ⟨w4.heap.size, 1, none⟩ (.int .i64 RW.y0)).setCell ⟨w4.heap.size, 2, none⟩ (.int .i64 RW.x1)).setCell ⟨w4.heap.size, 3, none⟩ (.int .i64 RW.y1)).setCell ⟨w4.heap.size, 4, none⟩ (.slice B2 nW d2)) = S3 at qX qQ qA qB qC qE qW pA pB pC pE ⊢
      have bX := qX
      have bQ := qQ
      have bA := qA
      have bB := qB
      have bC := qC
      have bE := qE
      have oA := pA
      have oB := pB
      have oC := pC
      have oE := pE
      have hW := qW
      clear qX qQ qA qB qC qE qW pA pB pC pE
      have HRA : Hid (RdL encP 4 S3 B0 LU) := by
        obtain ⟨A', c', hv', hr', _⟩ := oA.form encP_len
        injection hv' with h1
        rw [h1]; exact hr'
      have HRB : Hid (RdL encP 4 S3 B1 LV) := by
        obtain ⟨A', c', hv', hr', _⟩ := oB.form encP_len
        injection hv' with h1
        rw [h1]; exact hr'
      have HRC : Hid (RdL encP 4 S3 B2 LW) := by
        obtain ⟨A', c', hv', hr', _⟩ := oC.form encP_len
        injection hv' with h1
        rw [h1]; exact hr'
      have HEO := Lib.hid (okB_own RE oE HnE.out HbE.out)
      clear oA oB oC oE
      
      refine (HBo2.out A5 c5 _ (HS.out.below hW) HEO.out (HM.out.below hW)).mono ?_
      rintro e w30 ⟨v30, rfl, ho30, hb30⟩
      obtain ⟨A30, c30, hv30, hr30, hle30, hmx30⟩ := ho30.form2 encP_len
      rw [HnU.out] at hv30 hle30
      subst hv30
      have HR30 := Lib.hid hr30
      have HC30 := Lib.hid (And.intro hle30 hmx30)
      clear hr30 hle30 hmx30
      clear ho30
      
      have kX30 : Bk w30 (w.heap.size) 43 #[.int .i64 s.r.x0, .int .i64 s.r.y0, .int .i64 s.r.x1, .int .i64 s.r.y1, .slice s.A s.n s.c, .int .i64 d.r.x0, .int .i64 d.r.y0, .int .i64 d.r.x1, .int .i64 d.r.y1, .slice d.A d.n d.c, .int .i64 m.r.x0, .int .i64 m.r.y0, .int .i64 m.r.x1, .int .i64 m.r.y1, .slice m.A m.n m.c] := (by repeat (first | (with_reducible assumption) | ((with_reducible refine Bk.new _ _ _ ?_); first | (with_reducible rfl) | (simp; done)) | (with_reducible refine Bk.alloc ?_ _) | (with_reducible refine Bk.drew ?_) | (with_reducible refine Bk.drewN ?_ _) | ((with_reducible refine Bk.far ?_ ?_ _); rotate_left; focus (first | (simp; done) | (simp; omega))) | (with_reducible refine Bk.below ?_ (by with_reducible assumption)))); obtain ⟨kcX30, kfX30, kaX30, kgX30, klX30⟩ := kX30.rules; have kE30 : Bk w30 (w5.heap.size) 28 #[.int .i64 RE.x0, .int .i64 RE.y0, .int .i64 RE.x1, .int .i64 RE.y1, .slice A5 nE c5] := (by repeat (first | (with_reducible assumption) | ((with_reducible refine Bk.new _ _ _ ?_); first | (with_reducible rfl) | (simp; done)) | (with_reducible refine Bk.alloc ?_ _) | (with_reducible refine Bk.drew ?_) | (with_reducible refine Bk.drewN ?_ _) | ((with_reducible refine Bk.far ?_ ?_ _); rotate_left; focus (first | (simp; done) | (simp; omega))) | (with_reducible refine Bk.below ?_ (by with_reducible assumption)))); obtain ⟨kcE30, kfE30, kaE30, kgE30, klE30⟩ := kE30.rules
      go_wp2_with fail
      refine (HLm2.out A5 c5 _ (HS.out.below (by repeat (first | (with_reducible exact Below.refl _ _) | (with_reducible refine balloc ?_ _) | (with_reducible refine Below.drew ?_) | (with_reducible refine bdrewN ?_ _) | ((with_reducible refine bset ?_ ?_ _); rotate_left; focus (first | (with_reducible exact Nat.le_refl _) | (simp; done) | (simp; omega) | omega)) | (with_reducible refine bstep (by with_reducible assumption) ?_)))) (HEO.out.below (by repeat (first | (with_reducible exact Below.refl _ _) | (with_reducible refine balloc ?_ _) | (with_reducible refine Below.drew ?_) | (with_reducible refine bdrewN ?_ _) | ((with_reducible refine bset ?_ ?_ _); rotate_left; focus (first | (with_reducible exact Nat.le_refl _) | (simp; done) | (simp; omega) | omega)) | (with_reducible refine bstep (by with_reducible assumption) ?_)))) (HM.out.below (by repeat (first | (with_reducible exact Below.refl _ _) | (with_reducible refine balloc ?_ _) | (with_reducible refine Below.drew ?_) | (with_reducible refine bdrewN ?_ _) | ((with_reducible refine bset ?_ ?_ _); rotate_left; focus (first | (with_reducible exact Nat.le_refl _) | (simp; done) | (simp; omega) | omega)) | (with_reducible refine bstep (by with_reducible assumption) ?_))))).mono ?_
      rintro e w31 ⟨v31, rfl, ho31, hb31⟩
      clear kcX30 kfX30 kaX30 kgX30 kcE30 kfE30 kaE30 kgE30
      have kX31 : Bk w31 (w.heap.size) 43 #[.int .i64 s.r.x0, .int .i64 s.r.y0, .int .i64 s.r.x1, .int .i64 s.r.y1, .slice s.A s.n s.c, .int .i64 d.r.x0, .int .i64 d.r.y0, .int .i64 d.r.x1, .int .i64 d.r.y1, .slice d.A d.n d.c, .int .i64 m.r.x0, .int .i64 m.r.y0, .int .i64 m.r.x1, .int .i64 m.r.y1, .slice m.A m.n m.c] := (by repeat (first | (with_reducible assumption) | ((with_reducible refine Bk.new _ _ _ ?_); first | (with_reducible rfl) | (simp; done)) | (with_reducible refine Bk.alloc ?_ _) | (with_reducible refine Bk.drew ?_) | (with_reducible refine Bk.drewN ?_ _) | ((with_reducible refine Bk.far ?_ ?_ _); rotate_left; focus (first | (simp; done) | (simp; omega))) | (with_reducible refine Bk.below ?_ (by with_reducible assumption)))); obtain ⟨kcX31, kfX31, kaX31, kgX31, klX31⟩ := kX31.rules; have kE31 : Bk w31 (w5.heap.size) 28 #[.int .i64 RE.x0, .int .i64 RE.y0, .int .i64 RE.x1, .int .i64 RE.y1, .slice A5 nE c5] := (by repeat (first | (with_reducible assumption) | ((with_reducible refine Bk.new _ _ _ ?_); first | (with_reducible rfl) | (simp; done)) | (with_reducible refine Bk.alloc ?_ _) | (with_reducible refine Bk.drew ?_) | (with_reducible refine Bk.drewN ?_ _) | ((with_reducible refine Bk.far ?_ ?_ _); rotate_left; focus (first | (simp; done) | (simp; omega))) | (with_reducible refine Bk.below ?_ (by with_reducible assumption)))); obtain ⟨kcE31, kfE31, kaE31, kgE31, klE31⟩ := kE31.rules
      obtain ⟨A31, c31, hv31, hr31, hle31, hmx31⟩ := ho31.form2 encP_len
      rw [HnV.out] at hv31 hle31
      subst hv31
      have HR31 := Lib.hid hr31
      have HC31 := Lib.hid (And.intro hle31 hmx31)
      clear hr31 hle31 hmx31
      clear ho31
      
      go_wp2_with fail
      refine (HPa2.out A5 c5 _ _ _ (HEO.out.below (by repeat (first | (with_reducible exact Below.refl _ _) | (with_reducible refine balloc ?_ _) | (with_reducible refine Below.drew ?_) | (with_reducible refine bdrewN ?_ _) | ((with_reducible refine bset ?_ ?_ _); rotate_left; focus (first | (with_reducible exact Nat.le_refl _) | (simp; done) | (simp; omega) | omega)) | (with_reducible refine bstep (by with_reducible assumption) ?_)))) (rd_of_bk (e := 28) encBm_len (Bk.new _ _ _ (by first | rfl | simp)) rfl) (fun x hx => by rw [List.mem_singleton.1 hx]; exact HS.out.below (by repeat (first | (with_reducible exact Below.refl _ _) | (with_reducible refine balloc ?_ _) | (with_reducible refine Below.drew ?_) | (with_reducible refine bdrewN ?_ _) | ((with_reducible refine bset ?_ ?_ _); rotate_left; focus (first | (with_reducible exact Nat.le_refl _) | (simp; done) | (simp; omega) | omega)) | (with_reducible refine bstep (by with_reducible assumption) ?_))))).mono ?_
      rintro e w32 ⟨v32, rfl, ho32, hb32⟩
      clear kcX31 kfX31 kaX31 kgX31 kcE31 kfE31 kaE31 kgE31
      have kA32 : Bk w32 (w2.heap.size) 28 #[.int .i64 RU.x0, .int .i64 RU.y0, .int .i64 RU.x1, .int .i64 RU.y1, .slice B0 nU d0] := (by repeat (first | (with_reducible assumption) | ((with_reducible refine Bk.new _ _ _ ?_); first | (with_reducible rfl) | (simp; done)) | (with_reducible refine Bk.alloc ?_ _) | (with_reducible refine Bk.drew ?_) | (with_reducible refine Bk.drewN ?_ _) | ((with_reducible refine Bk.far ?_ ?_ _); rotate_left; focus (first | (simp; done) | (simp; omega))) | (with_reducible refine Bk.below ?_ (by with_reducible assumption)))); obtain ⟨kcA32, kfA32, kaA32, kgA32, klA32⟩ := kA32.rules
      obtain ⟨A32, c32, hv32, hr32, hle32, hmx32⟩ := ho32.form2 encP_len
      rw [HnW.out] at hv32 hle32
      subst hv32
      have HR32 := Lib.hid hr32
      have HC32 := Lib.hid (And.intro hle32 hmx32)
      clear hr32 hle32 hmx32
      clear ho32
      
      have kU32 : Bk w32 (w30.heap.size) 28 #[.int .i64 RU.x0, .int .i64 RU.y0, .int .i64 RU.x1, .int .i64 RU.y1, .slice A30 nU c30] := (by repeat (first | (with_reducible assumption) | ((with_reducible refine Bk.new _ _ _ ?_); first | (with_reducible rfl) | (simp; done)) | (with_reducible refine Bk.alloc ?_ _) | (with_reducible refine Bk.drew ?_) | (with_reducible refine Bk.drewN ?_ _) | ((with_reducible refine Bk.far ?_ ?_ _); rotate_left; focus (first | (simp; done) | (simp; omega))) | (with_reducible refine Bk.below ?_ (by with_reducible assumption)))); obtain ⟨kcU32, kfU32, kaU32, kgU32, klU32⟩ := kU32.rules
      go_wp2_with fail
      refine (requal_any RU RU B0 A30 nU nU d0 c30 LU LU _ (HRA.out.below (by repeat (first | (with_reducible exact Below.refl _ _) | (with_reducible refine balloc ?_ _) | (with_reducible refine Below.drew ?_) | (with_reducible refine bdrewN ?_ _) | ((with_reducible refine bset ?_ ?_ _); rotate_left; focus (first | (with_reducible exact Nat.le_refl _) | (simp; done) | (simp; omega) | omega)) | (with_reducible refine bstep (by with_reducible assumption) ?_)))) (HR30.out.below (by repeat (first | (with_reducible exact Below.refl _ _) | (with_reducible refine balloc ?_ _) | (with_reducible refine Below.drew ?_) | (with_reducible refine bdrewN ?_ _) | ((with_reducible refine bset ?_ ?_ _); rotate_left; focus (first | (with_reducible exact Nat.le_refl _) | (simp; done) | (simp; omega) | omega)) | (with_reducible refine bstep (by with_reducible assumption) ?_)))) HnU.out HnU.out (by omega) (by omega) true ⟨fun _ => ⟨rfl, rfl⟩, fun _ => rfl⟩).mono ?_
      rintro e w33 ⟨rfl, hb33⟩
      clear kcA32 kfA32 kaA32 kgA32 kcU32 kfU32 kaU32 kgU32
      have kB33 : Bk w33 (w3.heap.size) 28 #[.int .i64 RV.x0, .int .i64 RV.y0, .int .i64 RV.x1, .int .i64 RV.y1, .slice B1 nV d1] := (by repeat (first | (with_reducible assumption) | ((with_reducible refine Bk.new _ _ _ ?_); first | (with_reducible rfl) | (simp; done)) | (with_reducible refine Bk.alloc ?_ _) | (with_reducible refine Bk.drew ?_) | (with_reducible refine Bk.drewN ?_ _) | ((with_reducible refine Bk.far ?_ ?_ _); rotate_left; focus (first | (simp; done) | (simp; omega))) | (with_reducible refine Bk.below ?_ (by with_reducible assumption)))); obtain ⟨kcB33, kfB33, kaB33, kgB33, klB33⟩ := kB33.rules; have kV33 : Bk w33 (w31.heap.size) 28 #[.int .i64 RV.x0, .int .i64 RV.y0, .int .i64 RV.x1, .int .i64 RV.y1, .slice A31 nV c31] := (by repeat (first | (with_reducible assumption) | ((with_reducible refine Bk.new _ _ _ ?_); first | (with_reducible rfl) | (simp; done)) | (with_reducible refine Bk.alloc ?_ _) | (with_reducible refine Bk.drew ?_) | (with_reducible refine Bk.drewN ?_ _) | ((with_reducible refine Bk.far ?_ ?_ _); rotate_left; focus (first | (simp; done) | (simp; omega))) | (with_reducible refine Bk.below ?_ (by with_reducible assumption)))); obtain ⟨kcV33, kfV33, kaV33, kgV33, klV33⟩ := kV33.rules
      go_wp2_with fail
      refine (requal_any RV RV B1 A31 nV nV d1 c31 LV LV _ (HRB.out.below (by repeat (first | (with_reducible exact Below.refl _ _) | (with_reducible refine balloc ?_ _) | (with_reducible refine Below.drew ?_) | (with_reducible refine bdrewN ?_ _) | ((with_reducible refine bset ?_ ?_ _); rotate_left; focus (first | (with_reducible exact Nat.le_refl _) | (simp; done) | (simp; omega) | omega)) | (with_reducible refine bstep (by with_reducible assumption) ?_)))) (HR31.out.below (by repeat (first | (with_reducible exact Below.refl _ _) | (with_reducible refine balloc ?_ _) | (with_reducible refine Below.drew ?_) | (with_reducible refine bdrewN ?_ _) | ((with_reducible refine bset ?_ ?_ _); rotate_left; focus (first | (with_reducible exact Nat.le_refl _) | (simp; done) | (simp; omega) | omega)) | (with_reducible refine bstep (by with_reducible assumption) ?_)))) HnV.out HnV.out (by omega) (by omega) true ⟨fun _ => ⟨rfl, rfl⟩, fun _ => rfl⟩).mono ?_
      rintro e w34 ⟨rfl, hb34⟩
      clear kcB33 kfB33 kaB33 kgB33 kcV33 kfV33 kaV33 kgV33
      have kC34 : Bk w34 (w4.heap.size) 28 #[.int .i64 RW.x0, .int .i64 RW.y0, .int .i64 RW.x1, .int .i64 RW.y1, .slice B2 nW d2] := (by repeat (first | (with_reducible assumption) | ((with_reducible refine Bk.new _ _ _ ?_); first | (with_reducible rfl) | (simp; done)) | (with_reducible refine Bk.alloc ?_ _) | (with_reducible refine Bk.drew ?_) | (with_reducible refine Bk.drewN ?_ _) | ((with_reducible refine Bk.far ?_ ?_ _); rotate_left; focus (first | (simp; done) | (simp; omega))) | (with_reducible refine Bk.below ?_ (by with_reducible assumption)))); obtain ⟨kcC34, kfC34, kaC34, kgC34, klC34⟩ := kC34.rules; have kY34 : Bk w34 (w32.heap.size) 28 #[.int .i64 RW.x0, .int .i64 RW.y0, .int .i64 RW.x1, .int .i64 RW.y1, .slice A32 nW c32] := (by repeat (first | (with_reducible assumption) | ((with_reducible refine Bk.new _ _ _ ?_); first | (with_reducible rfl) | (simp; done)) | (with_reducible refine Bk.alloc ?_ _) | (with_reducible refine Bk.drew ?_) | (with_reducible refine Bk.drewN ?_ _) | ((with_reducible refine Bk.far ?_ ?_ _); rotate_left; focus (first | (simp; done) | (simp; omega))) | (with_reducible refine Bk.below ?_ (by with_reducible assumption)))); obtain ⟨kcY34, kfY34, kaY34, kgY34, klY34⟩ := kY34.rules
      go_wp2_with fail
      refine (requal_any RW RW B2 A32 nW nW d2 c32 LW LW _ (HRC.out.below (by repeat (first | (with_reducible exact Below.refl _ _) | (with_reducible refine balloc ?_ _) | (with_reducible refine Below.drew ?_) | (with_reducible refine bdrewN ?_ _) | ((with_reducible refine bset ?_ ?_ _); rotate_left; focus (first | (with_reducible exact Nat.le_refl _) | (simp; done) | (simp; omega) | omega)) | (with_reducible refine bstep (by with_reducible assumption) ?_)))) (HR32.out.below (by repeat (first | (with_reducible exact Below.refl _ _) | (with_reducible refine balloc ?_ _) | (with_reducible refine Below.drew ?_) | (with_reducible refine bdrewN ?_ _) | ((with_reducible refine bset ?_ ?_ _); rotate_left; focus (first | (with_reducible exact Nat.le_refl _) | (simp; done) | (simp; omega) | omega)) | (with_reducible refine bstep (by with_reducible assumption) ?_)))) HnW.out HnW.out (by omega) (by omega) true ⟨fun _ => ⟨rfl, rfl⟩, fun _ => rfl⟩).mono ?_
      rintro e w35 ⟨rfl, hb35⟩
      clear kcC34 kfC34 kaC34 kgC34 kcY34 kfY34 kaY34 kgY34
      go_wp2_with fail
      refine (ex_any _).mono ?_
      rintro e w36 ⟨rfl, hb36⟩
      go_wp2
      go_ret
      exact ⟨rfl, (by repeat (first | (with_reducible exact Below.refl _ _) | (with_reducible refine balloc ?_ _) | (with_reducible refine Below.drew ?_) | (with_reducible refine bdrewN ?_ _) | ((with_reducible refine bset ?_ ?_ _); rotate_left; focus (first | (with_reducible exact Nat.le_refl _) | (simp; done) | (simp; omega) | omega)) | (with_reducible refine bstep (by with_reducible assumption) ?_)))⟩

set_option maxRecDepth 100000 in
theorem lifted_BitmapCrop (os : Os) (started : os.Started) (H : Type) (enc : TypeId × Value → H) :
    ReturnsInHanded {} Try.checked os 9 .any (Rows.bitmapCropSpec.pre6 enc Try.prog Try.f9 Rows.bitmapCropRow.domain false) (Rows.bitmapCropSpec.post enc Try.prog Try.f9 false true false false) := by
  refine returnsInHanded_of_change (C := Try.checked) Try.own started (by kernel_rfl) Try.func9
    (ChangeSpec.witness6 (enc := enc) (C := Try.checked) false ⟨#[], #[.agg #[.int .i64 0, .int .i64 0, .int .i64 0, .int .i64 0, .slice none 0 0, .int .i64 0, .int .i64 0, .int .i64 0, .int .i64 0, .slice none 0 0, .int .i64 0, .int .i64 0, .int .i64 0, .int .i64 0, .slice none 0 0], .int .i64 0, .agg #[.int .i64 0, .int .i64 0, .int .i64 0, .int .i64 0]], []⟩ 8 (by kernel_rfl) (by kernel_rfl) (by kernel_rfl) (by kernel_rfl)) ?_
  intro W base args ds gs before hval0 hW hcnd _
  have hval : ∀ (j : Nat) t v, Try.f9.params[j]? = some t → args[j]? = some v → Value.okWide Try.prog W .any base t v := hval0
  have hW' := hW
  obtain ⟨p, q, hA0, hV, rfl, hfz, hnd⟩ := hW
  have hA : DataW.TrodAll enc Try.prog W 0 (fun _ => true) true Try.f9.params.toList args.toList ds p := hA0
  rw [Try.params9] at hA hval
  obtain ⟨v0, vs0, d0, ds0, p0, q0, hargs, rfl, rfl, h0, r0⟩ := trodAll_cons hA
  obtain ⟨v1, vs1, d1, ds1, p1, q1, rfl, rfl, rfl, h1, r1⟩ := trodAll_cons r0
  obtain ⟨v2, vs2, d2, ds2, p2, q2, rfl, rfl, rfl, h2, r2⟩ := trodAll_cons r1
  obtain ⟨rfl, rfl, rfl⟩ := trodAll_nil r2
  obtain rfl : args = #[v0, v1, v2] := by cases args; simp_all
  obtain ⟨s0, t0, m0, rfl, hs0, ht0, hm0⟩ := openBoth (hval 0 43 v0 rfl rfl) h0
  obtain ⟨x1, rfl, _, _, g1⟩ := open_int Try.underlying3 (hval 1 3 v1 rfl rfl) h1
  obtain ⟨c20, c21, c22, c23, y20, y21, y22, y23, n2, rfl, _, _, f20, f21, f22, f23⟩ := Joins.open_agg4 Try.underlying23 (by kernel_rfl) (by kernel_rfl) (hval 2 23 v2 rfl rfl) h2
  obtain ⟨x20, rfl, g20⟩ := fld_int Try.underlying3 f20
  obtain ⟨x21, rfl, g21⟩ := fld_int Try.underlying3 f21
  obtain ⟨x22, rfl, g22⟩ := fld_int Try.underlying3 f22
  obtain ⟨x23, rfl, g23⟩ := fld_int Try.underlying3 f23
  refine (walk_BitmapCrop s0 t0 m0 x1 ⟨x20, x21, x22, x23⟩ W hs0 ht0 hm0).mono fun e W' ⟨he, hb⟩ => ?_
  subst he
  exact ⟨_, rfl, law_post (tb := 4) Try.laidOut (by kernel_rfl) hW' rfl rfl Try.underlying4 rfl rfl rfl hb⟩

theorem BitmapCrop_holds : Rows.BitmapCropSaid :=
  OpenClaim.holds_of_wide 9 Try.f9 rfl rfl rfl rfl rfl rfl rfl ⟨rfl, rfl, rfl, rfl, rfl⟩ rfl rfl rfl rfl rfl (by kernel_rfl) Try.func9 (by kernel_rfl)
    (of_decide_eq_true (by kernel_rfl)) (by unfold Func.isWrapper; first | (rw [if_pos (by decide +kernel)]; kernel_rfl) | (rw [if_neg (by decide +kernel)]; exact ⟨rfl, rfl⟩))
    (fun os started H enc _ => lifted_BitmapCrop os started H enc)
#print axioms BitmapCrop_holds
end Go.Proofs.Ytnefnnhnjmmebaa
