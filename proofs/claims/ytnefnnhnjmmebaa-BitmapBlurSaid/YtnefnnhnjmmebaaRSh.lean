/-
  The walk of grisailleref30.Shadow.
-/
import Derived.Test.YtnefnnhnjmmebaaRBl2
import Derived.Test.YtnefnnhnjmmebaaShadow2
import Derived.Test.YtnefnnhnjmmebaaRScale
namespace Go.Proofs.Ytnefnnhnjmmebaa
open Go.RowKit
set_option linter.unusedSimpArgs false
set_option linter.unusedVariables false

set_option maxHeartbeats 400000 in
theorem near30_q (n : Int) (v : Bool) (hv : Hid ((decide (-8192 ≤ n) && decide (n ≤ 8192)) = v)) (w : World) :
    Calls Try.prog 92 #[.int .i64 n] w fun e w' => e = .returned (.bool v) ∧ w = w' := by
  have h := hv.out
  subst h
  go_enter Try.func92, Try.ntmps92
  go_wp2
  all_goals
    go_ret
    exact ⟨ret_bool (by simp; try omega), rfl⟩
theorem sh_near {r : Rc} (hc : canonR r = r) (L : List Px) (bx by_ : Int) {x y : Int} (h0 : r.x0 ≤ x) (h1 : x < r.x1) (h2 : r.y0 ≤ y) (h3 : y < r.y1) :
    ((-8192 ≤ bx ∧ bx ≤ 8192 ∧ -8192 ≤ by_ ∧ by_ ≤ 8192) → atL zP r L (x - clP bx) (y - clP by_) = atL zP r L (x - bx) (y - by_)) ∧
    (¬ (-8192 ≤ bx ∧ bx ≤ 8192 ∧ -8192 ≤ by_ ∧ by_ ≤ 8192) → atL zP r L (x - clP bx) (y - clP by_) = zP) := by
  have hcb := canon_bd r
  rw [hc] at hcb
  have k1 : ∀ n : Int, -8192 ≤ n ∧ n ≤ 8192 → clP n = n := fun n h => by unfold clP clI; rw [if_neg (by omega), if_neg (by omega)]
  have k2 : ∀ n : Int, ¬ (-8192 ≤ n ∧ n ≤ 8192) → clP n < -8192 ∨ 8192 < clP n := fun n h => by unfold clP clI; split <;> (try split) <;> omega
  refine ⟨fun h => by rw [k1 bx ⟨h.1, h.2.1⟩, k1 by_ ⟨h.2.2.1, h.2.2.2⟩], fun h => ?_⟩
  unfold atL
  rw [if_neg]
  intro hh
  have := (contains_iff hc _ _).1 hh
  by_cases hx : -8192 ≤ bx ∧ bx ≤ 8192
  · have := k2 by_ (fun hy => h ⟨hx.1, hx.2, hy.1, hy.2⟩)
    omega
  · have := k2 bx hx
    omega
theorem bbE_ne {b : Bm} {n : Int} (h : bbV b n = false) : bbE b n ≠ 0 := by
  unfold bbE; unfold bbV at h
  cases h1 : vBm b with
  | false => simp
  | true => rw [h1] at h; have h2 : bbN n = false := h; rw [h2]; simp

set_option maxHeartbeats 12800000 in
theorem rsh_any (b : Bm) (bx by_ n : Int) (c : Px) (w : World) (hb : b.ok w) (hnb : b.n ≤ 4000000000) (hcb0 : c.byte) :
    Calls Try.prog 46 #[.agg #[.int .i64 b.r.x0, .int .i64 b.r.y0, .int .i64 b.r.x1, .int .i64 b.r.y1, .slice b.A b.n b.c], .agg #[.int .i64 bx, .int .i64 by_], .int .i64 n, .agg #[.int .u8 c.r, .int .u8 c.g, .int .u8 c.b, .int .u8 c.a]] w (RetBE (bbR b n) (shL b bx by_ n c) (bbE b n) w) := by
  have HB := Lib.hid hb
  have HCB := Lib.hid hcb0
  have HBB : Hid (∀ W, b.ok W → Calls Try.prog 44 #[.agg #[.int .i64 b.r.x0, .int .i64 b.r.y0, .int .i64 b.r.x1, .int .i64 b.r.y1, .slice b.A b.n b.c], .int .i64 n] W (RetBE (bbR b n) (bbL b n) (bbE b n) W)) := fun W h => rbb_any b n W h hnb
  clear hb hcb0
  cases hv : bbV b n with
  | false =>
    have er0 := bbE_ne hv
    have e1 : bbR b n = ⟨0, 0, 0, 0⟩ := by unfold bbR; rw [hv]; rfl
    have e2 : bbL b n = [] := by unfold bbL; rw [hv]; rfl
    have e3 : shL b bx by_ n c = [] := by unfold shL; rw [hv]; rfl
    rw [e3]
    rw [e1, e2] at HBB
    rw [e1]
    generalize bbE b n = er at *
    have er1 : (er == 0) = false := by simpa using er0
    clear e1 e2 e3 hv
    go_enter Try.func46, Try.ntmps46
    go_wp2_with fail
    refine (HBB.out _ (HB.out.below (by repeat (first | (with_reducible exact Below.refl _ _) | (with_reducible refine balloc ?_ _) | (with_reducible refine Below.drew ?_) | (with_reducible refine bdrewN ?_ _) | ((with_reducible refine bset ?_ ?_ _); rotate_left; focus (first | (with_reducible exact Nat.le_refl _) | (simp; done) | (simp; omega) | omega)) | (with_reducible refine bstep (by with_reducible assumption) ?_))))).mono ?_
    rintro e w1 ⟨v, rfl, ho1, hb1⟩
    obtain ⟨A1, c1, hv1, _, _⟩ := ho1.form encP_len
    rw [show ([] : List Px).length = 0 from rfl] at hv1
    subst hv1
    have kO1 : Bk w1 (w.heap.size + 1 + 1 + 1) 28 #[.int .i64 0, .int .i64 0, .int .i64 0, .int .i64 0, .slice none 0 0] := (by repeat (first | (with_reducible assumption) | ((with_reducible refine Bk.new _ _ _ ?_); first | (with_reducible rfl) | (simp; done)) | (with_reducible refine Bk.alloc ?_ _) | (with_reducible refine Bk.drew ?_) | (with_reducible refine Bk.drewN ?_ _) | ((with_reducible refine Bk.far ?_ ?_ _); rotate_left; focus (first | (simp; done) | (simp; omega))) | (with_reducible refine Bk.below ?_ (by with_reducible assumption)))); obtain ⟨kcO1, kfO1, kaO1, kgO1, klO1⟩ := kO1.rules
    have m1 := kO1.set 0 (.int .i64 0)
    have m2 := m1.set 1 (.int .i64 0)
    have m3 := m2.set 2 (.int .i64 0)
    have m4 := m3.set 3 (.int .i64 0)
    have m5 := m4.set 4 (.slice none 0 0)
    have m6 := m5.alloc (.cells #[.int .i64 0, .int .i64 0, .int .i64 0, .int .i64 0, .slice A1 0 c1] 28)
    obtain ⟨kcF, _, _, _, _⟩ := m6.rules
    clear m1 m2 m3 m4 m5 m6
    go_wp2
    refine bodyPost_ret (v := _) ?_ rfl (RetBE.no er (by repeat (first | (with_reducible exact Below.refl _ _) | (with_reducible refine balloc ?_ _) | (with_reducible refine Below.drew ?_) | (with_reducible refine bdrewN ?_ _) | ((with_reducible refine bset ?_ ?_ _); rotate_left; focus (first | (with_reducible exact Nat.le_refl _) | (simp; done) | (simp; omega) | omega)) | (with_reducible refine bstep (by with_reducible assumption) ?_))))
    simp [results, Try.results46, go_sem, kcO1, kcF]
  | true =>
    have HBV : Hid (bbV b n = true) := hv
    have hvm : vBm b = true := by have h := hv; unfold bbV at h; simp at h; exact h.1
    obtain ⟨f1, f2, f3, f4, f5, f6⟩ := bb_facts hv HB.out.byte
    obtain ⟨L1, HL1⟩ : ∃ u, Hid (bbL b n = u) := ⟨_, rfl⟩
    obtain ⟨g, Hg⟩ : ∃ g, Hid (shG L1 b.r (preP c) (clP bx) (clP by_) = g) := ⟨_, rfl⟩
    have e3 : shL b bx by_ n c = pixL g b.r := by unfold shL; rw [hv, HL1.out, Hg.out]; rfl
    rw [e3, f3, f4]
    rw [f3, f4, HL1.out] at HBB
    rw [HL1.out] at f1 f2
    obtain ⟨N1, HN1⟩ : ∃ u, Hid (L1.length = u) := ⟨_, rfl⟩
    rw [HN1.out] at f2
    have HLB := Lib.hid f1
    have HSN := Lib.hid f2
    have HDC : Hid (canonR b.r = b.r) := f5
    have hN1 : N1 ≤ 4000000000 := by omega
    obtain ⟨pc, Hpc⟩ : ∃ u, Hid (preP c = u) := ⟨_, rfl⟩
    have HPB : Hid pc.byte := by unfold Hid; rw [← Hpc.out]; exact pre_byte HCB.out
    have HGV : Hid (∀ x y, scaleP pc (atL zP b.r L1 (x - clP bx) (y - clP by_)).a = g x y) := by unfold Hid; intro x y; rw [← Hg.out, ← Hpc.out]; rfl
    clear e3 f1 f3 f4 f5 f6 hv hvm
    by_cases hx : -8192 ≤ bx ∧ bx ≤ 8192
    · by_cases hy : -8192 ≤ by_ ∧ by_ ≤ 8192
      · obtain ⟨hx1, hx2⟩ := id hx
        obtain ⟨hy1, hy2⟩ := id hy
        have HNR := Lib.hid (And.intro hx1 (And.intro hx2 (And.intro hy1 hy2)))
        have Hnx : Hid ((decide (-8192 ≤ bx) && decide (bx ≤ 8192)) = true) := by unfold Hid; rw [decide_eq_true hx1, decide_eq_true hx2]; rfl
        have Hny : Hid ((decide (-8192 ≤ by_) && decide (by_ ≤ 8192)) = true) := by unfold Hid; rw [decide_eq_true hy1, decide_eq_true hy2]; rfl
        clear hx hy
        go_enter Try.func46, Try.ntmps46
        go_wp2_with fail
        refine (HBB.out _ (HB.out.below (by repeat (first | (with_reducible exact Below.refl _ _) | (with_reducible refine balloc ?_ _) | (with_reducible refine Below.drew ?_) | (with_reducible refine bdrewN ?_ _) | ((with_reducible refine bset ?_ ?_ _); rotate_left; focus (first | (with_reducible exact Nat.le_refl _) | (simp; done) | (simp; omega) | omega)) | (with_reducible refine bstep (by with_reducible assumption) ?_))))).mono ?_
        rintro e w1 ⟨v, rfl, ho1, hb1⟩
        obtain ⟨A1, c1, hv1, hr1, _⟩ := ho1.form encP_len
        rw [HN1.out] at hv1
        subst hv1
        have HR1 := Lib.hid hr1
        have kC1 : Bk w1 (w.heap.size) 28 #[.int .i64 b.r.x0, .int .i64 b.r.y0, .int .i64 b.r.x1, .int .i64 b.r.y1, .slice b.A b.n b.c] := (by repeat (first | (with_reducible assumption) | ((with_reducible refine Bk.new _ _ _ ?_); first | (with_reducible rfl) | (simp; done)) | (with_reducible refine Bk.alloc ?_ _) | (with_reducible refine Bk.drew ?_) | (with_reducible refine Bk.drewN ?_ _) | ((with_reducible refine Bk.far ?_ ?_ _); rotate_left; focus (first | (simp; done) | (simp; omega))) | (with_reducible refine Bk.below ?_ (by with_reducible assumption)))); obtain ⟨kcC1, kfC1, kaC1, kgC1, klC1⟩ := kC1.rules; have kP1 : Bk w1 (w.heap.size + 1) 70 #[.int .i64 bx, .int .i64 by_] := (by repeat (first | (with_reducible assumption) | ((with_reducible refine Bk.new _ _ _ ?_); first | (with_reducible rfl) | (simp; done)) | (with_reducible refine Bk.alloc ?_ _) | (with_reducible refine Bk.drew ?_) | (with_reducible refine Bk.drewN ?_ _) | ((with_reducible refine Bk.far ?_ ?_ _); rotate_left; focus (first | (simp; done) | (simp; omega))) | (with_reducible refine Bk.below ?_ (by with_reducible assumption)))); obtain ⟨kcP1, kfP1, kaP1, kgP1, klP1⟩ := kP1.rules; have kK1 : Bk w1 (w.heap.size + 1 + 1) 71 #[.int .u8 c.r, .int .u8 c.g, .int .u8 c.b, .int .u8 c.a] := (by repeat (first | (with_reducible assumption) | ((with_reducible refine Bk.new _ _ _ ?_); first | (with_reducible rfl) | (simp; done)) | (with_reducible refine Bk.alloc ?_ _) | (with_reducible refine Bk.drew ?_) | (with_reducible refine Bk.drewN ?_ _) | ((with_reducible refine Bk.far ?_ ?_ _); rotate_left; focus (first | (simp; done) | (simp; omega))) | (with_reducible refine Bk.below ?_ (by with_reducible assumption)))); obtain ⟨kcK1, kfK1, kaK1, kgK1, klK1⟩ := kK1.rules; have kO1 : Bk w1 (w.heap.size + 1 + 1 + 1) 28 #[.int .i64 0, .int .i64 0, .int .i64 0, .int .i64 0, .slice none 0 0] := (by repeat (first | (with_reducible assumption) | ((with_reducible refine Bk.new _ _ _ ?_); first | (with_reducible rfl) | (simp; done)) | (with_reducible refine Bk.alloc ?_ _) | (with_reducible refine Bk.drew ?_) | (with_reducible refine Bk.drewN ?_ _) | ((with_reducible refine Bk.far ?_ ?_ _); rotate_left; focus (first | (simp; done) | (simp; omega))) | (with_reducible refine Bk.below ?_ (by with_reducible assumption)))); obtain ⟨kcO1, kfO1, kaO1, kgO1, klO1⟩ := kO1.rules
        have hB1 : Below w.heap.size w w1 := (by repeat (first | (with_reducible exact Below.refl _ _) | (with_reducible refine balloc ?_ _) | (with_reducible refine Below.drew ?_) | (with_reducible refine bdrewN ?_ _) | ((with_reducible refine bset ?_ ?_ _); rotate_left; focus (first | (with_reducible exact Nat.le_refl _) | (simp; done) | (simp; omega) | omega)) | (with_reducible refine bstep (by with_reducible assumption) ?_)))
        have sO1 := kO1.lt
        have hcb := canon_bd b.r
        rw [HDC.out] at hcb
        clear hb1 hr1
        obtain ⟨⟨bx0, bx1, bx2⟩, ⟨by0, by1, by2⟩⟩ := hcb
        obtain ⟨wd, hwd⟩ : ∃ n : Nat, b.r.x1 - b.r.x0 = (n : Int) := ⟨(b.r.x1 - b.r.x0).toNat, by omega⟩
        obtain ⟨ht, hht⟩ : ∃ n : Nat, b.r.y1 - b.r.y0 = (n : Int) := ⟨(b.r.y1 - b.r.y0).toNat, by omega⟩
        have hw1 : b.r.x1 ≤ b.r.x0 + wd ∧ b.r.x0 + wd ≤ b.r.x1 := by omega
        have hh1 : b.r.y1 ≤ b.r.y0 + ht ∧ b.r.y0 + ht ≤ b.r.y1 := by omega
        have hPL : pixL g (b.r) = madeL g b.r.x0 b.r.y0 wd ht := by unfold pixL; rw [hwd, hht, Int.toNat_natCast, Int.toNat_natCast]
        have HPL := Lib.hid hPL
        have hwl : wd ≤ 8192 := by omega
        have hhl : ht ≤ 8192 := by omega
        clear hwd hht hPL
        go_wp2_with fail
        clear kcO1 kfO1 kaO1 kgO1 kcC1 kfC1 kaC1 kgC1 kcP1 kfP1 kaP1 kgP1 kcK1 kfK1 kaK1 kgK1
        go_loopw [13] (fun i wr => ∃ (j : Nat) (v : Value), j ≤ ht ∧ i = .int .i64 (b.r.y0 + j) ∧ Bk wr (w.heap.size) 28 #[.int .i64 b.r.x0, .int .i64 b.r.y0, .int .i64 b.r.x1, .int .i64 b.r.y1, .slice b.A b.n b.c] ∧ Bk wr (w.heap.size + 1) 70 #[.int .i64 bx, .int .i64 by_] ∧ Bk wr (w.heap.size + 1 + 1) 71 #[.int .u8 c.r, .int .u8 c.g, .int .u8 c.b, .int .u8 c.a] ∧ Bk wr (w.heap.size + 1 + 1 + 1) 28 #[.int .i64 0, .int .i64 0, .int .i64 0, .int .i64 0, .slice none 0 0] ∧ Bk wr (w1.heap.size) 28 #[.int .i64 b.r.x0, .int .i64 b.r.y0, .int .i64 b.r.x1, .int .i64 b.r.y1, .slice A1 N1 c1] ∧ Bk wr (w1.heap.size + 1) 28 #[.int .i64 b.r.x0, .int .i64 b.r.y0, .int .i64 b.r.x1, .int .i64 b.r.y1, v] ∧ OwnL encP 25 4 wr (w1.heap.size) v (madeL g b.r.x0 b.r.y0 wd j) ∧ Below w1.heap.size w1 wr) (fun i _ => (b.r.y1 - intOf i).toNat)
        case atStart => exact ⟨0, _, Nat.zero_le _, by simp, (kC1.alloc _).alloc _, (kP1.alloc _).alloc _, (kK1.alloc _).alloc _, (kO1.alloc _).alloc _, (Bk.new _ _ _ rfl).alloc _, Bk.new _ _ _ (by simp), OwnL.nil _ _, balloc (balloc (Below.refl _ _) _) _⟩
        case round =>
          obtain ⟨j, v, hj, rfl, jC, jP, jK, jO, jE, jB, ho, hbw⟩ := hrel
          obtain ⟨kcC, kfC, kaC, kgC, klC⟩ := jC.rules
          obtain ⟨kcP, kfP, kaP, kgP, klP⟩ := jP.rules
          obtain ⟨kcK, kfK, kaK, kgK, klK⟩ := jK.rules
          obtain ⟨kcO, kfO, kaO, kgO, klO⟩ := jO.rules
          obtain ⟨kcE, kfE, kaE, kgE, klE⟩ := jE.rules
          obtain ⟨kcB, kfB, kaB, kgB, klB⟩ := jB.rules
          by_cases hlt : b.r.y0 + j < b.r.y1
          · go_wp2_with fail
            clear kcC kfC kaC kgC kcP kfP kaP kgP kcK kfK kaK kgK kcO kfO kaO kgO kcE kfE kaE kgE kcB kfB kaB kgB
            go_loopw [14] (fun i wr => ∃ (k : Nat) (u : Value), k ≤ wd ∧ i = .int .i64 (b.r.x0 + k) ∧ Bk wr (w.heap.size) 28 #[.int .i64 b.r.x0, .int .i64 b.r.y0, .int .i64 b.r.x1, .int .i64 b.r.y1, .slice b.A b.n b.c] ∧ Bk wr (w.heap.size + 1) 70 #[.int .i64 bx, .int .i64 by_] ∧ Bk wr (w.heap.size + 1 + 1) 71 #[.int .u8 c.r, .int .u8 c.g, .int .u8 c.b, .int .u8 c.a] ∧ Bk wr (w.heap.size + 1 + 1 + 1) 28 #[.int .i64 0, .int .i64 0, .int .i64 0, .int .i64 0, .slice none 0 0] ∧ Bk wr (w1.heap.size) 28 #[.int .i64 b.r.x0, .int .i64 b.r.y0, .int .i64 b.r.x1, .int .i64 b.r.y1, .slice A1 N1 c1] ∧ Bk wr (w1.heap.size + 1) 28 #[.int .i64 b.r.x0, .int .i64 b.r.y0, .int .i64 b.r.x1, .int .i64 b.r.y1, u] ∧ OwnL encP 25 4 wr (w1.heap.size) u (madeL g b.r.x0 b.r.y0 wd j ++ rowL g b.r.x0 (b.r.y0 + j) k) ∧ Below w1.heap.size w1 wr) (fun i _ => (b.r.x1 - intOf i).toNat)
            case atStart => exact ⟨0, v, Nat.zero_le _, by simp, jC, jP, jK, jO, jE, jB, by simpa [rowL] using ho, hbw⟩
            case round =>
              obtain ⟨k, u, hk, rfl, q0C, q0P, q0K, q0O, q0E, q0B, qu0, qB0⟩ := hrel
              obtain ⟨kcC, kfC, kaC, kgC, klC⟩ := q0C.rules
              obtain ⟨kcP, kfP, kaP, kgP, klP⟩ := q0P.rules
              obtain ⟨kcK, kfK, kaK, kgK, klK⟩ := q0K.rules
              obtain ⟨kcO, kfO, kaO, kgO, klO⟩ := q0O.rules
              obtain ⟨kcE, kfE, kaE, kgE, klE⟩ := q0E.rules
              obtain ⟨kcB, kfB, kaB, kgB, klB⟩ := q0B.rules
              by_cases hlx : b.r.x0 + k < b.r.x1
              · obtain ⟨p, Hp⟩ : ∃ p, Hid (g (b.r.x0 + k) (b.r.y0 + j) = p) := ⟨_, rfl⟩
                have hlen : (madeL g b.r.x0 b.r.y0 wd j ++ rowL g b.r.x0 (b.r.y0 + j) k).length ≤ 4294967296 := by
                  rw [List.length_append, madeL_len, rowL_len]
                  have : j * wd ≤ 8192 * 8192 := Nat.mul_le_mul (by omega) hwl
                  omega
                obtain ⟨q, Hq⟩ : ∃ q, Hid (atL zP b.r L1 ((b.r.x0 + (k : Int)) - bx) ((b.r.y0 + (j : Int)) - by_) = q) := ⟨_, rfl⟩
                have hqb := atL_px (r := b.r) HLB.out ((b.r.x0 + (k : Int)) - bx) ((b.r.y0 + (j : Int)) - by_)
                rw [Hq.out] at hqb
                have HQB : Hid (0 ≤ q.a ∧ q.a ≤ 255) := ⟨hqb.a0, hqb.a1⟩
                have hfl := fldA q
                have Hp0 : Hid (scaleP pc q.a = p) := by
                  unfold Hid
                  rw [← Hp.out, ← HGV.out, (sh_near HDC.out L1 bx by_ (by omega) hlx (by omega) hlt).1 HNR.out, Hq.out]
                clear hqb
                go_wp2_with fail
                refine (near30_q bx true Hnx _).mono ?_
                rintro e wx ⟨rfl, rfl⟩
                go_wp2_with fail
                refine (near30_q by_ true Hny _).mono ?_
                rintro e wx ⟨rfl, rfl⟩
                go_wp2_with fail
                refine (pixat_any b.r A1 N1 c1 L1 ((b.r.x0 + (k : Int)) - bx) ((b.r.y0 + (j : Int)) - by_) _ (HR1.out.below qB0) HN1.out hN1 HSN.out q Hq).mono ?_
                rintro e w11 ⟨rfl, hb11⟩
                have q1C := q0C.below hb11
                have q1P := q0P.below hb11
                have q1K := q0K.below hb11
                have q1O := q0O.below hb11
                have q1E := q0E.below hb11
                have q1B := q0B.below hb11
                have qu1 := qu0.below hb11
                have qB1 := bstep hb11 qB0
                go_wp2_with fail
                clear kcC kfC kaC kgC kcP kfP kaP kgP kcK kfK kaK kgK kcO kfO kaO kgO kcE kfE kaE kgE kcB kfB kaB kgB
                have q2C := q1C.drew
                have q2P := q1P.drew
                have q2K := q1K.drew
                have q2O := q1O.drew
                have q2E := q1E.drew
                have q2B := q1B.drew
                have qu2 := qu1.drew
                have qB2 := qB1.drew
                refine wp_region_go 9 [(0, true), (1, true), (2, true), (4, true), (3, false), (5, false), (6, false), (7, false), (8, true)] (fun w' => Bk w' (w.heap.size) 28 #[.int .i64 b.r.x0, .int .i64 b.r.y0, .int .i64 b.r.x1, .int .i64 b.r.y1, .slice b.A b.n b.c] ∧ Bk w' (w.heap.size + 1) 70 #[.int .i64 bx, .int .i64 by_] ∧ Bk w' (w.heap.size + 1 + 1) 71 #[.int .u8 c.r, .int .u8 c.g, .int .u8 c.b, .int .u8 c.a] ∧ Bk w' (w.heap.size + 1 + 1 + 1) 28 #[.int .i64 0, .int .i64 0, .int .i64 0, .int .i64 0, .slice none 0 0] ∧ Bk w' (w1.heap.size) 28 #[.int .i64 b.r.x0, .int .i64 b.r.y0, .int .i64 b.r.x1, .int .i64 b.r.y1, .slice A1 N1 c1] ∧ Bk w' (w1.heap.size + 1) 28 #[.int .i64 b.r.x0, .int .i64 b.r.y0, .int .i64 b.r.x1, .int .i64 b.r.y1, u] ∧ Below w1.heap.size w1 w') (by kernel_rfl) (by kernel_rfl) (fun c a d v w h => by cases d <;> exact h) ⟨q2C, q2P, q2K, q2O, q2E, q2B, qB2⟩ ?_
                repeat (first | (refine wpGo_pure (v := ?_) rfl rfl (fun w' hS => ?_) ?_; rotate_left; (· obtain ⟨kc0, kf0, ka0, kg0, kl0⟩ := Bk.rules hS.1; obtain ⟨kc1, kf1, ka1, kg1, kl1⟩ := Bk.rules hS.2.1; obtain ⟨kc2, kf2, ka2, kg2, kl2⟩ := Bk.rules hS.2.2.1; obtain ⟨kc3, kf3, ka3, kg3, kl3⟩ := Bk.rules hS.2.2.2.1; obtain ⟨kc4, kf4, ka4, kg4, kl4⟩ := Bk.rules hS.2.2.2.2.1; obtain ⟨kc5, kf5, ka5, kg5, kl5⟩ := Bk.rules hS.2.2.2.2.2.1; have hSB := hS.2.2.2.2.2.2; go_simp; exact rfl); (try simp only [Act.put, List.setIfInBounds_toArray, List.set_cons_zero, List.set_cons_succ])) | ((refine wpGo_skip rfl rfl ?_); (try simp only [Act.put, List.setIfInBounds_toArray, List.set_cons_zero, List.set_cons_succ])))
                refine wpGo_eff rfl (fun K hK => ?_)
                go_simp
                refine (rpre_q c pc Hpc _ HCB.out).mono ?_
                rintro e w12 ⟨rfl, hb12⟩
                have q3C := q2C.below hb12
                have q3P := q2P.below hb12
                have q3K := q2K.below hb12
                have q3O := q2O.below hb12
                have q3E := q2E.below hb12
                have q3B := q2B.below hb12
                have qu3 := qu2.below hb12
                have qB3 := bstep hb12 qB2
                refine hK.out _ _ ⟨q3C, q3P, q3K, q3O, q3E, q3B, qB3⟩ (fun _ => ?_)
                clear hK K
                refine wpGo_eff rfl (fun K hK => ?_)
                go_simp
                refine (rscale_q pc q.a p Hp0 _ HPB.out HQB.out.1 HQB.out.2).mono ?_
                rintro e w13 ⟨rfl, hb13⟩
                have q4C := q3C.below hb13
                have q4P := q3P.below hb13
                have q4K := q3K.below hb13
                have q4O := q3O.below hb13
                have q4E := q3E.below hb13
                have q4B := q3B.below hb13
                have qu4 := qu3.below hb13
                have qB4 := bstep hb13 qB3
                refine hK.out _ _ ⟨q4C, q4P, q4K, q4O, q4E, q4B, qB4⟩ (fun _ => ?_)
                clear hK K
                refine wpGo_eff rfl (fun K hK => ?_)
                go_simp
                have q5C := q4C.alloc (.cells #[.int .u8 p.r, .int .u8 p.g, .int .u8 p.b, .int .u8 p.a] 25)
                have q5P := q4P.alloc (.cells #[.int .u8 p.r, .int .u8 p.g, .int .u8 p.b, .int .u8 p.a] 25)
                have q5K := q4K.alloc (.cells #[.int .u8 p.r, .int .u8 p.g, .int .u8 p.b, .int .u8 p.a] 25)
                have q5O := q4O.alloc (.cells #[.int .u8 p.r, .int .u8 p.g, .int .u8 p.b, .int .u8 p.a] 25)
                have q5E := q4E.alloc (.cells #[.int .u8 p.r, .int .u8 p.g, .int .u8 p.b, .int .u8 p.a] 25)
                have q5B := q4B.alloc (.cells #[.int .u8 p.r, .int .u8 p.g, .int .u8 p.b, .int .u8 p.a] 25)
                have qu5 := qu4.alloc (.cells #[.int .u8 p.r, .int .u8 p.g, .int .u8 p.b, .int .u8 p.a] 25)
                have qB5 := balloc qB4 (.cells #[.int .u8 p.r, .int .u8 p.g, .int .u8 p.b, .int .u8 p.a] 25)
                refine hK.out _ _ ⟨q5C, q5P, q5K, q5O, q5E, q5B, qB5⟩ (fun _ => ?_)
                clear hK K
                have hsz := qB5.size
                refine wpGo_effp rfl (fun K hK => ?_)
                refine wp_append_one encP_len encP_one 26 Try.infoPx rfl (by decide) (by decide) Try.underlying26 _ _ rfl (w1.heap.size) u _ rfl qu5 w13.heap.size p rfl (Bk.new _ _ _ (by first | rfl | simp)) rfl hlen (by first | (simp at hsz ⊢; omega) | (have h1 := q5B.lt; simp at hsz h1 ⊢; omega) | (have h1 := q5B.lt; simp at hsz ⊢; omega)) ?_
                intro v5 w5 ho5 hg5 hv5
                have q6C := q5C.grown hg5 (qu5.neBk q5C (by decide))
                have q6P := q5P.grown hg5 (qu5.neBk q5P (by decide))
                have q6K := q5K.grown hg5 (qu5.neBk q5K (by decide))
                have q6O := q5O.grown hg5 (qu5.neBk q5O (by decide))
                have q6E := q5E.grown hg5 (qu5.neBk q5E (by decide))
                have q6B := q5B.grown hg5 (qu5.neBk q5B (by decide))
                have qu6 := ho5
                have qB6 := below_grown qu5 hg5 qB5 (by first | exact Nat.le_refl _ | omega)
                obtain ⟨g5, c5, hv5, _⟩ := hv5
                refine hK.out _ _ ⟨q6C, q6P, q6K, q6O, q6E, q6B, qB6⟩ (fun _ => ?_)
                clear hK K
                simp only [Act.put, List.setIfInBounds_toArray, List.set_cons_zero, List.set_cons_succ]
                repeat (first | (refine wpGo_pure (v := ?_) rfl rfl (fun w' hS => ?_) ?_; rotate_left; (· obtain ⟨kc0, kf0, ka0, kg0, kl0⟩ := Bk.rules hS.1; obtain ⟨kc1, kf1, ka1, kg1, kl1⟩ := Bk.rules hS.2.1; obtain ⟨kc2, kf2, ka2, kg2, kl2⟩ := Bk.rules hS.2.2.1; obtain ⟨kc3, kf3, ka3, kg3, kl3⟩ := Bk.rules hS.2.2.2.1; obtain ⟨kc4, kf4, ka4, kg4, kl4⟩ := Bk.rules hS.2.2.2.2.1; obtain ⟨kc5, kf5, ka5, kg5, kl5⟩ := Bk.rules hS.2.2.2.2.2.1; have hSB := hS.2.2.2.2.2.2; go_simp; exact rfl); (try simp only [Act.put, List.setIfInBounds_toArray, List.set_cons_zero, List.set_cons_succ])) | ((refine wpGo_skip rfl rfl ?_); (try simp only [Act.put, List.setIfInBounds_toArray, List.set_cons_zero, List.set_cons_succ])))
                refine wpGo_nil ?_
                simp only [List.drop_succ_cons, List.drop_zero]
                clear Hp0
                have HL : Hid (madeL g b.r.x0 b.r.y0 wd j ++ rowL g b.r.x0 (b.r.y0 + j) k ++ [p] = madeL g b.r.x0 b.r.y0 wd j ++ rowL g b.r.x0 (b.r.y0 + j) (k + 1)) := by
                  unfold Hid; rw [rowL_succ, Hp.out, List.append_assoc]
                rw [HL.out] at qu6
                obtain ⟨kc5, kf5, ka5, kg5, kl5⟩ := q6B.rules
                have mB : Bk _ (w1.heap.size + 1) 28 #[.int .i64 b.r.x0, .int .i64 b.r.y0, .int .i64 b.r.x1, .int .i64 b.r.y1, v5] := q6B.set 4 v5
                have mC := q6C.far (p := ⟨w1.heap.size + 1, 4, none⟩) (show w.heap.size ≠ w1.heap.size + 1 by omega) v5
                have mP := q6P.far (p := ⟨w1.heap.size + 1, 4, none⟩) (show w.heap.size + 1 ≠ w1.heap.size + 1 by omega) v5
                have mK := q6K.far (p := ⟨w1.heap.size + 1, 4, none⟩) (show w.heap.size + 1 + 1 ≠ w1.heap.size + 1 by omega) v5
                have mO := q6O.far (p := ⟨w1.heap.size + 1, 4, none⟩) (show w.heap.size + 1 + 1 + 1 ≠ w1.heap.size + 1 by omega) v5
                have mE := q6E.far (p := ⟨w1.heap.size + 1, 4, none⟩) (show w1.heap.size ≠ w1.heap.size + 1 by omega) v5
                have ho6 := qu6.setFar q6B (by decide) 4 v5
                have hB6 := bset qB6 (p := ⟨w1.heap.size + 1, 4, none⟩) (show w1.heap.size ≤ w1.heap.size + 1 by omega) v5
                clear HL q1C q1P q1K q1O q1E q1B q2C q2P q2K q2O q2E q2B q3C q3P q3K q3O q3E q3B q4C q4P q4K q4O q4E q4B q5C q5P q5K q5O q5E q5B q6C q6P q6K q6O q6E q6B qu1 qu2 qu3 qu4 qu5 qB1 qB2 qB3 qB4 qB5 qB6
                generalize (madeL g b.r.x0 b.r.y0 wd j ++ rowL g b.r.x0 (b.r.y0 + (j : Int)) k).length + 1 = n5 at hv5
                subst hv5
                go_wp2
                go_roundw
                case rel => exact ⟨k + 1, _, by omega, by rw [show b.r.x0 + (k : Int) + 1 = b.r.x0 + ((k + 1 : Nat) : Int) by omega], mC, mP, mK, mO, mE, mB, ho6, hB6⟩
                case measure => simp [intOf]; omega
              · obtain rfl : k = wd := by omega
                have hu' : OwnL encP 25 4 wr (w1.heap.size) u (madeL g b.r.x0 b.r.y0 k (j + 1)) := by rw [madeL_succ]; exact qu0
                go_wp2
                go_roundw
                case rel => exact ⟨j + 1, u, by omega, by rw [show b.r.y0 + (j : Int) + 1 = b.r.y0 + ((j + 1 : Nat) : Int) by omega], q0C, q0P, q0K, q0O, q0E, q0B, hu', qB0⟩
                case measure => simp [intOf]; omega
          · obtain rfl : j = ht := by omega
            have ho := ho.mono (show w.heap.size ≤ w1.heap.size by omega)
            have hbW : Below w.heap.size w wr := bstep hbw hB1
            clear hbw
            obtain ⟨kc', kf', ka', kg', kl'⟩ := jO.rules
            obtain ⟨A0, c0', hv0, _, _⟩ := ho.form encP_len
            generalize (madeL g b.r.x0 b.r.y0 wd j).length = n0 at hv0
            subst hv0
            have o1 := ho.setFar jO (by decide) 0 (.int .i64 b.r.x0)
            have m1 := jO.set 0 (.int .i64 b.r.x0)
            have o2 := o1.setFar m1 (by decide) 1 (.int .i64 b.r.y0)
            have m2 := m1.set 1 (.int .i64 b.r.y0)
            have o3 := o2.setFar m2 (by decide) 2 (.int .i64 b.r.x1)
            have m3 := m2.set 2 (.int .i64 b.r.x1)
            have o4 := o3.setFar m3 (by decide) 3 (.int .i64 b.r.y1)
            have m4 := m3.set 3 (.int .i64 b.r.y1)
            have o5 := o4.setFar m4 (by decide) 4 (.slice A0 n0 c0')
            clear o1 o2 o3 o4 m1 m2 m3 m4
            rw [← HPL.out] at o5
            go_wp2
            refine bodyPost_ret (v := _) ?_ rfl ⟨_, rfl, o5, (by repeat (first | (with_reducible exact Below.refl _ _) | (with_reducible refine balloc ?_ _) | (with_reducible refine Below.drew ?_) | (with_reducible refine bdrewN ?_ _) | ((with_reducible refine bset ?_ ?_ _); rotate_left; focus (first | (with_reducible exact Nat.le_refl _) | (simp; done) | (simp; omega) | omega)) | (with_reducible refine bstep (by with_reducible assumption) ?_)))⟩
            simp [results, Try.results46, go_sem, kc']
      · have HNR : Hid (¬ (-8192 ≤ bx ∧ bx ≤ 8192 ∧ -8192 ≤ by_ ∧ by_ ≤ 8192)) := fun h => hy ⟨h.2.2.1, h.2.2.2⟩
        have Hnx : Hid ((decide (-8192 ≤ bx) && decide (bx ≤ 8192)) = true) := by unfold Hid; simp; exact hx
        have Hny : Hid ((decide (-8192 ≤ by_) && decide (by_ ≤ 8192)) = false) := by unfold Hid; cases h : (decide (-8192 ≤ by_) && decide (by_ ≤ 8192)) with | false => rfl | true => exact absurd (by simpa using h) hy
        clear hx hy
        go_enter Try.func46, Try.ntmps46
        go_wp2_with fail
        refine (HBB.out _ (HB.out.below (by repeat (first | (with_reducible exact Below.refl _ _) | (with_reducible refine balloc ?_ _) | (with_reducible refine Below.drew ?_) | (with_reducible refine bdrewN ?_ _) | ((with_reducible refine bset ?_ ?_ _); rotate_left; focus (first | (with_reducible exact Nat.le_refl _) | (simp; done) | (simp; omega) | omega)) | (with_reducible refine bstep (by with_reducible assumption) ?_))))).mono ?_
        rintro e w1 ⟨v, rfl, ho1, hb1⟩
        obtain ⟨A1, c1, hv1, hr1, _⟩ := ho1.form encP_len
        rw [HN1.out] at hv1
        subst hv1
        have HR1 := Lib.hid hr1
        have kC1 : Bk w1 (w.heap.size) 28 #[.int .i64 b.r.x0, .int .i64 b.r.y0, .int .i64 b.r.x1, .int .i64 b.r.y1, .slice b.A b.n b.c] := (by repeat (first | (with_reducible assumption) | ((with_reducible refine Bk.new _ _ _ ?_); first | (with_reducible rfl) | (simp; done)) | (with_reducible refine Bk.alloc ?_ _) | (with_reducible refine Bk.drew ?_) | (with_reducible refine Bk.drewN ?_ _) | ((with_reducible refine Bk.far ?_ ?_ _); rotate_left; focus (first | (simp; done) | (simp; omega))) | (with_reducible refine Bk.below ?_ (by with_reducible assumption)))); obtain ⟨kcC1, kfC1, kaC1, kgC1, klC1⟩ := kC1.rules; have kP1 : Bk w1 (w.heap.size + 1) 70 #[.int .i64 bx, .int .i64 by_] := (by repeat (first | (with_reducible assumption) | ((with_reducible refine Bk.new _ _ _ ?_); first | (with_reducible rfl) | (simp; done)) | (with_reducible refine Bk.alloc ?_ _) | (with_reducible refine Bk.drew ?_) | (with_reducible refine Bk.drewN ?_ _) | ((with_reducible refine Bk.far ?_ ?_ _); rotate_left; focus (first | (simp; done) | (simp; omega))) | (with_reducible refine Bk.below ?_ (by with_reducible assumption)))); obtain ⟨kcP1, kfP1, kaP1, kgP1, klP1⟩ := kP1.rules; have kK1 : Bk w1 (w.heap.size + 1 + 1) 71 #[.int .u8 c.r, .int .u8 c.g, .int .u8 c.b, .int .u8 c.a] := (by repeat (first | (with_reducible assumption) | ((with_reducible refine Bk.new _ _ _ ?_); first | (with_reducible rfl) | (simp; done)) | (with_reducible refine Bk.alloc ?_ _) | (with_reducible refine Bk.drew ?_) | (with_reducible refine Bk.drewN ?_ _) | ((with_reducible refine Bk.far ?_ ?_ _); rotate_left; focus (first | (simp; done) | (simp; omega))) | (with_reducible refine Bk.below ?_ (by with_reducible assumption)))); obtain ⟨kcK1, kfK1, kaK1, kgK1, klK1⟩ := kK1.rules; have kO1 : Bk w1 (w.heap.size + 1 + 1 + 1) 28 #[.int .i64 0, .int .i64 0, .int .i64 0, .int .i64 0, .slice none 0 0] := (by repeat (first | (with_reducible assumption) | ((with_reducible refine Bk.new _ _ _ ?_); first | (with_reducible rfl) | (simp; done)) | (with_reducible refine Bk.alloc ?_ _) | (with_reducible refine Bk.drew ?_) | (with_reducible refine Bk.drewN ?_ _) | ((with_reducible refine Bk.far ?_ ?_ _); rotate_left; focus (first | (simp; done) | (simp; omega))) | (with_reducible refine Bk.below ?_ (by with_reducible assumption)))); obtain ⟨kcO1, kfO1, kaO1, kgO1, klO1⟩ := kO1.rules
        have hB1 : Below w.heap.size w w1 := (by repeat (first | (with_reducible exact Below.refl _ _) | (with_reducible refine balloc ?_ _) | (with_reducible refine Below.drew ?_) | (with_reducible refine bdrewN ?_ _) | ((with_reducible refine bset ?_ ?_ _); rotate_left; focus (first | (with_reducible exact Nat.le_refl _) | (simp; done) | (simp; omega) | omega)) | (with_reducible refine bstep (by with_reducible assumption) ?_)))
        have sO1 := kO1.lt
        have hcb := canon_bd b.r
        rw [HDC.out] at hcb
        clear hb1 hr1
        obtain ⟨⟨bx0, bx1, bx2⟩, ⟨by0, by1, by2⟩⟩ := hcb
        obtain ⟨wd, hwd⟩ : ∃ n : Nat, b.r.x1 - b.r.x0 = (n : Int) := ⟨(b.r.x1 - b.r.x0).toNat, by omega⟩
        obtain ⟨ht, hht⟩ : ∃ n : Nat, b.r.y1 - b.r.y0 = (n : Int) := ⟨(b.r.y1 - b.r.y0).toNat, by omega⟩
        have hw1 : b.r.x1 ≤ b.r.x0 + wd ∧ b.r.x0 + wd ≤ b.r.x1 := by omega
        have hh1 : b.r.y1 ≤ b.r.y0 + ht ∧ b.r.y0 + ht ≤ b.r.y1 := by omega
        have hPL : pixL g (b.r) = madeL g b.r.x0 b.r.y0 wd ht := by unfold pixL; rw [hwd, hht, Int.toNat_natCast, Int.toNat_natCast]
        have HPL := Lib.hid hPL
        have hwl : wd ≤ 8192 := by omega
        have hhl : ht ≤ 8192 := by omega
        clear hwd hht hPL
        go_wp2_with fail
        clear kcO1 kfO1 kaO1 kgO1 kcC1 kfC1 kaC1 kgC1 kcP1 kfP1 kaP1 kgP1 kcK1 kfK1 kaK1 kgK1
        go_loopw [13] (fun i wr => ∃ (j : Nat) (v : Value), j ≤ ht ∧ i = .int .i64 (b.r.y0 + j) ∧ Bk wr (w.heap.size) 28 #[.int .i64 b.r.x0, .int .i64 b.r.y0, .int .i64 b.r.x1, .int .i64 b.r.y1, .slice b.A b.n b.c] ∧ Bk wr (w.heap.size + 1) 70 #[.int .i64 bx, .int .i64 by_] ∧ Bk wr (w.heap.size + 1 + 1) 71 #[.int .u8 c.r, .int .u8 c.g, .int .u8 c.b, .int .u8 c.a] ∧ Bk wr (w.heap.size + 1 + 1 + 1) 28 #[.int .i64 0, .int .i64 0, .int .i64 0, .int .i64 0, .slice none 0 0] ∧ Bk wr (w1.heap.size) 28 #[.int .i64 b.r.x0, .int .i64 b.r.y0, .int .i64 b.r.x1, .int .i64 b.r.y1, .slice A1 N1 c1] ∧ Bk wr (w1.heap.size + 1) 28 #[.int .i64 b.r.x0, .int .i64 b.r.y0, .int .i64 b.r.x1, .int .i64 b.r.y1, v] ∧ OwnL encP 25 4 wr (w1.heap.size) v (madeL g b.r.x0 b.r.y0 wd j) ∧ Below w1.heap.size w1 wr) (fun i _ => (b.r.y1 - intOf i).toNat)
        case atStart => exact ⟨0, _, Nat.zero_le _, by simp, (kC1.alloc _).alloc _, (kP1.alloc _).alloc _, (kK1.alloc _).alloc _, (kO1.alloc _).alloc _, (Bk.new _ _ _ rfl).alloc _, Bk.new _ _ _ (by simp), OwnL.nil _ _, balloc (balloc (Below.refl _ _) _) _⟩
        case round =>
          obtain ⟨j, v, hj, rfl, jC, jP, jK, jO, jE, jB, ho, hbw⟩ := hrel
          obtain ⟨kcC, kfC, kaC, kgC, klC⟩ := jC.rules
          obtain ⟨kcP, kfP, kaP, kgP, klP⟩ := jP.rules
          obtain ⟨kcK, kfK, kaK, kgK, klK⟩ := jK.rules
          obtain ⟨kcO, kfO, kaO, kgO, klO⟩ := jO.rules
          obtain ⟨kcE, kfE, kaE, kgE, klE⟩ := jE.rules
          obtain ⟨kcB, kfB, kaB, kgB, klB⟩ := jB.rules
          by_cases hlt : b.r.y0 + j < b.r.y1
          · go_wp2_with fail
            clear kcC kfC kaC kgC kcP kfP kaP kgP kcK kfK kaK kgK kcO kfO kaO kgO kcE kfE kaE kgE kcB kfB kaB kgB
            go_loopw [14] (fun i wr => ∃ (k : Nat) (u : Value), k ≤ wd ∧ i = .int .i64 (b.r.x0 + k) ∧ Bk wr (w.heap.size) 28 #[.int .i64 b.r.x0, .int .i64 b.r.y0, .int .i64 b.r.x1, .int .i64 b.r.y1, .slice b.A b.n b.c] ∧ Bk wr (w.heap.size + 1) 70 #[.int .i64 bx, .int .i64 by_] ∧ Bk wr (w.heap.size + 1 + 1) 71 #[.int .u8 c.r, .int .u8 c.g, .int .u8 c.b, .int .u8 c.a] ∧ Bk wr (w.heap.size + 1 + 1 + 1) 28 #[.int .i64 0, .int .i64 0, .int .i64 0, .int .i64 0, .slice none 0 0] ∧ Bk wr (w1.heap.size) 28 #[.int .i64 b.r.x0, .int .i64 b.r.y0, .int .i64 b.r.x1, .int .i64 b.r.y1, .slice A1 N1 c1] ∧ Bk wr (w1.heap.size + 1) 28 #[.int .i64 b.r.x0, .int .i64 b.r.y0, .int .i64 b.r.x1, .int .i64 b.r.y1, u] ∧ OwnL encP 25 4 wr (w1.heap.size) u (madeL g b.r.x0 b.r.y0 wd j ++ rowL g b.r.x0 (b.r.y0 + j) k) ∧ Below w1.heap.size w1 wr) (fun i _ => (b.r.x1 - intOf i).toNat)
            case atStart => exact ⟨0, v, Nat.zero_le _, by simp, jC, jP, jK, jO, jE, jB, by simpa [rowL] using ho, hbw⟩
            case round =>
              obtain ⟨k, u, hk, rfl, q0C, q0P, q0K, q0O, q0E, q0B, qu0, qB0⟩ := hrel
              obtain ⟨kcC, kfC, kaC, kgC, klC⟩ := q0C.rules
              obtain ⟨kcP, kfP, kaP, kgP, klP⟩ := q0P.rules
              obtain ⟨kcK, kfK, kaK, kgK, klK⟩ := q0K.rules
              obtain ⟨kcO, kfO, kaO, kgO, klO⟩ := q0O.rules
              obtain ⟨kcE, kfE, kaE, kgE, klE⟩ := q0E.rules
              obtain ⟨kcB, kfB, kaB, kgB, klB⟩ := q0B.rules
              by_cases hlx : b.r.x0 + k < b.r.x1
              · obtain ⟨p, Hp⟩ : ∃ p, Hid (g (b.r.x0 + k) (b.r.y0 + j) = p) := ⟨_, rfl⟩
                have hlen : (madeL g b.r.x0 b.r.y0 wd j ++ rowL g b.r.x0 (b.r.y0 + j) k).length ≤ 4294967296 := by
                  rw [List.length_append, madeL_len, rowL_len]
                  have : j * wd ≤ 8192 * 8192 := Nat.mul_le_mul (by omega) hwl
                  omega
                have Hp0 : Hid (scaleP pc 0 = p) := by
                  unfold Hid
                  rw [← Hp.out, ← HGV.out, (sh_near HDC.out L1 bx by_ (by omega) hlx (by omega) hlt).2 HNR.out]
                  rfl
                go_wp2_with fail
                refine (near30_q bx true Hnx _).mono ?_
                rintro e wx ⟨rfl, rfl⟩
                go_wp2_with fail
                refine (near30_q by_ false Hny _).mono ?_
                rintro e wx ⟨rfl, rfl⟩
                go_wp2_with fail
                clear kcC kfC kaC kgC kcP kfP kaP kgP kcK kfK kaK kgK kcO kfO kaO kgO kcE kfE kaE kgE kcB kfB kaB kgB
                have q1C := q0C.drew
                have q1P := q0P.drew
                have q1K := q0K.drew
                have q1O := q0O.drew
                have q1E := q0E.drew
                have q1B := q0B.drew
                have qu1 := qu0.drew
                have qB1 := qB0.drew
                refine wp_region_go 9 [(0, true), (1, true), (2, true), (4, true), (3, false), (5, false), (6, false), (7, false), (8, true)] (fun w' => Bk w' (w.heap.size) 28 #[.int .i64 b.r.x0, .int .i64 b.r.y0, .int .i64 b.r.x1, .int .i64 b.r.y1, .slice b.A b.n b.c] ∧ Bk w' (w.heap.size + 1) 70 #[.int .i64 bx, .int .i64 by_] ∧ Bk w' (w.heap.size + 1 + 1) 71 #[.int .u8 c.r, .int .u8 c.g, .int .u8 c.b, .int .u8 c.a] ∧ Bk w' (w.heap.size + 1 + 1 + 1) 28 #[.int .i64 0, .int .i64 0, .int .i64 0, .int .i64 0, .slice none 0 0] ∧ Bk w' (w1.heap.size) 28 #[.int .i64 b.r.x0, .int .i64 b.r.y0, .int .i64 b.r.x1, .int .i64 b.r.y1, .slice A1 N1 c1] ∧ Bk w' (w1.heap.size + 1) 28 #[.int .i64 b.r.x0, .int .i64 b.r.y0, .int .i64 b.r.x1, .int .i64 b.r.y1, u] ∧ Below w1.heap.size w1 w') (by kernel_rfl) (by kernel_rfl) (fun c a d v w h => by cases d <;> exact h) ⟨q1C, q1P, q1K, q1O, q1E, q1B, qB1⟩ ?_
                repeat (first | (refine wpGo_pure (v := ?_) rfl rfl (fun w' hS => ?_) ?_; rotate_left; (· obtain ⟨kc0, kf0, ka0, kg0, kl0⟩ := Bk.rules hS.1; obtain ⟨kc1, kf1, ka1, kg1, kl1⟩ := Bk.rules hS.2.1; obtain ⟨kc2, kf2, ka2, kg2, kl2⟩ := Bk.rules hS.2.2.1; obtain ⟨kc3, kf3, ka3, kg3, kl3⟩ := Bk.rules hS.2.2.2.1; obtain ⟨kc4, kf4, ka4, kg4, kl4⟩ := Bk.rules hS.2.2.2.2.1; obtain ⟨kc5, kf5, ka5, kg5, kl5⟩ := Bk.rules hS.2.2.2.2.2.1; have hSB := hS.2.2.2.2.2.2; go_simp; exact rfl); (try simp only [Act.put, List.setIfInBounds_toArray, List.set_cons_zero, List.set_cons_succ])) | ((refine wpGo_skip rfl rfl ?_); (try simp only [Act.put, List.setIfInBounds_toArray, List.set_cons_zero, List.set_cons_succ])))
                refine wpGo_eff rfl (fun K hK => ?_)
                go_simp
                refine (rpre_q c pc Hpc _ HCB.out).mono ?_
                rintro e w11 ⟨rfl, hb11⟩
                have q2C := q1C.below hb11
                have q2P := q1P.below hb11
                have q2K := q1K.below hb11
                have q2O := q1O.below hb11
                have q2E := q1E.below hb11
                have q2B := q1B.below hb11
                have qu2 := qu1.below hb11
                have qB2 := bstep hb11 qB1
                refine hK.out _ _ ⟨q2C, q2P, q2K, q2O, q2E, q2B, qB2⟩ (fun _ => ?_)
                clear hK K
                refine wpGo_eff rfl (fun K hK => ?_)
                go_simp
                refine (rscale_q pc 0 p Hp0 _ HPB.out (by decide) (by decide)).mono ?_
                rintro e w12 ⟨rfl, hb12⟩
                have q3C := q2C.below hb12
                have q3P := q2P.below hb12
                have q3K := q2K.below hb12
                have q3O := q2O.below hb12
                have q3E := q2E.below hb12
                have q3B := q2B.below hb12
                have qu3 := qu2.below hb12
                have qB3 := bstep hb12 qB2
                refine hK.out _ _ ⟨q3C, q3P, q3K, q3O, q3E, q3B, qB3⟩ (fun _ => ?_)
                clear hK K
                refine wpGo_eff rfl (fun K hK => ?_)
                go_simp
                have q4C := q3C.alloc (.cells #[.int .u8 p.r, .int .u8 p.g, .int .u8 p.b, .int .u8 p.a] 25)
                have q4P := q3P.alloc (.cells #[.int .u8 p.r, .int .u8 p.g, .int .u8 p.b, .int .u8 p.a] 25)
                have q4K := q3K.alloc (.cells #[.int .u8 p.r, .int .u8 p.g, .int .u8 p.b, .int .u8 p.a] 25)
                have q4O := q3O.alloc (.cells #[.int .u8 p.r, .int .u8 p.g, .int .u8 p.b, .int .u8 p.a] 25)
                have q4E := q3E.alloc (.cells #[.int .u8 p.r, .int .u8 p.g, .int .u8 p.b, .int .u8 p.a] 25)
                have q4B := q3B.alloc (.cells #[.int .u8 p.r, .int .u8 p.g, .int .u8 p.b, .int .u8 p.a] 25)
                have qu4 := qu3.alloc (.cells #[.int .u8 p.r, .int .u8 p.g, .int .u8 p.b, .int .u8 p.a] 25)
                have qB4 := balloc qB3 (.cells #[.int .u8 p.r, .int .u8 p.g, .int .u8 p.b, .int .u8 p.a] 25)
                refine hK.out _ _ ⟨q4C, q4P, q4K, q4O, q4E, q4B, qB4⟩ (fun _ => ?_)
                clear hK K
                have hsz := qB4.size
                refine wpGo_effp rfl (fun K hK => ?_)
                refine wp_append_one encP_len encP_one 26 Try.infoPx rfl (by decide) (by decide) Try.underlying26 _ _ rfl (w1.heap.size) u _ rfl qu4 w12.heap.size p rfl (Bk.new _ _ _ (by first | rfl | simp)) rfl hlen (by first | (simp at hsz ⊢; omega) | (have h1 := q4B.lt; simp at hsz h1 ⊢; omega) | (have h1 := q4B.lt; simp at hsz ⊢; omega)) ?_
                intro v5 w5 ho5 hg5 hv5
                have q5C := q4C.grown hg5 (qu4.neBk q4C (by decide))
                have q5P := q4P.grown hg5 (qu4.neBk q4P (by decide))
                have q5K := q4K.grown hg5 (qu4.neBk q4K (by decide))
                have q5O := q4O.grown hg5 (qu4.neBk q4O (by decide))
                have q5E := q4E.grown hg5 (qu4.neBk q4E (by decide))
                have q5B := q4B.grown hg5 (qu4.neBk q4B (by decide))
                have qu5 := ho5
                have qB5 := below_grown qu4 hg5 qB4 (by first | exact Nat.le_refl _ | omega)
                obtain ⟨g5, c5, hv5, _⟩ := hv5
                refine hK.out _ _ ⟨q5C, q5P, q5K, q5O, q5E, q5B, qB5⟩ (fun _ => ?_)
                clear hK K
                simp only [Act.put, List.setIfInBounds_toArray, List.set_cons_zero, List.set_cons_succ]
                repeat (first | (refine wpGo_pure (v := ?_) rfl rfl (fun w' hS => ?_) ?_; rotate_left; (· obtain ⟨kc0, kf0, ka0, kg0, kl0⟩ := Bk.rules hS.1; obtain ⟨kc1, kf1, ka1, kg1, kl1⟩ := Bk.rules hS.2.1; obtain ⟨kc2, kf2, ka2, kg2, kl2⟩ := Bk.rules hS.2.2.1; obtain ⟨kc3, kf3, ka3, kg3, kl3⟩ := Bk.rules hS.2.2.2.1; obtain ⟨kc4, kf4, ka4, kg4, kl4⟩ := Bk.rules hS.2.2.2.2.1; obtain ⟨kc5, kf5, ka5, kg5, kl5⟩ := Bk.rules hS.2.2.2.2.2.1; have hSB := hS.2.2.2.2.2.2; go_simp; exact rfl); (try simp only [Act.put, List.setIfInBounds_toArray, List.set_cons_zero, List.set_cons_succ])) | ((refine wpGo_skip rfl rfl ?_); (try simp only [Act.put, List.setIfInBounds_toArray, List.set_cons_zero, List.set_cons_succ])))
                refine wpGo_nil ?_
                simp only [List.drop_succ_cons, List.drop_zero]
                clear Hp0
                have HL : Hid (madeL g b.r.x0 b.r.y0 wd j ++ rowL g b.r.x0 (b.r.y0 + j) k ++ [p] = madeL g b.r.x0 b.r.y0 wd j ++ rowL g b.r.x0 (b.r.y0 + j) (k + 1)) := by
                  unfold Hid; rw [rowL_succ, Hp.out, List.append_assoc]
                rw [HL.out] at qu5
                obtain ⟨kc5, kf5, ka5, kg5, kl5⟩ := q5B.rules
                have mB : Bk _ (w1.heap.size + 1) 28 #[.int .i64 b.r.x0, .int .i64 b.r.y0, .int .i64 b.r.x1, .int .i64 b.r.y1, v5] := q5B.set 4 v5
                have mC := q5C.far (p := ⟨w1.heap.size + 1, 4, none⟩) (show w.heap.size ≠ w1.heap.size + 1 by omega) v5
                have mP := q5P.far (p := ⟨w1.heap.size + 1, 4, none⟩) (show w.heap.size + 1 ≠ w1.heap.size + 1 by omega) v5
                have mK := q5K.far (p := ⟨w1.heap.size + 1, 4, none⟩) (show w.heap.size + 1 + 1 ≠ w1.heap.size + 1 by omega) v5
                have mO := q5O.far (p := ⟨w1.heap.size + 1, 4, none⟩) (show w.heap.size + 1 + 1 + 1 ≠ w1.heap.size + 1 by omega) v5
                have mE := q5E.far (p := ⟨w1.heap.size + 1, 4, none⟩) (show w1.heap.size ≠ w1.heap.size + 1 by omega) v5
                have ho6 := qu5.setFar q5B (by decide) 4 v5
                have hB6 := bset qB5 (p := ⟨w1.heap.size + 1, 4, none⟩) (show w1.heap.size ≤ w1.heap.size + 1 by omega) v5
                clear HL q1C q1P q1K q1O q1E q1B q2C q2P q2K q2O q2E q2B q3C q3P q3K q3O q3E q3B q4C q4P q4K q4O q4E q4B q5C q5P q5K q5O q5E q5B qu1 qu2 qu3 qu4 qB1 qB2 qB3 qB4 qB5
                generalize (madeL g b.r.x0 b.r.y0 wd j ++ rowL g b.r.x0 (b.r.y0 + (j : Int)) k).length + 1 = n5 at hv5
                subst hv5
                go_wp2
                go_roundw
                case rel => exact ⟨k + 1, _, by omega, by rw [show b.r.x0 + (k : Int) + 1 = b.r.x0 + ((k + 1 : Nat) : Int) by omega], mC, mP, mK, mO, mE, mB, ho6, hB6⟩
                case measure => simp [intOf]; omega
              · obtain rfl : k = wd := by omega
                have hu' : OwnL encP 25 4 wr (w1.heap.size) u (madeL g b.r.x0 b.r.y0 k (j + 1)) := by rw [madeL_succ]; exact qu0
                go_wp2
                go_roundw
                case rel => exact ⟨j + 1, u, by omega, by rw [show b.r.y0 + (j : Int) + 1 = b.r.y0 + ((j + 1 : Nat) : Int) by omega], q0C, q0P, q0K, q0O, q0E, q0B, hu', qB0⟩
                case measure => simp [intOf]; omega
          · obtain rfl : j = ht := by omega
            have ho := ho.mono (show w.heap.size ≤ w1.heap.size by omega)
            have hbW : Below w.heap.size w wr := bstep hbw hB1
            clear hbw
            obtain ⟨kc', kf', ka', kg', kl'⟩ := jO.rules
            obtain ⟨A0, c0', hv0, _, _⟩ := ho.form encP_len
            generalize (madeL g b.r.x0 b.r.y0 wd j).length = n0 at hv0
            subst hv0
            have o1 := ho.setFar jO (by decide) 0 (.int .i64 b.r.x0)
            have m1 := jO.set 0 (.int .i64 b.r.x0)
            have o2 := o1.setFar m1 (by decide) 1 (.int .i64 b.r.y0)
            have m2 := m1.set 1 (.int .i64 b.r.y0)
            have o3 := o2.setFar m2 (by decide) 2 (.int .i64 b.r.x1)
            have m3 := m2.set 2 (.int .i64 b.r.x1)
            have o4 := o3.setFar m3 (by decide) 3 (.int .i64 b.r.y1)
            have m4 := m3.set 3 (.int .i64 b.r.y1)
            have o5 := o4.setFar m4 (by decide) 4 (.slice A0 n0 c0')
            clear o1 o2 o3 o4 m1 m2 m3 m4
            rw [← HPL.out] at o5
            go_wp2
            refine bodyPost_ret (v := _) ?_ rfl ⟨_, rfl, o5, (by repeat (first | (with_reducible exact Below.refl _ _) | (with_reducible refine balloc ?_ _) | (with_reducible refine Below.drew ?_) | (with_reducible refine bdrewN ?_ _) | ((with_reducible refine bset ?_ ?_ _); rotate_left; focus (first | (with_reducible exact Nat.le_refl _) | (simp; done) | (simp; omega) | omega)) | (with_reducible refine bstep (by with_reducible assumption) ?_)))⟩
            simp [results, Try.results46, go_sem, kc']
    · have HNR : Hid (¬ (-8192 ≤ bx ∧ bx ≤ 8192 ∧ -8192 ≤ by_ ∧ by_ ≤ 8192)) := fun h => hx ⟨h.1, h.2.1⟩
      have Hnx : Hid ((decide (-8192 ≤ bx) && decide (bx ≤ 8192)) = false) := by unfold Hid; cases h : (decide (-8192 ≤ bx) && decide (bx ≤ 8192)) with | false => rfl | true => exact absurd (by simpa using h) hx
      clear hx
      go_enter Try.func46, Try.ntmps46
      go_wp2_with fail
      refine (HBB.out _ (HB.out.below (by repeat (first | (with_reducible exact Below.refl _ _) | (with_reducible refine balloc ?_ _) | (with_reducible refine Below.drew ?_) | (with_reducible refine bdrewN ?_ _) | ((with_reducible refine bset ?_ ?_ _); rotate_left; focus (first | (with_reducible exact Nat.le_refl _) | (simp; done) | (simp; omega) | omega)) | (with_reducible refine bstep (by with_reducible assumption) ?_))))).mono ?_
      rintro e w1 ⟨v, rfl, ho1, hb1⟩
      obtain ⟨A1, c1, hv1, hr1, _⟩ := ho1.form encP_len
      rw [HN1.out] at hv1
      subst hv1
      have HR1 := Lib.hid hr1
      have kC1 : Bk w1 (w.heap.size) 28 #[.int .i64 b.r.x0, .int .i64 b.r.y0, .int .i64 b.r.x1, .int .i64 b.r.y1, .slice b.A b.n b.c] := (by repeat (first | (with_reducible assumption) | ((with_reducible refine Bk.new _ _ _ ?_); first | (with_reducible rfl) | (simp; done)) | (with_reducible refine Bk.alloc ?_ _) | (with_reducible refine Bk.drew ?_) | (with_reducible refine Bk.drewN ?_ _) | ((with_reducible refine Bk.far ?_ ?_ _); rotate_left; focus (first | (simp; done) | (simp; omega))) | (with_reducible refine Bk.below ?_ (by with_reducible assumption)))); obtain ⟨kcC1, kfC1, kaC1, kgC1, klC1⟩ := kC1.rules; have kP1 : Bk w1 (w.heap.size + 1) 70 #[.int .i64 bx, .int .i64 by_] := (by repeat (first | (with_reducible assumption) | ((with_reducible refine Bk.new _ _ _ ?_); first | (with_reducible rfl) | (simp; done)) | (with_reducible refine Bk.alloc ?_ _) | (with_reducible refine Bk.drew ?_) | (with_reducible refine Bk.drewN ?_ _) | ((with_reducible refine Bk.far ?_ ?_ _); rotate_left; focus (first | (simp; done) | (simp; omega))) | (with_reducible refine Bk.below ?_ (by with_reducible assumption)))); obtain ⟨kcP1, kfP1, kaP1, kgP1, klP1⟩ := kP1.rules; have kK1 : Bk w1 (w.heap.size + 1 + 1) 71 #[.int .u8 c.r, .int .u8 c.g, .int .u8 c.b, .int .u8 c.a] := (by repeat (first | (with_reducible assumption) | ((with_reducible refine Bk.new _ _ _ ?_); first | (with_reducible rfl) | (simp; done)) | (with_reducible refine Bk.alloc ?_ _) | (with_reducible refine Bk.drew ?_) | (with_reducible refine Bk.drewN ?_ _) | ((with_reducible refine Bk.far ?_ ?_ _); rotate_left; focus (first | (simp; done) | (simp; omega))) | (with_reducible refine Bk.below ?_ (by with_reducible assumption)))); obtain ⟨kcK1, kfK1, kaK1, kgK1, klK1⟩ := kK1.rules; have kO1 : Bk w1 (w.heap.size + 1 + 1 + 1) 28 #[.int .i64 0, .int .i64 0, .int .i64 0, .int .i64 0, .slice none 0 0] := (by repeat (first | (with_reducible assumption) | ((with_reducible refine Bk.new _ _ _ ?_); first | (with_reducible rfl) | (simp; done)) | (with_reducible refine Bk.alloc ?_ _) | (with_reducible refine Bk.drew ?_) | (with_reducible refine Bk.drewN ?_ _) | ((with_reducible refine Bk.far ?_ ?_ _); rotate_left; focus (first | (simp; done) | (simp; omega))) | (with_reducible refine Bk.below ?_ (by with_reducible assumption)))); obtain ⟨kcO1, kfO1, kaO1, kgO1, klO1⟩ := kO1.rules
      have hB1 : Below w.heap.size w w1 := (by repeat (first | (with_reducible exact Below.refl _ _) | (with_reducible refine balloc ?_ _) | (with_reducible refine Below.drew ?_) | (with_reducible refine bdrewN ?_ _) | ((with_reducible refine bset ?_ ?_ _); rotate_left; focus (first | (with_reducible exact Nat.le_refl _) | (simp; done) | (simp; omega) | omega)) | (with_reducible refine bstep (by with_reducible assumption) ?_)))
      have sO1 := kO1.lt
      have hcb := canon_bd b.r
      rw [HDC.out] at hcb
      clear hb1 hr1
      obtain ⟨⟨bx0, bx1, bx2⟩, ⟨by0, by1, by2⟩⟩ := hcb
      obtain ⟨wd, hwd⟩ : ∃ n : Nat, b.r.x1 - b.r.x0 = (n : Int) := ⟨(b.r.x1 - b.r.x0).toNat, by omega⟩
      obtain ⟨ht, hht⟩ : ∃ n : Nat, b.r.y1 - b.r.y0 = (n : Int) := ⟨(b.r.y1 - b.r.y0).toNat, by omega⟩
      have hw1 : b.r.x1 ≤ b.r.x0 + wd ∧ b.r.x0 + wd ≤ b.r.x1 := by omega
      have hh1 : b.r.y1 ≤ b.r.y0 + ht ∧ b.r.y0 + ht ≤ b.r.y1 := by omega
      have hPL : pixL g (b.r) = madeL g b.r.x0 b.r.y0 wd ht := by unfold pixL; rw [hwd, hht, Int.toNat_natCast, Int.toNat_natCast]
      have HPL := Lib.hid hPL
      have hwl : wd ≤ 8192 := by omega
      have hhl : ht ≤ 8192 := by omega
      clear hwd hht hPL
      go_wp2_with fail
      clear kcO1 kfO1 kaO1 kgO1 kcC1 kfC1 kaC1 kgC1 kcP1 kfP1 kaP1 kgP1 kcK1 kfK1 kaK1 kgK1
      go_loopw [13] (fun i wr => ∃ (j : Nat) (v : Value), j ≤ ht ∧ i = .int .i64 (b.r.y0 + j) ∧ Bk wr (w.heap.size) 28 #[.int .i64 b.r.x0, .int .i64 b.r.y0, .int .i64 b.r.x1, .int .i64 b.r.y1, .slice b.A b.n b.c] ∧ Bk wr (w.heap.size + 1) 70 #[.int .i64 bx, .int .i64 by_] ∧ Bk wr (w.heap.size + 1 + 1) 71 #[.int .u8 c.r, .int .u8 c.g, .int .u8 c.b, .int .u8 c.a] ∧ Bk wr (w.heap.size + 1 + 1 + 1) 28 #[.int .i64 0, .int .i64 0, .int .i64 0, .int .i64 0, .slice none 0 0] ∧ Bk wr (w1.heap.size) 28 #[.int .i64 b.r.x0, .int .i64 b.r.y0, .int .i64 b.r.x1, .int .i64 b.r.y1, .slice A1 N1 c1] ∧ Bk wr (w1.heap.size + 1) 28 #[.int .i64 b.r.x0, .int .i64 b.r.y0, .int .i64 b.r.x1, .int .i64 b.r.y1, v] ∧ OwnL encP 25 4 wr (w1.heap.size) v (madeL g b.r.x0 b.r.y0 wd j) ∧ Below w1.heap.size w1 wr) (fun i _ => (b.r.y1 - intOf i).toNat)
      case atStart => exact ⟨0, _, Nat.zero_le _, by simp, (kC1.alloc _).alloc _, (kP1.alloc _).alloc _, (kK1.alloc _).alloc _, (kO1.alloc _).alloc _, (Bk.new _ _ _ rfl).alloc _, Bk.new _ _ _ (by simp), OwnL.nil _ _, balloc (balloc (Below.refl _ _) _) _⟩
      case round =>
        obtain ⟨j, v, hj, rfl, jC, jP, jK, jO, jE, jB, ho, hbw⟩ := hrel
        obtain ⟨kcC, kfC, kaC, kgC, klC⟩ := jC.rules
        obtain ⟨kcP, kfP, kaP, kgP, klP⟩ := jP.rules
        obtain ⟨kcK, kfK, kaK, kgK, klK⟩ := jK.rules
        obtain ⟨kcO, kfO, kaO, kgO, klO⟩ := jO.rules
        obtain ⟨kcE, kfE, kaE, kgE, klE⟩ := jE.rules
        obtain ⟨kcB, kfB, kaB, kgB, klB⟩ := jB.rules
        by_cases hlt : b.r.y0 + j < b.r.y1
        · go_wp2_with fail
          clear kcC kfC kaC kgC kcP kfP kaP kgP kcK kfK kaK kgK kcO kfO kaO kgO kcE kfE kaE kgE kcB kfB kaB kgB
          go_loopw [14] (fun i wr => ∃ (k : Nat) (u : Value), k ≤ wd ∧ i = .int .i64 (b.r.x0 + k) ∧ Bk wr (w.heap.size) 28 #[.int .i64 b.r.x0, .int .i64 b.r.y0, .int .i64 b.r.x1, .int .i64 b.r.y1, .slice b.A b.n b.c] ∧ Bk wr (w.heap.size + 1) 70 #[.int .i64 bx, .int .i64 by_] ∧ Bk wr (w.heap.size + 1 + 1) 71 #[.int .u8 c.r, .int .u8 c.g, .int .u8 c.b, .int .u8 c.a] ∧ Bk wr (w.heap.size + 1 + 1 + 1) 28 #[.int .i64 0, .int .i64 0, .int .i64 0, .int .i64 0, .slice none 0 0] ∧ Bk wr (w1.heap.size) 28 #[.int .i64 b.r.x0, .int .i64 b.r.y0, .int .i64 b.r.x1, .int .i64 b.r.y1, .slice A1 N1 c1] ∧ Bk wr (w1.heap.size + 1) 28 #[.int .i64 b.r.x0, .int .i64 b.r.y0, .int .i64 b.r.x1, .int .i64 b.r.y1, u] ∧ OwnL encP 25 4 wr (w1.heap.size) u (madeL g b.r.x0 b.r.y0 wd j ++ rowL g b.r.x0 (b.r.y0 + j) k) ∧ Below w1.heap.size w1 wr) (fun i _ => (b.r.x1 - intOf i).toNat)
          case atStart => exact ⟨0, v, Nat.zero_le _, by simp, jC, jP, jK, jO, jE, jB, by simpa [rowL] using ho, hbw⟩
          case round =>
            obtain ⟨k, u, hk, rfl, q0C, q0P, q0K, q0O, q0E, q0B, qu0, qB0⟩ := hrel
            obtain ⟨kcC, kfC, kaC, kgC, klC⟩ := q0C.rules
            obtain ⟨kcP, kfP, kaP, kgP, klP⟩ := q0P.rules
            obtain ⟨kcK, kfK, kaK, kgK, klK⟩ := q0K.rules
            obtain ⟨kcO, kfO, kaO, kgO, klO⟩ := q0O.rules
            obtain ⟨kcE, kfE, kaE, kgE, klE⟩ := q0E.rules
            obtain ⟨kcB, kfB, kaB, kgB, klB⟩ := q0B.rules
            by_cases hlx : b.r.x0 + k < b.r.x1
            · obtain ⟨p, Hp⟩ : ∃ p, Hid (g (b.r.x0 + k) (b.r.y0 + j) = p) := ⟨_, rfl⟩
              have hlen : (madeL g b.r.x0 b.r.y0 wd j ++ rowL g b.r.x0 (b.r.y0 + j) k).length ≤ 4294967296 := by
                rw [List.length_append, madeL_len, rowL_len]
                have : j * wd ≤ 8192 * 8192 := Nat.mul_le_mul (by omega) hwl
                omega
              have Hp0 : Hid (scaleP pc 0 = p) := by
                unfold Hid
                rw [← Hp.out, ← HGV.out, (sh_near HDC.out L1 bx by_ (by omega) hlx (by omega) hlt).2 HNR.out]
                rfl
              go_wp2_with fail
              refine (near30_q bx false Hnx _).mono ?_
              rintro e wx ⟨rfl, rfl⟩
              go_wp2_with fail
              clear kcC kfC kaC kgC kcP kfP kaP kgP kcK kfK kaK kgK kcO kfO kaO kgO kcE kfE kaE kgE kcB kfB kaB kgB
              have q1C := q0C.drew
              have q1P := q0P.drew
              have q1K := q0K.drew
              have q1O := q0O.drew
              have q1E := q0E.drew
              have q1B := q0B.drew
              have qu1 := qu0.drew
              have qB1 := qB0.drew
              refine wp_region_go 9 [(0, true), (1, true), (2, true), (4, true), (3, false), (5, false), (6, false), (7, false), (8, true)] (fun w' => Bk w' (w.heap.size) 28 #[.int .i64 b.r.x0, .int .i64 b.r.y0, .int .i64 b.r.x1, .int .i64 b.r.y1, .slice b.A b.n b.c] ∧ Bk w' (w.heap.size + 1) 70 #[.int .i64 bx, .int .i64 by_] ∧ Bk w' (w.heap.size + 1 + 1) 71 #[.int .u8 c.r, .int .u8 c.g, .int .u8 c.b, .int .u8 c.a] ∧ Bk w' (w.heap.size + 1 + 1 + 1) 28 #[.int .i64 0, .int .i64 0, .int .i64 0, .int .i64 0, .slice none 0 0] ∧ Bk w' (w1.heap.size) 28 #[.int .i64 b.r.x0, .int .i64 b.r.y0, .int .i64 b.r.x1, .int .i64 b.r.y1, .slice A1 N1 c1] ∧ Bk w' (w1.heap.size + 1) 28 #[.int .i64 b.r.x0, .int .i64 b.r.y0, .int .i64 b.r.x1, .int .i64 b.r.y1, u] ∧ Below w1.heap.size w1 w') (by kernel_rfl) (by kernel_rfl) (fun c a d v w h => by cases d <;> exact h) ⟨q1C, q1P, q1K, q1O, q1E, q1B, qB1⟩ ?_
              repeat (first | (refine wpGo_pure (v := ?_) rfl rfl (fun w' hS => ?_) ?_; rotate_left; (· obtain ⟨kc0, kf0, ka0, kg0, kl0⟩ := Bk.rules hS.1; obtain ⟨kc1, kf1, ka1, kg1, kl1⟩ := Bk.rules hS.2.1; obtain ⟨kc2, kf2, ka2, kg2, kl2⟩ := Bk.rules hS.2.2.1; obtain ⟨kc3, kf3, ka3, kg3, kl3⟩ := Bk.rules hS.2.2.2.1; obtain ⟨kc4, kf4, ka4, kg4, kl4⟩ := Bk.rules hS.2.2.2.2.1; obtain ⟨kc5, kf5, ka5, kg5, kl5⟩ := Bk.rules hS.2.2.2.2.2.1; have hSB := hS.2.2.2.2.2.2; go_simp; exact rfl); (try simp only [Act.put, List.setIfInBounds_toArray, List.set_cons_zero, List.set_cons_succ])) | ((refine wpGo_skip rfl rfl ?_); (try simp only [Act.put, List.setIfInBounds_toArray, List.set_cons_zero, List.set_cons_succ])))
              refine wpGo_eff rfl (fun K hK => ?_)
              go_simp
              refine (rpre_q c pc Hpc _ HCB.out).mono ?_
              rintro e w11 ⟨rfl, hb11⟩
              have q2C := q1C.below hb11
              have q2P := q1P.below hb11
              have q2K := q1K.below hb11
              have q2O := q1O.below hb11
              have q2E := q1E.below hb11
              have q2B := q1B.below hb11
              have qu2 := qu1.below hb11
              have qB2 := bstep hb11 qB1
              refine hK.out _ _ ⟨q2C, q2P, q2K, q2O, q2E, q2B, qB2⟩ (fun _ => ?_)
              clear hK K
              refine wpGo_eff rfl (fun K hK => ?_)
              go_simp
              refine (rscale_q pc 0 p Hp0 _ HPB.out (by decide) (by decide)).mono ?_
              rintro e w12 ⟨rfl, hb12⟩
              have q3C := q2C.below hb12
              have q3P := q2P.below hb12
              have q3K := q2K.below hb12
              have q3O := q2O.below hb12
              have q3E := q2E.below hb12
              have q3B := q2B.below hb12
              have qu3 := qu2.below hb12
              have qB3 := bstep hb12 qB2
              refine hK.out _ _ ⟨q3C, q3P, q3K, q3O, q3E, q3B, qB3⟩ (fun _ => ?_)
              clear hK K
              refine wpGo_eff rfl (fun K hK => ?_)
              go_simp
              have q4C := q3C.alloc (.cells #[.int .u8 p.r, .int .u8 p.g, .int .u8 p.b, .int .u8 p.a] 25)
              have q4P := q3P.alloc (.cells #[.int .u8 p.r, .int .u8 p.g, .int .u8 p.b, .int .u8 p.a] 25)
              have q4K := q3K.alloc (.cells #[.int .u8 p.r, .int .u8 p.g, .int .u8 p.b, .int .u8 p.a] 25)
              have q4O := q3O.alloc (.cells #[.int .u8 p.r, .int .u8 p.g, .int .u8 p.b, .int .u8 p.a] 25)
              have q4E := q3E.alloc (.cells #[.int .u8 p.r, .int .u8 p.g, .int .u8 p.b, .int .u8 p.a] 25)
              have q4B := q3B.alloc (.cells #[.int .u8 p.r, .int .u8 p.g, .int .u8 p.b, .int .u8 p.a] 25)
              have qu4 := qu3.alloc (.cells #[.int .u8 p.r, .int .u8 p.g, .int .u8 p.b, .int .u8 p.a] 25)
              have qB4 := balloc qB3 (.cells #[.int .u8 p.r, .int .u8 p.g, .int .u8 p.b, .int .u8 p.a] 25)
              refine hK.out _ _ ⟨q4C, q4P, q4K, q4O, q4E, q4B, qB4⟩ (fun _ => ?_)
              clear hK K
              have hsz := qB4.size
              refine wpGo_effp rfl (fun K hK => ?_)
              refine wp_append_one encP_len encP_one 26 Try.infoPx rfl (by decide) (by decide) Try.underlying26 _ _ rfl (w1.heap.size) u _ rfl qu4 w12.heap.size p rfl (Bk.new _ _ _ (by first | rfl | simp)) rfl hlen (by first | (simp at hsz ⊢; omega) | (have h1 := q4B.lt; simp at hsz h1 ⊢; omega) | (have h1 := q4B.lt; simp at hsz ⊢; omega)) ?_
              intro v5 w5 ho5 hg5 hv5
              have q5C := q4C.grown hg5 (qu4.neBk q4C (by decide))
              have q5P := q4P.grown hg5 (qu4.neBk q4P (by decide))
              have q5K := q4K.grown hg5 (qu4.neBk q4K (by decide))
              have q5O := q4O.grown hg5 (qu4.neBk q4O (by decide))
              have q5E := q4E.grown hg5 (qu4.neBk q4E (by decide))
              have q5B := q4B.grown hg5 (qu4.neBk q4B (by decide))
              have qu5 := ho5
              have qB5 := below_grown qu4 hg5 qB4 (by first | exact Nat.le_refl _ | omega)
              obtain ⟨g5, c5, hv5, _⟩ := hv5
              refine hK.out _ _ ⟨q5C, q5P, q5K, q5O, q5E, q5B, qB5⟩ (fun _ => ?_)
              clear hK K
              simp only [Act.put, List.setIfInBounds_toArray, List.set_cons_zero, List.set_cons_succ]
              repeat (first | (refine wpGo_pure (v := ?_) rfl rfl (fun w' hS => ?_) ?_; rotate_left; (· obtain ⟨kc0, kf0, ka0, kg0, kl0⟩ := Bk.rules hS.1; obtain ⟨kc1, kf1, ka1, kg1, kl1⟩ := Bk.rules hS.2.1; obtain ⟨kc2, kf2, ka2, kg2, kl2⟩ := Bk.rules hS.2.2.1; obtain ⟨kc3, kf3, ka3, kg3, kl3⟩ := Bk.rules hS.2.2.2.1; obtain ⟨kc4, kf4, ka4, kg4, kl4⟩ := Bk.rules hS.2.2.2.2.1; obtain ⟨kc5, kf5, ka5, kg5, kl5⟩ := Bk.rules hS.2.2.2.2.2.1; have hSB := hS.2.2.2.2.2.2; go_simp; exact rfl); (try simp only [Act.put, List.setIfInBounds_toArray, List.set_cons_zero, List.set_cons_succ])) | ((refine wpGo_skip rfl rfl ?_); (try simp only [Act.put, List.setIfInBounds_toArray, List.set_cons_zero, List.set_cons_succ])))
              refine wpGo_nil ?_
              simp only [List.drop_succ_cons, List.drop_zero]
              clear Hp0
              have HL : Hid (madeL g b.r.x0 b.r.y0 wd j ++ rowL g b.r.x0 (b.r.y0 + j) k ++ [p] = madeL g b.r.x0 b.r.y0 wd j ++ rowL g b.r.x0 (b.r.y0 + j) (k + 1)) := by
                unfold Hid; rw [rowL_succ, Hp.out, List.append_assoc]
              rw [HL.out] at qu5
              obtain ⟨kc5, kf5, ka5, kg5, kl5⟩ := q5B.rules
              have mB : Bk _ (w1.heap.size + 1) 28 #[.int .i64 b.r.x0, .int .i64 b.r.y0, .int .i64 b.r.x1, .int .i64 b.r.y1, v5] := q5B.set 4 v5
              have mC := q5C.far (p := ⟨w1.heap.size + 1, 4, none⟩) (show w.heap.size ≠ w1.heap.size + 1 by omega) v5
              have mP := q5P.far (p := ⟨w1.heap.size + 1, 4, none⟩) (show w.heap.size + 1 ≠ w1.heap.size + 1 by omega) v5
              have mK := q5K.far (p := ⟨w1.heap.size + 1, 4, none⟩) (show w.heap.size + 1 + 1 ≠ w1.heap.size + 1 by omega) v5
              have mO := q5O.far (p := ⟨w1.heap.size + 1, 4, none⟩) (show w.heap.size + 1 + 1 + 1 ≠ w1.heap.size + 1 by omega) v5
              have mE := q5E.far (p := ⟨w1.heap.size + 1, 4, none⟩) (show w1.heap.size ≠ w1.heap.size + 1 by omega) v5
              have ho6 := qu5.setFar q5B (by decide) 4 v5
              have hB6 := bset qB5 (p := ⟨w1.heap.size + 1, 4, none⟩) (show w1.heap.size ≤ w1.heap.size + 1 by omega) v5
              clear HL q1C q1P q1K q1O q1E q1B q2C q2P q2K q2O q2E q2B q3C q3P q3K q3O q3E q3B q4C q4P q4K q4O q4E q4B q5C q5P q5K q5O q5E q5B qu1 qu2 qu3 qu4 qB1 qB2 qB3 qB4 qB5
              generalize (madeL g b.r.x0 b.r.y0 wd j ++ rowL g b.r.x0 (b.r.y0 + (j : Int)) k).length + 1 = n5 at hv5
              subst hv5
              go_wp2
              go_roundw
              case rel => exact ⟨k + 1, _, by omega, by rw [show b.r.x0 + (k : Int) + 1 = b.r.x0 + ((k + 1 : Nat) : Int) by omega], mC, mP, mK, mO, mE, mB, ho6, hB6⟩
              case measure => simp [intOf]; omega
            · obtain rfl : k = wd := by omega
              have hu' : OwnL encP 25 4 wr (w1.heap.size) u (madeL g b.r.x0 b.r.y0 k (j + 1)) := by rw [madeL_succ]; exact qu0
              go_wp2
              go_roundw
              case rel => exact ⟨j + 1, u, by omega, by rw [show b.r.y0 + (j : Int) + 1 = b.r.y0 + ((j + 1 : Nat) : Int) by omega], q0C, q0P, q0K, q0O, q0E, q0B, hu', qB0⟩
              case measure => simp [intOf]; omega
        · obtain rfl : j = ht := by omega
          have ho := ho.mono (show w.heap.size ≤ w1.heap.size by omega)
          have hbW : Below w.heap.size w wr := bstep hbw hB1
          clear hbw
          obtain ⟨kc', kf', ka', kg', kl'⟩ := jO.rules
          obtain ⟨A0, c0', hv0, _, _⟩ := ho.form encP_len
          generalize (madeL g b.r.x0 b.r.y0 wd j).length = n0 at hv0
          subst hv0
          have o1 := ho.setFar jO (by decide) 0 (.int .i64 b.r.x0)
          have m1 := jO.set 0 (.int .i64 b.r.x0)
          have o2 := o1.setFar m1 (by decide) 1 (.int .i64 b.r.y0)
          have m2 := m1.set 1 (.int .i64 b.r.y0)
          have o3 := o2.setFar m2 (by decide) 2 (.int .i64 b.r.x1)
          have m3 := m2.set 2 (.int .i64 b.r.x1)
          have o4 := o3.setFar m3 (by decide) 3 (.int .i64 b.r.y1)
          have m4 := m3.set 3 (.int .i64 b.r.y1)
          have o5 := o4.setFar m4 (by decide) 4 (.slice A0 n0 c0')
          clear o1 o2 o3 o4 m1 m2 m3 m4
          rw [← HPL.out] at o5
          go_wp2
          refine bodyPost_ret (v := _) ?_ rfl ⟨_, rfl, o5, (by repeat (first | (with_reducible exact Below.refl _ _) | (with_reducible refine balloc ?_ _) | (with_reducible refine Below.drew ?_) | (with_reducible refine bdrewN ?_ _) | ((with_reducible refine bset ?_ ?_ _); rotate_left; focus (first | (with_reducible exact Nat.le_refl _) | (simp; done) | (simp; omega) | omega)) | (with_reducible refine bstep (by with_reducible assumption) ?_)))⟩
          simp [results, Try.results46, go_sem, kc']
end Go.Proofs.Ytnefnnhnjmmebaa
