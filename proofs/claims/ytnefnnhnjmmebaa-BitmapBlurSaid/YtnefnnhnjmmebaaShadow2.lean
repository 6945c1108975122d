/-
  The walk of bitmap.Shadow.
-/
import Derived.Test.YtnefnnhnjmmebaaShadow1
import Derived.Test.YtnefnnhnjmmebaaPlB
import Derived.Test.YtnefnnhnjmmebaaPlC
namespace Go.Proofs.Ytnefnnhnjmmebaa
open Go.RowKit
set_option linter.unusedSimpArgs false
set_option linter.unusedVariables false

def clP (n : Int) : Int := clI n (-16384) 16384
theorem clP_bd (n : Int) : -16384 ≤ clP n ∧ clP n ≤ 16384 := by unfold clP clI; split <;> (try split) <;> omega
def shL (b : Bm) (bx by_ n : Int) (c : Px) : List Px := if bbV b n then pixL (shG (bbL b n) b.r (preP c) (clP bx) (clP by_)) b.r else []
theorem bb_facts {b : Bm} {n : Int} (h : bbV b n = true) (hb : pxsB b.l) : pxsB (bbL b n) ∧ (((bbL b n).length : Nat) : Int) = areaR b.r ∧ bbR b n = b.r ∧ bbE b n = 0 ∧ canonR b.r = b.r ∧ areaR b.r ≤ 65536 := by
  have h1 : vBm b = true ∧ bbN n = true := by unfold bbV at h; simpa using h
  have hc : canonR b.r = b.r := (valid_cn h1.1).1
  have e2 : bbL b n = pixL (blurG b.l b.r n.toNat) b.r := by unfold bbL; rw [h]; rfl
  have hl := pix_len (blurG b.l b.r n.toNat) b.r
  rw [hc] at hl
  refine ⟨?_, by rw [e2]; exact hl, by unfold bbR; rw [h]; rfl, by unfold bbE; rw [h1.1, h1.2]; rfl, hc, (valid_cn h1.1).2.2.2⟩
  rw [e2]
  exact bpix_bytes fun x y => blurN_byte hb _ _ _ _ _

set_option maxRecDepth 100000 in
set_option maxHeartbeats 12800000 in
theorem sh_any (b : Bm) (bx by_ n : Int) (c : Px) (w : World) (hb : b.ok w) (hnb : b.n ≤ 4000000000) (hcb : c.byte) :
    Calls Try.prog 45 #[.agg #[.int .i64 b.r.x0, .int .i64 b.r.y0, .int .i64 b.r.x1, .int .i64 b.r.y1, .slice b.A b.n b.c], .agg #[.int .i64 bx, .int .i64 by_], .int .i64 n, .agg #[.int .u8 c.r, .int .u8 c.g, .int .u8 c.b, .int .u8 c.a]] w (RetBE (bbR b n) (shL b bx by_ n c) (bbE b n) w) := by
  have HS := Lib.hid hb
  have HCB := Lib.hid hcb
  clear hb hcb
  cases h1 : bbV b n with
  | false =>
    have e1 : bbR b n = ⟨0, 0, 0, 0⟩ := by unfold bbR; rw [h1]; rfl
    have e2 : bbL b n = [] := by unfold bbL; rw [h1]; rfl
    have e2' : shL b bx by_ n c = [] := by unfold shL; rw [h1]; rfl
    have e3 : bbE b n = 15 ∨ bbE b n = 6 := by unfold bbE; unfold bbV at h1; cases h2 : vBm b <;> cases h3 : bbN n <;> simp_all
    rw [e1, e2']
    rcases e3 with e3 | e3
    all_goals
      have HBB : Hid (∀ W, b.ok W → Calls Try.prog 42 #[.agg #[.int .i64 b.r.x0, .int .i64 b.r.y0, .int .i64 b.r.x1, .int .i64 b.r.y1, .slice b.A b.n b.c], .int .i64 n] W (RetBE ⟨0, 0, 0, 0⟩ [] _ W)) := fun W h => by
        have h2 := bb_any b n W h hnb
        rw [e1, e2, e3] at h2
        exact h2
      rw [e3]
      clear e1 e2 e2' e3 h1
      go_enter Try.func45, Try.ntmps45
      go_wp2_with fail
      refine (HBB.out _ (HS.out.below (by repeat (first | (with_reducible exact Below.refl _ _) | (with_reducible refine balloc ?_ _) | (with_reducible refine Below.drew ?_) | (with_reducible refine bdrewN ?_ _) | ((with_reducible refine bset ?_ ?_ _); rotate_left; focus (first | (with_reducible exact Nat.le_refl _) | (simp; done) | (simp; omega) | omega)) | (with_reducible refine bstep (by with_reducible assumption) ?_))))).mono ?_
      rintro e w1 ⟨v1, rfl, ho1, hb1⟩
      obtain ⟨A1, c1, hv1, _, _⟩ := ho1.form encP_len
      subst hv1
      have kO1 : Bk w1 (w.heap.size + 1 + 1 + 1) 28 #[.int .i64 0, .int .i64 0, .int .i64 0, .int .i64 0, .slice none 0 0] := (by repeat (first | (with_reducible assumption) | ((with_reducible refine Bk.new _ _ _ ?_); first | (with_reducible rfl) | (simp; done)) | (with_reducible refine Bk.alloc ?_ _) | (with_reducible refine Bk.drew ?_) | (with_reducible refine Bk.drewN ?_ _) | ((with_reducible refine Bk.far ?_ ?_ _); rotate_left; focus (first | (simp; done) | (simp; omega))) | (with_reducible refine Bk.below ?_ (by with_reducible assumption)))); obtain ⟨kcO1, kfO1, kaO1, kgO1, klO1⟩ := kO1.rules
      have hB1 : Below w.heap.size w w1 := (by repeat (first | (with_reducible exact Below.refl _ _) | (with_reducible refine balloc ?_ _) | (with_reducible refine Below.drew ?_) | (with_reducible refine bdrewN ?_ _) | ((with_reducible refine bset ?_ ?_ _); rotate_left; focus (first | (with_reducible exact Nat.le_refl _) | (simp; done) | (simp; omega) | omega)) | (with_reducible refine bstep (by with_reducible assumption) ?_)))
      have z0 : Bk _ (w.heap.size + 1 + 1 + 1) 28 #[.int .i64 0, .int .i64 0, .int .i64 0, .int .i64 0, .slice none 0 0] := (((((kO1.set 0 (.int .i64 0)).set 1 (.int .i64 0)).set 2 (.int .i64 0)).set 3 (.int .i64 0)).set 4 (.slice none 0 0))
      have z1 := z0.alloc (.cells #[.int .i64 0, .int .i64 0, .int .i64 0, .int .i64 0, .slice A1 0 c1] 28)
      obtain ⟨kcz, kfz, kaz, kgz, klz⟩ := z1.rules
      clear z0 z1
      go_wp2
      refine bodyPost_ret (v := _) ?_ rfl (RetBE.no _ (by repeat (first | (with_reducible exact Below.refl _ _) | (with_reducible refine balloc ?_ _) | (with_reducible refine Below.drew ?_) | (with_reducible refine bdrewN ?_ _) | ((with_reducible refine bset ?_ ?_ _); rotate_left; focus (first | (with_reducible exact Nat.le_refl _) | (simp; done) | (simp; omega) | omega)) | (with_reducible refine bstep (by with_reducible assumption) ?_))))
      simp [results, Try.results45, go_sem, kcz]
  | true =>
    obtain ⟨hby, hln, e1, e3, hcn, har⟩ := bb_facts h1 HS.out.byte
    have e2' : shL b bx by_ n c = pixL (shG (bbL b n) b.r (preP c) (clP bx) (clP by_)) b.r := by unfold shL; rw [h1]; rfl
    rw [e1, e2', e3]
    have HBB : Hid (∀ W, b.ok W → Calls Try.prog 42 #[.agg #[.int .i64 b.r.x0, .int .i64 b.r.y0, .int .i64 b.r.x1, .int .i64 b.r.y1, .slice b.A b.n b.c], .int .i64 n] W (RetBE b.r (bbL b n) 0 W)) := fun W h => by
      have h2 := bb_any b n W h hnb
      rw [e1, e3] at h2
      exact h2
    obtain ⟨L0, HL0⟩ : ∃ l, Hid (bbL b n = l) := ⟨_, rfl⟩
    rw [HL0.out] at HBB hby hln ⊢
    obtain ⟨n0, Hn0⟩ : ∃ k, Hid (L0.length = k) := ⟨_, rfl⟩
    rw [Hn0.out] at hln
    obtain ⟨p, Hp⟩ : ∃ p, Hid (preP c = p) := ⟨_, rfl⟩
    have hpb := pre_byte HCB.out
    rw [Hp.out] at hpb ⊢
    obtain ⟨dx, Hdx⟩ : ∃ d, Hid (clI bx (-16384) 16384 = d) := ⟨_, rfl⟩
    obtain ⟨dy, Hdy⟩ : ∃ d, Hid (clI by_ (-16384) 16384 = d) := ⟨_, rfl⟩
    have hdx := clP_bd bx
    have hdy := clP_bd by_
    rw [show clP bx = dx from Hdx.out] at hdx ⊢
    rw [show clP by_ = dy from Hdy.out] at hdy ⊢
    obtain ⟨g, Hg⟩ : ∃ g, Hid (shG L0 b.r p dx dy = g) := ⟨_, rfl⟩
    rw [Hg.out]
    have HDC : Hid (canonR b.r = b.r) := hcn
    have hcb0 := canon_bd b.r
    rw [hcn] at hcb0
    have HBY := Lib.hid hby
    have HLN := Lib.hid hln
    have HPB := Lib.hid hpb
    clear e1 e2' e3 h1 hby hln hcn hpb
    go_enter Try.func45, Try.ntmps45
    go_wp2_with fail
    refine (HBB.out _ (HS.out.below (by repeat (first | (with_reducible exact Below.refl _ _) | (with_reducible refine balloc ?_ _) | (with_reducible refine Below.drew ?_) | (with_reducible refine bdrewN ?_ _) | ((with_reducible refine bset ?_ ?_ _); rotate_left; focus (first | (with_reducible exact Nat.le_refl _) | (simp; done) | (simp; omega) | omega)) | (with_reducible refine bstep (by with_reducible assumption) ?_))))).mono ?_
    rintro e w1 ⟨v1, rfl, ho1, hb1⟩
    obtain ⟨A1, c1, hv1, hr1, hle1, hmx1⟩ := ho1.form2 encP_len
    rw [Hn0.out] at hv1 hle1
    subst hv1
    have kS1 : Bk w1 (w.heap.size) 28 #[.int .i64 b.r.x0, .int .i64 b.r.y0, .int .i64 b.r.x1, .int .i64 b.r.y1, .slice b.A b.n b.c] := (by repeat (first | (with_reducible assumption) | ((with_reducible refine Bk.new _ _ _ ?_); first | (with_reducible rfl) | (simp; done)) | (with_reducible refine Bk.alloc ?_ _) | (with_reducible refine Bk.drew ?_) | (with_reducible refine Bk.drewN ?_ _) | ((with_reducible refine Bk.far ?_ ?_ _); rotate_left; focus (first | (simp; done) | (simp; omega))) | (with_reducible refine Bk.below ?_ (by with_reducible assumption)))); obtain ⟨kcS1, kfS1, kaS1, kgS1, klS1⟩ := kS1.rules; have kY1 : Bk w1 (w.heap.size + 1) 70 #[.int .i64 bx, .int .i64 by_] := (by repeat (first | (with_reducible assumption) | ((with_reducible refine Bk.new _ _ _ ?_); first | (with_reducible rfl) | (simp; done)) | (with_reducible refine Bk.alloc ?_ _) | (with_reducible refine Bk.drew ?_) | (with_reducible refine Bk.drewN ?_ _) | ((with_reducible refine Bk.far ?_ ?_ _); rotate_left; focus (first | (simp; done) | (simp; omega))) | (with_reducible refine Bk.below ?_ (by with_reducible assumption)))); obtain ⟨kcY1, kfY1, kaY1, kgY1, klY1⟩ := kY1.rules; have kC1 : Bk w1 (w.heap.size + 1 + 1) 71 #[.int .u8 c.r, .int .u8 c.g, .int .u8 c.b, .int .u8 c.a] := (by repeat (first | (with_reducible assumption) | ((with_reducible refine Bk.new _ _ _ ?_); first | (with_reducible rfl) | (simp; done)) | (with_reducible refine Bk.alloc ?_ _) | (with_reducible refine Bk.drew ?_) | (with_reducible refine Bk.drewN ?_ _) | ((with_reducible refine Bk.far ?_ ?_ _); rotate_left; focus (first | (simp; done) | (simp; omega))) | (with_reducible refine Bk.below ?_ (by with_reducible assumption)))); obtain ⟨kcC1, kfC1, kaC1, kgC1, klC1⟩ := kC1.rules; have kO1 : Bk w1 (w.heap.size + 1 + 1 + 1) 28 #[.int .i64 0, .int .i64 0, .int .i64 0, .int .i64 0, .slice none 0 0] := (by repeat (first | (with_reducible assumption) | ((with_reducible refine Bk.new _ _ _ ?_); first | (with_reducible rfl) | (simp; done)) | (with_reducible refine Bk.alloc ?_ _) | (with_reducible refine Bk.drew ?_) | (with_reducible refine Bk.drewN ?_ _) | ((with_reducible refine Bk.far ?_ ?_ _); rotate_left; focus (first | (simp; done) | (simp; omega))) | (with_reducible refine Bk.below ?_ (by with_reducible assumption)))); obtain ⟨kcO1, kfO1, kaO1, kgO1, klO1⟩ := kO1.rules
    have hB1 : Below w.heap.size w w1 := (by repeat (first | (with_reducible exact Below.refl _ _) | (with_reducible refine balloc ?_ _) | (with_reducible refine Below.drew ?_) | (with_reducible refine bdrewN ?_ _) | ((with_reducible refine bset ?_ ?_ _); rotate_left; focus (first | (with_reducible exact Nat.le_refl _) | (simp; done) | (simp; omega) | omega)) | (with_reducible refine bstep (by with_reducible assumption) ?_)))
    have hok : Bm.ok ⟨b.r, A1, n0, c1, L0⟩ w1 := ⟨hr1, Hn0.out, HBY.out, hle1, hmx1⟩
    have HOK := Lib.hid hok
    clear hok hr1 hle1 hmx1 ho1
    have jS := kS1.alloc (.cells #[.int .i64 b.r.x0, .int .i64 b.r.y0, .int .i64 b.r.x1, .int .i64 b.r.y1, .slice A1 n0 c1] 28)
    have jY := kY1.alloc (.cells #[.int .i64 b.r.x0, .int .i64 b.r.y0, .int .i64 b.r.x1, .int .i64 b.r.y1, .slice A1 n0 c1] 28)
    have jC := kC1.alloc (.cells #[.int .i64 b.r.x0, .int .i64 b.r.y0, .int .i64 b.r.x1, .int .i64 b.r.y1, .slice A1 n0 c1] 28)
    have jO := kO1.alloc (.cells #[.int .i64 b.r.x0, .int .i64 b.r.y0, .int .i64 b.r.x1, .int .i64 b.r.y1, .slice A1 n0 c1] 28)
    have jB := Bk.new w1 28 #[.int .i64 b.r.x0, .int .i64 b.r.y0, .int .i64 b.r.x1, .int .i64 b.r.y1, .slice A1 n0 c1] (g := w1.heap.size) rfl
    have hB2 := balloc hB1 (.cells #[.int .i64 b.r.x0, .int .i64 b.r.y0, .int .i64 b.r.x1, .int .i64 b.r.y1, .slice A1 n0 c1] 28)
    go_wp2_with fail
    have lB : w.heap.size + 1 + 1 + 1 < w1.heap.size := kO1.lt
    have HOK2 : Hid (Bm.ok ⟨b.r, A1, n0, c1, L0⟩ (w1.alloc (.cells #[.int .i64 b.r.x0, .int .i64 b.r.y0, .int .i64 b.r.x1, .int .i64 b.r.y1, .slice A1 n0 c1] 28))) := HOK.out.below ((Below.refl _ _).alloc (Nat.le_refl _) _)
    obtain ⟨gB, hgB⟩ : ∃ g, w1.heap.size = g := ⟨_, rfl⟩
    rw [hgB] at jB lB ⊢
    clear kS1 kY1 kC1 kO1 kcS1 kfS1 kaS1 kgS1 kcY1 kfY1 kaY1 kgY1 kcC1 kfC1 kaC1 kgC1 kcO1 kfO1 kaO1 kgO1 klS1 klY1 klC1 klO1 hB1 hb1 HOK hgB
    generalize w1.alloc (.cells #[.int .i64 b.r.x0, .int .i64 b.r.y0, .int .i64 b.r.x1, .int .i64 b.r.y1, .slice A1 n0 c1] 28) = w2 at *
    have sB : gB < w2.heap.size := jB.lt
    refine wp_region_mixs 10 [0, 1, 3, 4] [2, 5] [6, 7] [8, 9] (fun _ => 3) (fun _ => #[.int .i64 0]) (by kernel_rfl) (by kernel_rfl) (fun c a d v w h => by cases d <;> exact h) (fun c a d v w h => by cases d <;> exact h) (fun j hj => by simp only [List.mem_cons, List.not_mem_nil, or_false] at hj; rcases hj with rfl | rfl <;> exact ⟨_, rfl, rfl, fun a w => by go_simp; rfl⟩) ?_
    simp only [List.map_cons, List.map_nil]
    repeat (first | (refine wpGo_pure (v := ?_) rfl rfl (fun w' hS => ?_) ?_; rotate_left; (· have kYp : Bk w' (w.heap.size + 1) 70 #[.int .i64 bx, .int .i64 by_] := (by repeat (first | (with_reducible assumption) | ((with_reducible refine Bk.new _ _ _ ?_); first | (with_reducible rfl) | (simp; done)) | (with_reducible refine Bk.alloc ?_ _) | (with_reducible refine Bk.drew ?_) | (with_reducible refine Bk.drewN ?_ _) | ((with_reducible refine Bk.far ?_ ?_ _); rotate_left; focus (first | (simp; done) | (simp; omega))) | (with_reducible refine Bk.below ?_ (by with_reducible assumption)))); obtain ⟨kcYp, kfYp, kaYp, kgYp, klYp⟩ := kYp.rules; go_simp; exact rfl); (try simp only [Act.put, List.setIfInBounds_toArray, List.set_cons_zero, List.set_cons_succ])) | ((refine wpGo_skip rfl rfl ?_); (try simp only [Act.put, List.setIfInBounds_toArray, List.set_cons_zero, List.set_cons_succ])))
    refine wpGo_nil ?_
    refine wpMix_call rfl (fun w10a hb10a K hK => ?_)
    go_simp
    refine (iclamp_q bx (-16384) 16384 dx Hdx _).mono ?_
    rintro e w10 ⟨rfl, hb10⟩
    refine hK.out _ _ hb10 (fun _ => ?_)
    clear hK K
    refine wpMix_call rfl (fun w11a hb11a K hK => ?_)
    go_simp
    refine (iclamp_q by_ (-16384) 16384 dy Hdy _).mono ?_
    rintro e w11 ⟨rfl, hb11⟩
    refine hK.out _ _ hb11 (fun _ => ?_)
    clear hK K
    refine wpMix_end (fun β w12 hb12 hbk hne => ?_)
    obtain ⟨k6, l6⟩ := hbk 6 (by simp)
    obtain ⟨k7, l7⟩ := hbk 7 (by simp)
    have ne67 := hne 6 (by simp) 7 (by simp) (by decide)
    clear hbk hne
    simp only [putAll, dstOf, ptrTo, List.foldl_cons, List.foldl_nil, List.getElem?_toArray, List.getElem?_cons_succ, List.getElem?_cons_zero, Option.bind_some, Act.put, List.setIfInBounds_toArray, List.set_cons_zero, List.set_cons_succ, List.drop_succ_cons, List.drop_zero]
    generalize β 6 = b6 at *
    generalize β 7 = b7 at *
    clear β
    have m6 : gB < b6 := by have := l6; omega
    have m7 : gB < b7 := by have := l7; omega
    have nS : Bk w12 (w.heap.size) 28 #[.int .i64 b.r.x0, .int .i64 b.r.y0, .int .i64 b.r.x1, .int .i64 b.r.y1, .slice b.A b.n b.c] := (by repeat (first | (with_reducible assumption) | ((with_reducible refine Bk.new _ _ _ ?_); first | (with_reducible rfl) | (simp; done)) | (with_reducible refine Bk.alloc ?_ _) | (with_reducible refine Bk.drew ?_) | (with_reducible refine Bk.drewN ?_ _) | ((with_reducible refine Bk.far ?_ ?_ _); rotate_left; focus (first | (simp; done) | (simp; omega))) | (with_reducible refine Bk.below ?_ (by with_reducible assumption))))
    have nC : Bk w12 (w.heap.size + 1 + 1) 71 #[.int .u8 c.r, .int .u8 c.g, .int .u8 c.b, .int .u8 c.a] := (by repeat (first | (with_reducible assumption) | ((with_reducible refine Bk.new _ _ _ ?_); first | (with_reducible rfl) | (simp; done)) | (with_reducible refine Bk.alloc ?_ _) | (with_reducible refine Bk.drew ?_) | (with_reducible refine Bk.drewN ?_ _) | ((with_reducible refine Bk.far ?_ ?_ _); rotate_left; focus (first | (simp; done) | (simp; omega))) | (with_reducible refine Bk.below ?_ (by with_reducible assumption))))
    have nO : Bk w12 (w.heap.size + 1 + 1 + 1) 28 #[.int .i64 0, .int .i64 0, .int .i64 0, .int .i64 0, .slice none 0 0] := (by repeat (first | (with_reducible assumption) | ((with_reducible refine Bk.new _ _ _ ?_); first | (with_reducible rfl) | (simp; done)) | (with_reducible refine Bk.alloc ?_ _) | (with_reducible refine Bk.drew ?_) | (with_reducible refine Bk.drewN ?_ _) | ((with_reducible refine Bk.far ?_ ?_ _); rotate_left; focus (first | (simp; done) | (simp; omega))) | (with_reducible refine Bk.below ?_ (by with_reducible assumption))))
    have nB : Bk w12 gB 28 #[.int .i64 b.r.x0, .int .i64 b.r.y0, .int .i64 b.r.x1, .int .i64 b.r.y1, .slice A1 n0 c1] := (by repeat (first | (with_reducible assumption) | ((with_reducible refine Bk.new _ _ _ ?_); first | (with_reducible rfl) | (simp; done)) | (with_reducible refine Bk.alloc ?_ _) | (with_reducible refine Bk.drew ?_) | (with_reducible refine Bk.drewN ?_ _) | ((with_reducible refine Bk.far ?_ ?_ _); rotate_left; focus (first | (simp; done) | (simp; omega))) | (with_reducible refine Bk.below ?_ (by with_reducible assumption))))
    have hB12 : Below w2.heap.size w2 w12 := (by repeat (first | (with_reducible exact Below.refl _ _) | (with_reducible refine balloc ?_ _) | (with_reducible refine Below.drew ?_) | (with_reducible refine bdrewN ?_ _) | ((with_reducible refine bset ?_ ?_ _); rotate_left; focus (first | (with_reducible exact Nat.le_refl _) | (simp; done) | (simp; omega) | omega)) | (with_reducible refine bstep (by with_reducible assumption) ?_)))
    have HOK3 : Hid (Bm.ok ⟨b.r, A1, n0, c1, L0⟩ w12) := HOK2.out.below hB12
    have HW0 := Lib.hid (bstep hB12 hB2)
    obtain ⟨kc6, kf6, ka6, kg6, kl6⟩ := k6.rules
    obtain ⟨kc7, kf7, ka7, kg7, kl7⟩ := k7.rules
    refine wpGo_eff rfl (fun K hK => ?_)
    go_simp
    refine hK.out _ _ (by repeat (first | (with_reducible exact Below.refl _ _) | (with_reducible refine balloc ?_ _) | (with_reducible refine Below.drew ?_) | (with_reducible refine bdrewN ?_ _) | ((with_reducible refine bset ?_ ?_ _); rotate_left; focus (first | (with_reducible exact Nat.le_refl _) | (simp; done) | (simp; omega) | omega)) | (with_reducible refine bstep (by with_reducible assumption) ?_))) (fun hS14 => ?_)
    clear hK K
    refine wpGo_eff rfl (fun K hK => ?_)
    go_simp
    refine hK.out _ _ (by repeat (first | (with_reducible exact Below.refl _ _) | (with_reducible refine balloc ?_ _) | (with_reducible refine Below.drew ?_) | (with_reducible refine bdrewN ?_ _) | ((with_reducible refine bset ?_ ?_ _); rotate_left; focus (first | (with_reducible exact Nat.le_refl _) | (simp; done) | (simp; omega) | omega)) | (with_reducible refine bstep (by with_reducible assumption) ?_))) (fun hS15 => ?_)
    clear hK K
    refine wpGo_nil ?_
    have hW0 := HW0.out
    have iS : Bk _ (w.heap.size) 28 #[.int .i64 b.r.x0, .int .i64 b.r.y0, .int .i64 b.r.x1, .int .i64 b.r.y1, .slice b.A b.n b.c] := ((nS.far (p := ⟨b6, 0, none⟩) (by simp; omega) (.int .i64 dx)).far (p := ⟨b7, 0, none⟩) (by simp; omega) (.int .i64 dy))
    have iC : Bk _ (w.heap.size + 1 + 1) 71 #[.int .u8 c.r, .int .u8 c.g, .int .u8 c.b, .int .u8 c.a] := ((nC.far (p := ⟨b6, 0, none⟩) (by simp; omega) (.int .i64 dx)).far (p := ⟨b7, 0, none⟩) (by simp; omega) (.int .i64 dy))
    have iO : Bk _ (w.heap.size + 1 + 1 + 1) 28 #[.int .i64 0, .int .i64 0, .int .i64 0, .int .i64 0, .slice none 0 0] := ((nO.far (p := ⟨b6, 0, none⟩) (by simp; omega) (.int .i64 dx)).far (p := ⟨b7, 0, none⟩) (by simp; omega) (.int .i64 dy))
    have iB : Bk _ gB 28 #[.int .i64 b.r.x0, .int .i64 b.r.y0, .int .i64 b.r.x1, .int .i64 b.r.y1, .slice A1 n0 c1] := ((nB.far (p := ⟨b6, 0, none⟩) (by simp; omega) (.int .i64 dx)).far (p := ⟨b7, 0, none⟩) (by simp; omega) (.int .i64 dy))
    have i6 : Bk _ b6 3 #[.int .i64 dx] := ((k6.set 0 (.int .i64 dx)).far (p := ⟨b7, 0, none⟩) ne67 (.int .i64 dy))
    have i7 : Bk _ b7 3 #[.int .i64 dy] := ((k7.far (p := ⟨b6, 0, none⟩) ne67.symm (.int .i64 dx)).set 0 (.int .i64 dy))
    have hV := (bset (bset hW0 (p := ⟨b6, 0, none⟩) (by show _ ≤ b6; omega) (.int .i64 dx)) (p := ⟨b7, 0, none⟩) (by show _ ≤ b7; omega) (.int .i64 dy))
    have hBs := (bset (bset hB12 (p := ⟨b6, 0, none⟩) (by show _ ≤ b6; omega) (.int .i64 dx)) (p := ⟨b7, 0, none⟩) (by show _ ≤ b7; omega) (.int .i64 dy))
    have HOK4 : Hid (Bm.ok ⟨b.r, A1, n0, c1, L0⟩ ((w12.setCell ⟨b6, 0, none⟩ (.int .i64 dx)).setCell ⟨b7, 0, none⟩ (.int .i64 dy))) := HOK2.out.below hBs
    obtain ⟨kx, kxf, kxa, kxg, kxl⟩ := iC.rules
    go_wp2_with fail
    generalize ((w12.setCell ⟨b6, 0, none⟩ (.int .i64 dx)).setCell ⟨b7, 0, none⟩ (.int .i64 dy)) = w9 at hV iS iC iO iB i6 i7 HOK4 ⊢
    clear nS nC nO nB hB12 HOK3 HW0 hW0 hBs HOK2 k6 k7 kc6 kf6 ka6 kg6 kl6 kc7 kf7 ka7 kg7 kl7 hS14 hS15 hb10a hb10 hb11a hb11 hb12 l6 l7 hB2 jS jY jC jO jB kx kxf kxa kxg kxl
    refine (pre_q c p Hp _ HCB.out).mono ?_
    rintro e w13 ⟨rfl, hb13⟩
    have yS := iS.below hb13
    have xO := (iO.below hb13).alloc (.cells #[.int .u8 p.r, .int .u8 p.g, .int .u8 p.b, .int .u8 p.a] 25)
    have xB := (iB.below hb13).alloc (.cells #[.int .u8 p.r, .int .u8 p.g, .int .u8 p.b, .int .u8 p.a] 25)
    have x6 := (i6.below hb13).alloc (.cells #[.int .u8 p.r, .int .u8 p.g, .int .u8 p.b, .int .u8 p.a] 25)
    have x7 := (i7.below hb13).alloc (.cells #[.int .u8 p.r, .int .u8 p.g, .int .u8 p.b, .int .u8 p.a] 25)
    have xP := Bk.new w13 25 #[.int .u8 p.r, .int .u8 p.g, .int .u8 p.b, .int .u8 p.a] (g := w13.heap.size) rfl
    have hB5 := balloc (bstep hb13 hV) (.cells #[.int .u8 p.r, .int .u8 p.g, .int .u8 p.b, .int .u8 p.a] 25)
    have HOK5 : Hid (Bm.ok ⟨b.r, A1, n0, c1, L0⟩ (w13.alloc (.cells #[.int .u8 p.r, .int .u8 p.g, .int .u8 p.b, .int .u8 p.a] 25))) := HOK4.out.below (balloc hb13 _)
    clear iS iO iB i6 i7 iC hV HOK4
    obtain ⟨kc, kf, ka, kg, kl⟩ := yS.rules
    go_wp2_with fail
    clear kc kf ka kg kl yS
    generalize w13.alloc (.cells #[.int .u8 p.r, .int .u8 p.g, .int .u8 p.b, .int .u8 p.a] 25) = w5 at *
    refine (made_Shadow b.r w13.heap.size gB b6 b7 g _ b.r HDC (fun x y w' hx0 hx1 hy0 hy1 hb => shadow1_any x y dx dy _ _ _ _ p ⟨b.r, A1, n0, c1, L0⟩ w5 w' hb HPB HOK5 (by show n0 ≤ _; have := HLN.out; omega) HLN (by omega) (by omega) hdx hdy (xP.below hb) (xB.below hb) (x6.below hb) (x7.below hb) (g x y) (by unfold Hid; rw [← Hg.out]))).mono ?_
    rintro e w4 ⟨v4, rfl, ho4, hb4⟩
    have kO4 := xO.below hb4
    have hB4 : Below w.heap.size w w4 := bstep hb4 hB5
    have ho := ho4.mono hB5.size
    obtain ⟨A0, c0', hv0, _, _⟩ := ho.form encP_len
    generalize (pixL g b.r).length = m0 at hv0
    subst hv0
    obtain ⟨kc', kf', ka', kg', kl'⟩ := kO4.rules
    have o1 := ho.setFar kO4 (by decide) 0 (.int .i64 b.r.x0)
    have m1 := kO4.set 0 (.int .i64 b.r.x0)
    have o2 := o1.setFar m1 (by decide) 1 (.int .i64 b.r.y0)
    have m2 := m1.set 1 (.int .i64 b.r.y0)
    have o3 := o2.setFar m2 (by decide) 2 (.int .i64 b.r.x1)
    have m3 := m2.set 2 (.int .i64 b.r.x1)
    have o4 := o3.setFar m3 (by decide) 3 (.int .i64 b.r.y1)
    have m4 := m3.set 3 (.int .i64 b.r.y1)
    have o5 := o4.setFar m4 (by decide) 4 (.slice A0 m0 c0')
    clear o1 o2 o3 o4 m1 m2 m3 m4
    go_wp2
    refine bodyPost_ret (v := _) ?_ rfl ⟨_, rfl, o5, (by repeat (first | (with_reducible exact Below.refl _ _) | (with_reducible refine balloc ?_ _) | (with_reducible refine Below.drew ?_) | (with_reducible refine bdrewN ?_ _) | ((with_reducible refine bset ?_ ?_ _); rotate_left; focus (first | (with_reducible exact Nat.le_refl _) | (simp; done) | (simp; omega) | omega)) | (with_reducible refine bstep (by with_reducible assumption) ?_)))⟩
    simp [results, Try.results45, go_sem, kc']
end Go.Proofs.Ytnefnnhnjmmebaa
