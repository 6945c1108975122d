/-
  What BitmapBlurBounds says of blurred bitmaps: plain Lean.
-/
import Derived.Test.YtnefnnhnjmmebaaShadow2
import Derived.Test.YtnefnnhnjmmebaaSame
namespace Go.Proofs.Ytnefnnhnjmmebaa
open Go.RowKit
set_option linter.unusedSimpArgs false
set_option linter.unusedVariables false

theorem mn8_le_r {a b : Int} (h0 : 0 ≤ a) (h1 : a ≤ 255) (h2 : 0 ≤ b) (h3 : b ≤ 255) : mn8 a b ≤ b := by
  unfold mn8
  refine rndP_le (by decide) ?_
  have := Int.mul_le_mul_of_nonneg_right h1 h2
  omega
theorem mn8_mono {a b k : Int} (h : a ≤ b) (hk : 0 ≤ k) : mn8 a k ≤ mn8 b k := rndP_mono (by decide) (Int.mul_le_mul_of_nonneg_right h hk)
theorem pre_pv {c : Px} (h : c.byte) : pvB (preP c) = true := by
  unfold pvB preP
  exact decide_eq_true ⟨mn8_le_r h.r0 h.r1 h.a0 h.a1, mn8_le_r h.g0 h.g1 h.a0 h.a1, mn8_le_r h.b0 h.b1 h.a0 h.a1⟩
theorem scale_pv {p : Px} (h : pvB p = true) {k : Int} (hk : 0 ≤ k) : pvB (scaleP p k) = true := by
  unfold pvB at h
  have h' := of_decide_eq_true h
  unfold pvB scaleP
  exact decide_eq_true ⟨mn8_mono h'.1 hk, mn8_mono h'.2.1 hk, mn8_mono h'.2.2 hk⟩
theorem blur_zero {b : Bm} (h : vBm b = true) : pixL (blurG b.l b.r 0) b.r = b.l := by
  obtain ⟨hc, hl, _, _⟩ := valid_cn h
  rw [← pix_at zP hc hl]
  refine pix_ext fun x y h0 h1 h2 h3 => ?_
  have hcon : containsB b.r x y = true := (contains_iff hc _ _).2 ⟨h0, h1, h2, h3⟩
  unfold blurG
  rw [pix_at zP hc hl, blurN_zero _ (by omega) (by omega)]
  unfold atL
  rw [if_pos hcon, pix_form hcon, Int.toNat_natCast]; rfl
/-- The facts on a blurred and a shadowed valid bitmap. -/
theorem bb_all {b : Bm} (h : vBm b = true) (hb : pxsB b.l) {k : Nat} (hk : k ≤ 16) (c : Px) (hcb : c.byte) :
    bbV b k = true ∧ bbL b k = pixL (blurG b.l b.r k) b.r ∧ bbL b 0 = b.l ∧ bmValid b.r (bbL b k) = true ∧ bmValid b.r (shL b 1 0 k c) = true ∧ (bbL b k).length = b.l.length ∧ (shL b 1 0 k c).length = b.l.length ∧ bbR b k = b.r ∧ bbE b k = 0 ∧ bbR b 0 = b.r ∧ bbE b 0 = 0 ∧ pxsB (bbL b k) := by
  obtain ⟨hc, hl, hpv, har⟩ := valid_cn h
  have hN : bbN (k : Int) = true := by unfold bbN; simp; omega
  have hV : bbV b k = true := by unfold bbV; rw [h, hN]; rfl
  have hV0 : bbV b 0 = true := by unfold bbV; rw [h]; rfl
  have e1 : bbL b k = pixL (blurG b.l b.r k) b.r := by unfold bbL; rw [hV, Int.toNat_natCast]; rfl
  have e0 : bbL b 0 = b.l := by
    have : bbL b 0 = pixL (blurG b.l b.r 0) b.r := by unfold bbL; rw [hV0]; rfl
    rw [this, blur_zero h]
  obtain ⟨f1, f2, f3, f4, _, _⟩ := bb_facts hV hb
  obtain ⟨_, _, g3, g4, _, _⟩ := bb_facts hV0 hb
  have v1 : bmValid b.r (bbL b k) = true := by rw [e1]; exact bpix_valid hc har fun x y => blurN_valid hpv _ _ _ _ _
  have e2 : shL b 1 0 k c = pixL (shG (bbL b k) b.r (preP c) (clP 1) (clP 0)) b.r := by unfold shL; rw [hV]; rfl
  have v2 : bmValid b.r (shL b 1 0 k c) = true := by
    rw [e2]
    refine bpix_valid hc har fun x y => scale_pv (pre_pv hcb) ?_
    exact (atL_px (r := b.r) f1 _ _).a0
  have l2 := (valid_cn v2).2.1
  refine ⟨hV, e1, e0, v1, v2, by omega, by omega, f3, f4, g3, g4, f1⟩
/-- The greatest components of the first pixels. -/
def mostP (l : List Px) (k : Nat) : Px := (l.take k).foldl (fun m p => ⟨max m.r p.r, max m.g p.g, max m.b p.b, max m.a p.a⟩) ⟨0, 0, 0, 0⟩
theorem most_succ {l : List Px} {k : Nat} (h : k < l.length) : mostP l (k + 1) = ⟨max (mostP l k).r (l[k]).r, max (mostP l k).g (l[k]).g, max (mostP l k).b (l[k]).b, max (mostP l k).a (l[k]).a⟩ := by
  unfold mostP; rw [List.take_succ_eq_append_getElem h, List.foldl_append]; rfl
theorem most_ge {l : List Px} (hb : pxsB l) : ∀ k, k ≤ l.length → (mostP l k).byte ∧ ∀ i (h : i < l.length), i < k → (l[i]).r ≤ (mostP l k).r ∧ (l[i]).g ≤ (mostP l k).g ∧ (l[i]).b ≤ (mostP l k).b ∧ (l[i]).a ≤ (mostP l k).a
  | 0, _ => ⟨(show Px.byte ⟨0, 0, 0, 0⟩ from ⟨by decide, by decide, by decide, by decide, by decide, by decide, by decide, by decide⟩), fun i _ hi => absurd hi (Nat.not_lt_zero _)⟩
  | k + 1, hk => by
    obtain ⟨h1, h2⟩ := most_ge hb k (by omega)
    obtain ⟨r0, r1, g0, g1, b0, b1, a0, a1⟩ := h1
    obtain ⟨r0', r1', g0', g1', b0', b1', a0', a1'⟩ := hb _ (List.getElem_mem (show k < l.length by omega))
    rw [most_succ (by omega)]
    refine ⟨⟨by simp only; omega, by simp only; omega, by simp only; omega, by simp only; omega, by simp only; omega, by simp only; omega, by simp only; omega, by simp only; omega⟩, fun i hi hik => ?_⟩
    by_cases e : i = k
    · subst e; simp only; omega
    · have := h2 i hi (by omega); simp only; omega
theorem most_blur {b : Bm} (hb : pxsB b.l) {k : Nat} {p : Px} (hp : p ∈ pixL (blurG b.l b.r k) b.r) : p.r ≤ (mostP b.l b.l.length).r ∧ p.g ≤ (mostP b.l b.l.length).g ∧ p.b ≤ (mostP b.l b.l.length).b ∧ p.a ≤ (mostP b.l b.l.length).a := by
  obtain ⟨x, y, _, _, _, _, rfl⟩ := pix_mem hp
  obtain ⟨h1, h2⟩ := most_ge hb b.l.length (Nat.le_refl _)
  have key : ∀ q ∈ b.l, (0 ≤ q.r ∧ q.r ≤ (mostP b.l b.l.length).r) ∧ (0 ≤ q.g ∧ q.g ≤ (mostP b.l b.l.length).g) ∧ (0 ≤ q.b ∧ q.b ≤ (mostP b.l b.l.length).b) ∧ 0 ≤ q.a ∧ q.a ≤ (mostP b.l b.l.length).a := fun q hq => by
    obtain ⟨i, hi, rfl⟩ := List.mem_iff_getElem.1 hq
    have h3 := h2 i hi hi
    have h4 := hb _ (List.getElem_mem hi)
    exact ⟨⟨h4.r0, h3.1⟩, ⟨h4.g0, h3.2.1⟩, ⟨h4.b0, h3.2.2.1⟩, h4.a0, h3.2.2.2⟩
  exact ⟨blurN_most (c := 0) h1.r0 (fun q hq => (key q hq).1) _ _ _ _ _, blurN_most (c := 1) h1.g0 (fun q hq => (key q hq).2.1) _ _ _ _ _, blurN_most (c := 2) h1.b0 (fun q hq => (key q hq).2.2.1) _ _ _ _ _, blurN_most (c := 3) h1.a0 (fun q hq => (key q hq).2.2.2) _ _ _ _ _⟩
end Go.Proofs.Ytnefnnhnjmmebaa
