/-
  A crop of a result is the result for the cropped destination: plain Lean.
-/
import Derived.Test.YtnefnnhnjmmebaaBmLm
namespace Go.Proofs.Ytnefnnhnjmmebaa
open Go.RowKit
set_option linter.unusedSimpArgs false
set_option linter.unusedVariables false

theorem bwc_pv {mode : Int} (hm : validModeB mode = true) {s d : Px} (hs : s.byte) (hd : d.byte) {k : Int} (h0 : 0 ≤ k) (h1 : k ≤ 255) : pvB (bwcP mode s d k) = true := by
  have h := (blend_ok hm (scale_byte hs h0 h1) hd).1
  exact decide_eq_true ⟨h.r1, h.g1, h.b1⟩
/-- The crop of a bitmap, in memory. -/
def cutB (d : Bm) (r : Rc) (A : Option Addr) (n c : Nat) : Bm := ⟨crR d r, A, n, c, crL d r⟩
section
variable {d : Bm} {r : Rc}
theorem cutB_v (hd : bmValid d.r d.l = true) (A : Option Addr) (n c : Nat) : vBm (cutB d r A n c) = true := cr_valid hd r
theorem cutB_r (hd : bmValid d.r d.l = true) (A : Option Addr) (n c : Nat) : (cutB d r A n c).r = interR d.r r := (cr_form hd r).1
theorem cutB_at (hd : bmValid d.r d.l = true) (A : Option Addr) (n c : Nat) {x y : Int} (hc : containsB (interR d.r r) x y = true) : atL zP (cutB d r A n c).r (cutB d r A n c).l x y = atL zP d.r d.l x y := cr_at hd r hc
theorem crop_pix (hd : bmValid d.r d.l = true) {g : Int → Int → Px} (hg : bmValid d.r (pixL g d.r) = true) (A : Option Addr) (n c : Nat) :
    crR ⟨d.r, A, n, c, pixL g d.r⟩ r = interR d.r r ∧ crL ⟨d.r, A, n, c, pixL g d.r⟩ r = pixL g (interR d.r r) ∧ crE ⟨d.r, A, n, c, pixL g d.r⟩ = 0 := by
  obtain ⟨h1, h2, h3⟩ := cr_form (b := ⟨d.r, A, n, c, pixL g d.r⟩) hg r
  refine ⟨h1, ?_, h3⟩
  rw [h2]
  refine pix_ext fun x y a0 a1 a2 a3 => ?_
  have hc := (contains_iff (inter_cn d.r r) x y).2 ⟨a0, a1, a2, a3⟩
  have hcd : containsB d.r x y = true := by rw [contains_inter] at hc; simp at hc; exact hc.1
  show atL zP d.r (pixL g d.r) x y = g x y
  rw [atL_pix, if_pos hcd]
theorem pix_cut (hd : bmValid d.r d.l = true) {g g' : Int → Int → Px} (h : ∀ x y, containsB (interR d.r r) x y = true → g x y = g' x y) : pixL g (interR d.r r) = pixL g' (interR d.r r) :=
  pix_ext fun x y a0 a1 a2 a3 => h x y ((contains_iff (inter_cn d.r r) x y).2 ⟨a0, a1, a2, a3⟩)
variable {s : Bm} {m : Mk} {mode : Int}
theorem crop_bo (h : boV mode s d m = true) (hs : pxsB s.l) (hdb : pxsB d.l) (hm : bytesB m.l) (A A' : Option Addr) (n c n' c' : Nat) :
    bmValid (boR mode s d m) (boL mode s d m) = true ∧ crR ⟨boR mode s d m, A, n, c, boL mode s d m⟩ r = boR mode s (cutB d r A' n' c') m ∧ crL ⟨boR mode s d m, A, n, c, boL mode s d m⟩ r = boL mode s (cutB d r A' n' c') m ∧ boE mode s (cutB d r A' n' c') m = 0 := by
  obtain ⟨⟨⟨h1, h2⟩, h3⟩, h4⟩ : ((vBm s = true ∧ vBm d = true) ∧ vMk m = true) ∧ validModeB mode = true := by unfold boV at h; simpa using h
  have hd : bmValid d.r d.l = true := h2
  obtain ⟨d0, d1, d2, d3⟩ := valid_cn hd
  have e1 : boR mode s d m = d.r := by unfold boR; rw [h]; rfl
  have e2 : boL mode s d m = pixL (boG mode s d m) d.r := by unfold boL; rw [h]; rfl
  have hv : boV mode s (cutB d r A' n' c') m = true := by unfold boV; rw [h1, cutB_v hd, h3, h4]; rfl
  have hg : bmValid d.r (pixL (boG mode s d m) d.r) = true := bpix_valid (g := boG mode s d m) d0 d3 (fun x y => bwc_pv h4 (atL_px hs x y) (atL_px hdb x y) (atL_byte hm x y).1 (atL_byte hm x y).2)
  obtain ⟨c1, c2, c3⟩ := crop_pix (r := r) hd hg A n c
  rw [e1, e2]
  refine ⟨hg, ?_, ?_, by unfold boE; rw [h1, cutB_v hd, h3, h4]; rfl⟩
  · rw [c1]; unfold boR; rw [hv, if_pos rfl, cutB_r hd]
  · rw [c2]; unfold boL; rw [hv, if_pos rfl, cutB_r hd]
    exact pix_cut hd fun x y hc => by unfold boG; rw [cutB_at hd _ _ _ hc]
theorem crop_lm (h : lmV d s m = true) (hs : pxsB s.l) (hdb : pxsB d.l) (hm : bytesB m.l) (A A' : Option Addr) (n c n' c' : Nat) :
    bmValid (lmR d s m) (lmL d s m) = true ∧ crR ⟨lmR d s m, A, n, c, lmL d s m⟩ r = lmR (cutB d r A' n' c') s m ∧ crL ⟨lmR d s m, A, n, c, lmL d s m⟩ r = lmL (cutB d r A' n' c') s m ∧ lmE (cutB d r A' n' c') s m = 0 := by
  obtain ⟨⟨h2, h1⟩, h3⟩ : (vBm d = true ∧ vBm s = true) ∧ vMk m = true := by unfold lmV at h; simpa using h
  have hd : bmValid d.r d.l = true := h2
  obtain ⟨d0, d1, d2, d3⟩ := valid_cn hd
  obtain ⟨_, _, s2, _⟩ := valid_cn (show bmValid s.r s.l = true from h1)
  have e1 : lmR d s m = d.r := by unfold lmR; rw [h]; rfl
  have e2 : lmL d s m = pixL (lmG d s m) d.r := by unfold lmL; rw [h]; rfl
  have hv : lmV (cutB d r A' n' c') s m = true := by unfold lmV; rw [h1, cutB_v hd, h3]; rfl
  have hg : bmValid d.r (pixL (lmG d s m) d.r) = true := bpix_valid (g := lmG d s m) d0 d3 (fun x y => lerp_pv (atL_pv d2 x y) (atL_pv s2 x y) (atL_byte hm x y).1 (atL_byte hm x y).2)
  obtain ⟨c1, c2, c3⟩ := crop_pix (r := r) hd hg A n c
  rw [e1, e2]
  refine ⟨hg, ?_, ?_, by unfold lmE; rw [h1, cutB_v hd, h3]; rfl⟩
  · rw [c1]; unfold lmR; rw [hv, if_pos rfl, cutB_r hd]
  · rw [c2]; unfold lmL; rw [hv, if_pos rfl, cutB_r hd]
    exact pix_cut hd fun x y hc => by unfold lmG; rw [cutB_at hd _ _ _ hc]
theorem crop_pas (h2 : bmValid d.r d.l = true) (h1 : bmValid s.r s.l = true) (A A' : Option Addr) (n c n' c' : Nat) :
    bmValid (pasR d [s]) (pasL d [s]) = true ∧ pasE d [s] = 0 ∧ crR ⟨pasR d [s], A, n, c, pasL d [s]⟩ r = pasR (cutB d r A' n' c') [s] ∧ crL ⟨pasR d [s], A, n, c, pasL d [s]⟩ r = pasL (cutB d r A' n' c') [s] ∧ pasE (cutB d r A' n' c') [s] = 0 := by
  have hd := h2
  obtain ⟨d0, d1, d2, d3⟩ := valid_cn hd
  obtain ⟨_, _, s2, _⟩ := valid_cn h1
  have hb : pasB d [s] = true := by unfold pasB; simp; exact ⟨h2, h1⟩
  have hb2 : pasB (cutB d r A' n' c') [s] = true := by unfold pasB; simp; exact ⟨cutB_v hd _ _ _, h1⟩
  obtain ⟨e1, e2, e3⟩ := pas_form hb
  obtain ⟨f1, f2, f3⟩ := pas_form hb2
  have hg : bmValid d.r (pixL (pstG [s] (atL zP d.r d.l)) d.r) = true := bpix_valid (g := pstG [s] (atL zP d.r d.l)) d0 d3 (fun x y => by
    show pvB (pstF s (atL zP d.r d.l) x y) = true
    unfold pstF
    split
    · exact atL_pv s2 x y
    · exact atL_pv d2 x y)
  obtain ⟨c1, c2, c3⟩ := crop_pix (r := r) hd hg A n c
  rw [e1, e2, e3, f1, f2, f3]
  refine ⟨hg, rfl, ?_, ?_, rfl⟩
  · rw [c1, cutB_r hd]
  · rw [c2]
    refine Eq.trans ?_ (congrArg (pixL (pstG [s] (atL zP (cutB d r A' n' c').r (cutB d r A' n' c').l))) (cutB_r hd A' n' c').symm)
    refine pix_cut hd fun x y hc => ?_
    show pstF s (atL zP d.r d.l) x y = pstF s (atL zP (cutB d r A' n' c').r (cutB d r A' n' c').l) x y
    unfold pstF
    rw [cutB_at hd _ _ _ hc]
end
end Go.Proofs.Ytnefnnhnjmmebaa
