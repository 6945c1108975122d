/-
  Laws on the box of the differing pixels, crops and pasting: plain Lean.
-/
import Derived.Test.YtnefnnhnjmmebaaGreatBmPaste
import Derived.Test.YtnefnnhnjmmebaaGreatBmCrop
import Derived.Test.YtnefnnhnjmmebaaGreatBm4
namespace Go.Proofs.YtnefnnhnjmmebaaGreat
open Go.RowKit
set_option linter.unusedSimpArgs false
set_option linter.unusedVariables false

theorem diff_comm (r : Rc) (l : List Px) (r' : Rc) (l' : List Px) : diffR r' l' r l = diffR r l r' l' := by
  rw [← diff_two r l r' l', ← diff_two r' l' r l, union_comm]
theorem diff_cn (r : Rc) (l : List Px) (r' : Rc) (l' : List Px) : canonR (diffR r l r' l') = diffR r l r' l' := box_cn _ canon_zero
theorem diff_at {r r' : Rc} {l l' : List Px} (h : bmValid r l = true) (h' : bmValid r' l' = true) {x y : Int} (hc : containsB r x y = true) (hd : containsB (diffR r l r' l') x y = false) : atL zP r l x y = atL zP r' l' x y := by
  have e : nrR r l = r ∧ nrL r l = l ∧ nrR r' l' = r' ∧ nrL r' l' = l' := by unfold nrR nrL; rw [h, h']; exact ⟨rfl, rfl, rfl, rfl⟩
  unfold diffR at hd
  rw [e.1, e.2.1, e.2.2.1, e.2.2.2] at hd
  cases hf : dfP r l r' l' x y with
  | true =>
    have := box_contains hf (ptsR r ++ ptsR r') (fun p hp => by
      rcases List.mem_append.1 hp with hp | hp
      · exact pts_in (valid_cn h).1 p hp
      · exact pts_in (valid_cn h').1 p hp) (List.mem_append_left _ (pts_mem hc))
    rw [this] at hd; cases hd
  | false =>
    unfold dfP at hf
    exact (eqP_iff _ _).1 (by simpa using hf)
theorem zP_byte : zP.byte := by constructor <;> decide
theorem atL_px {r : Rc} {l : List Px} (h : pxsB l) (x y : Int) : (atL zP r l x y).byte := by
  unfold atL
  split
  · rw [List.getD_eq_getElem?_getD]
    cases he : l[(pixR r x y).toNat]? with
    | none => exact zP_byte
    | some v => exact h v (List.mem_of_getElem? he)
  · exact zP_byte
theorem atL_pv {r : Rc} {l : List Px} (h : l.all pvB = true) (x y : Int) : pvB (atL zP r l x y) = true := by
  unfold atL
  split
  · rw [List.getD_eq_getElem?_getD]
    cases he : l[(pixR r x y).toNat]? with
    | none => rfl
    | some v => exact List.all_eq_true.1 h v (List.mem_of_getElem? he)
  · rfl
theorem bm_of {r : Rc} {l : List Px} (h0 : canonR r = r) (h1 : (l.length : Int) = areaR r) (h2 : areaR r ≤ 65536) (h3 : l.all pvB = true) : bmValid r l = true := by
  unfold bmValid; rw [h0, eqB_refl, decide_eq_true h1, decide_eq_true h2, h3]; rfl
theorem barea_le {p q : Rc} (h : emptyB p = false → emptyB q = false ∧ q.x0 ≤ p.x0 ∧ p.x1 ≤ q.x1 ∧ q.y0 ≤ p.y0 ∧ p.y1 ≤ q.y1) : areaR p ≤ areaR q := by
  cases ep : emptyB p with
  | true =>
    have h0 : areaR p = 0 := by unfold areaR; rw [canon_of_empty ep]; rfl
    have hb := canon_bd q
    have : 0 ≤ areaR q := by unfold areaR; exact Int.mul_nonneg (by omega) (by omega)
    omega
  | false =>
    obtain ⟨eq, h1, h2, h3, h4⟩ := h ep
    have hp' := (emptyB_iff p).1 ep
    unfold areaR
    rw [canon_of_full ep, canon_of_full eq]
    exact Int.mul_le_mul (by omega) (by omega) (by omega) (by omega)
theorem barea_inter (a b : Rc) : areaR (interR a b) ≤ areaR a := barea_le fun h => by
  obtain ⟨h1, h2, h3⟩ := inter_full h
  rw [h3]; dsimp only
  exact ⟨h1, by omega, by omega, by omega, by omega⟩
/-- A list of values of a canonical rectangle, all of them valid pixels, is a bitmap. -/
theorem bpix_valid {r : Rc} {g : Int → Int → Px} (hc : canonR r = r) (ha : areaR r ≤ 65536) (hg : ∀ x y, pvB (g x y) = true) : bmValid r (pixL g r) = true :=
  bm_of hc (by have := pix_len g r; rw [hc] at this; exact this) ha (List.all_eq_true.2 fun p hp => by
    obtain ⟨x, y, _, _, _, _, rfl⟩ := pix_mem hp
    exact hg x y)
theorem bpix_bytes {g : Int → Int → Px} {r : Rc} (h : ∀ x y, (g x y).byte) : pxsB (pixL g r) := fun p hp => by
  obtain ⟨x, y, _, _, _, _, rfl⟩ := pix_mem hp
  exact h x y
theorem cr_form {b : Bm} (h : bmValid b.r b.l = true) (r : Rc) : crR b r = interR b.r r ∧ crL b r = pixL (atL zP b.r b.l) (interR b.r r) ∧ crE b = 0 := by
  unfold crR crL crE; rw [h]; exact ⟨rfl, rfl, rfl⟩
theorem cr_valid {b : Bm} (h : bmValid b.r b.l = true) (r : Rc) : bmValid (crR b r) (crL b r) = true := by
  obtain ⟨h1, h2, _⟩ := cr_form h r
  rw [h1, h2]
  obtain ⟨v0, v1, v2, v3⟩ := valid_cn h
  exact bpix_valid (inter_cn _ _) (Int.le_trans (barea_inter _ _) v3) (fun x y => atL_pv v2 x y)
theorem cr_bytes {b : Bm} (hb : pxsB b.l) (r : Rc) : pxsB (crL b r) := by
  unfold crL
  split
  · exact bpix_bytes fun x y => atL_px hb x y
  · intro p hp; simp at hp
theorem cr_len (b : Bm) (r : Rc) : (crL b r).length ≤ 67108864 := by
  unfold crL
  split
  · have h3 := pix_len (atL zP b.r b.l) (interR b.r r)
    rw [inter_cn] at h3
    have := (area_bd (interR b.r r)).2
    omega
  · simp
theorem cr_at {b : Bm} (h : bmValid b.r b.l = true) (r : Rc) {x y : Int} (hc : containsB (interR b.r r) x y = true) : atL zP (crR b r) (crL b r) x y = atL zP b.r b.l x y := by
  obtain ⟨h1, h2, _⟩ := cr_form h r
  rw [h1, h2, atL_pix, if_pos hc]
theorem pas_form {s : Bm} {l : List Bm} (h : pasB s l = true) : pasR s l = s.r ∧ pasL s l = pixL (pstG l (atL zP s.r s.l)) s.r ∧ pasE s l = 0 := by
  unfold pasR pasL pasE; rw [h]; exact ⟨rfl, rfl, rfl⟩
theorem pas_len (s : Bm) (l : List Bm) : (pasL s l).length ≤ 67108864 := by
  unfold pasL
  split
  · next h =>
    have hv : bmValid s.r s.l = true := by unfold pasB vBm at h; simp at h; exact h.1
    have h3 := pix_len (pstG l (atL zP s.r s.l)) s.r
    rw [(valid_cn hv).1] at h3
    have := (area_bd s.r).2
    omega
  · simp
/-- The part of t where s differs, pasted onto s, gives t. -/
theorem paste_back {s t p : Bm} (hs : bmValid s.r s.l = true) (ht : bmValid t.r t.l = true) (hr : s.r = t.r) (hp : p.r = crR t (diffR s.r s.l t.r t.l) ∧ p.l = crL t (diffR s.r s.l t.r t.l)) : pixL (pstG [p] (atL zP s.r s.l)) s.r = t.l := by
  obtain ⟨v0, v1, v2, v3⟩ := valid_cn ht
  obtain ⟨s0, _, _, _⟩ := valid_cn hs
  have e := pix_at zP v0 v1
  rw [← e, ← hr]
  refine pix_ext fun x y a0 a1 a2 a3 => ?_
  have hc := (contains_iff s0 x y).2 ⟨a0, a1, a2, a3⟩
  have hct : containsB t.r x y = true := by rw [← hr]; exact hc
  show pstF p (atL zP s.r s.l) x y = _
  unfold pstF
  rw [hp.1, hp.2]
  obtain ⟨f1, _, _⟩ := cr_form ht (diffR s.r s.l t.r t.l)
  cases hd : containsB (diffR s.r s.l t.r t.l) x y with
  | true =>
    have hin : containsB (interR t.r (diffR s.r s.l t.r t.l)) x y = true := by rw [contains_inter, hct, hd]; rfl
    rw [show containsB (crR t (diffR s.r s.l t.r t.l)) x y = true by rw [f1]; exact hin, if_pos rfl, cr_at ht _ hin, hr]
  | false =>
    have hin : containsB (interR t.r (diffR s.r s.l t.r t.l)) x y = false := by rw [contains_inter, hct, hd]; rfl
    rw [show containsB (crR t (diffR s.r s.l t.r t.l)) x y = false by rw [f1]; exact hin]
    rw [diff_at hs ht hc hd, hr]; rfl
end Go.Proofs.YtnefnnhnjmmebaaGreat
