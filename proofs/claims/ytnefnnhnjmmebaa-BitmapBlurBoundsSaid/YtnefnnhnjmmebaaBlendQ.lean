/-
  Plain laws on blending. No program here.
-/
import Derived.Test.YtnefnnhnjmmebaaRcpP
namespace Go.Proofs.Ytnefnnhnjmmebaa
set_option linter.unusedVariables false

def Z0 : Px := ⟨0, 0, 0, 0⟩
theorem clamp_zero : clampP Z0 = Z0 := by apply Px.eq <;> simp [clampP, Z0]

theorem trm_zero_r (mode s sa : Int) : trm mode s sa 0 0 = 0 := by
  unfold trm ovl
  repeat' split
  all_goals simp
theorem trm_zero_l (mode d da : Int) : trm mode 0 0 d da = 0 := by
  unfold trm ovl
  repeat' split
  all_goals simp
theorem alpha_zero_r {sa : Int} (h0 : 0 ≤ sa) (h1 : sa ≤ 255) : alphaP sa 0 = sa := by
  unfold alphaP
  rw [show sa * (255 - 0) + 0 * (255 - sa) + sa * 0 = 255 * sa by simp; omega]
  exact dn8_full sa h0 h1
theorem alpha_zero_l {da : Int} (h0 : 0 ≤ da) (h1 : da ≤ 255) : alphaP 0 da = da := by
  unfold alphaP
  rw [show 0 * (255 - da) + da * (255 - 0) + 0 * da = 255 * da by simp; omega]
  exact dn8_full da h0 h1
theorem chan_zero_r (mode : Int) {s sa : Int} (h0 : 0 ≤ s) (h1 : s ≤ 255) : chanP mode s sa 0 0 = s := by
  unfold chanP
  rw [trm_zero_r, show s * (255 - 0) + 0 * (255 - sa) + 0 = 255 * s by simp; omega]
  exact dn8_full s h0 h1
theorem chan_zero_l (mode : Int) {d da : Int} (h0 : 0 ≤ d) (h1 : d ≤ 255) : chanP mode 0 0 d da = d := by
  unfold chanP
  rw [trm_zero_l, show 0 * (255 - da) + d * (255 - 0) + 0 = 255 * d by simp; omega]
  exact dn8_full d h0 h1

def C0 : C3 := ⟨0, 0, 0⟩
theorem recipe_zero (mode a : Int) : recipeP mode C0 C0 a = ⟨C0, 0, 0, a⟩ := by
  have h1 : C0.sat = 0 := by decide
  have h2 : C0.lum = 0 := by decide
  unfold recipeP; rw [h1, h2]; repeat' split
  all_goals rfl
theorem chan_of_zero (a base x : Int) (n : Int) (hb : base = 255 * n) : (⟨C0, 0, 0, a⟩ : Rcp).chan base x = n := by
  have h1 : C0.sat = 0 := by decide
  unfold Rcp.chan Rcp.den Rcp.num
  simp only [h1, if_true]
  omega
theorem scaled_zero_r (s : Px) : scaledP s 0 = C0 := by simp [scaledP, C0]
theorem scaled_zero_l (n : Int) : scaledP Z0 n = C0 := by simp [scaledP, C0, Z0]

theorem sep_zero_r (mode : Int) {s : Px} (h : s.ok) : sepBlend mode s Z0 = s := by
  have hb := h.byte
  exact Px.eq (chan_zero_r mode hb.r0 hb.r1) (chan_zero_r mode hb.g0 hb.g1) (chan_zero_r mode hb.b0 hb.b1) (alpha_zero_r hb.a0 hb.a1)
theorem sep_zero_l (mode : Int) {d : Px} (h : d.ok) : sepBlend mode Z0 d = d := by
  have hb := h.byte
  exact Px.eq (chan_zero_l mode hb.r0 hb.r1) (chan_zero_l mode hb.g0 hb.g1) (chan_zero_l mode hb.b0 hb.b1) (alpha_zero_l hb.a0 hb.a1)
theorem whole_zero_r (mode : Int) {s : Px} (h : s.ok) : wholeBlend mode s Z0 = s := by
  have hb := h.byte
  unfold wholeBlend
  simp only [show Z0.a = 0 from rfl, scaled_zero_r, scaled_zero_l, recipe_zero]
  refine Px.eq ?_ ?_ ?_ ?_
  · exact chan_of_zero _ _ _ _ (by simp [baseP, Z0]; omega)
  · exact chan_of_zero _ _ _ _ (by simp [baseP, Z0]; omega)
  · exact chan_of_zero _ _ _ _ (by simp [baseP, Z0]; omega)
  · exact alpha_zero_r hb.a0 hb.a1
theorem whole_zero_l (mode : Int) {d : Px} (h : d.ok) : wholeBlend mode Z0 d = d := by
  have hb := h.byte
  unfold wholeBlend
  simp only [show Z0.a = 0 from rfl, scaled_zero_r, scaled_zero_l, recipe_zero]
  refine Px.eq ?_ ?_ ?_ ?_
  · exact chan_of_zero _ _ _ _ (by simp [baseP, Z0]; omega)
  · exact chan_of_zero _ _ _ _ (by simp [baseP, Z0]; omega)
  · exact chan_of_zero _ _ _ _ (by simp [baseP, Z0]; omega)
  · exact alpha_zero_l hb.a0 hb.a1
theorem blend_zero_r {mode : Int} (hm : validModeB mode = true) {s : Px} (h : s.byte) : blendP mode s Z0 = clampP s := by
  unfold blendP
  rw [if_pos hm, clamp_zero]
  split
  · exact sep_zero_r mode (clamp_ok h)
  · exact whole_zero_r mode (clamp_ok h)
theorem blend_zero_l {mode : Int} (hm : validModeB mode = true) {d : Px} (h : d.byte) : blendP mode Z0 d = clampP d := by
  unfold blendP
  rw [if_pos hm, clamp_zero]
  split
  · exact sep_zero_l mode (clamp_ok h)
  · exact whole_zero_l mode (clamp_ok h)
theorem blend_invalid {mode : Int} (hm : validModeB mode = false) (s d : Px) : blendP mode s d = d := by
  unfold blendP; rw [hm]; rfl

theorem alpha_comm (sa da : Int) : alphaP sa da = alphaP da sa := by
  unfold alphaP; rw [Int.mul_comm sa da, Int.add_comm (sa * (255 - da))]
theorem chan_comm {mode : Int} (hm : mode = 2 ∨ mode = 3 ∨ mode = 5 ∨ mode = 6 ∨ mode = 7 ∨ mode = 8) (s sa d da : Int) : chanP mode s sa d da = chanP mode d da s sa := by
  unfold chanP
  have h : trm mode s sa d da = trm mode d da s sa := by
    have c4 : 2 * s * d = 2 * d * s := by rw [Int.mul_assoc, Int.mul_comm s d, ← Int.mul_assoc]
    have c2 : s * d = d * s := Int.mul_comm _ _
    rcases hm with rfl | rfl | rfl | rfl | rfl | rfl <;> simp [trm] <;> omega
  rw [h, Int.add_comm (s * (255 - da))]
theorem chan_hard (s sa d da : Int) : chanP 9 s sa d da = chanP 4 d da s sa := by
  unfold chanP
  rw [Int.add_comm (s * (255 - da))]
  simp [trm]
theorem blend_comm {mode : Int} (hm : mode = 2 ∨ mode = 3 ∨ mode = 5 ∨ mode = 6 ∨ mode = 7 ∨ mode = 8) (s d : Px) : blendP mode s d = blendP mode d s := by
  have h1 : validModeB mode = true := by simp [validModeB]; omega
  have h2 : sepB mode = true := by simp [sepB]; omega
  unfold blendP
  rw [if_pos h1, if_pos h2, if_pos h1, if_pos h2]
  exact Px.eq (chan_comm hm _ _ _ _) (chan_comm hm _ _ _ _) (chan_comm hm _ _ _ _) (alpha_comm _ _)
theorem blend_hard (s d : Px) : blendP 9 s d = blendP 4 d s := by
  unfold blendP
  rw [if_pos (by decide), if_pos (by decide), if_pos (by decide), if_pos (by decide)]
  exact Px.eq (chan_hard _ _ _ _) (chan_hard _ _ _ _) (chan_hard _ _ _ _) (alpha_comm _ _)

/-- An opaque pixel. -/
def opq (p : Px) : Px := ⟨p.r, p.g, p.b, 255⟩
theorem opq_ok {p : Px} (h : p.byte) : (opq p).ok := ⟨h.r0, h.r1, h.g0, h.g1, h.b0, h.b1, (by decide : (0 : Int) ≤ 255), (by decide : (255 : Int) ≤ 255)⟩
def white : Px := ⟨255, 255, 255, 255⟩
def black : Px := ⟨0, 0, 0, 255⟩
theorem alpha_full : alphaP 255 255 = 255 := by decide
theorem white_ok : white.ok := ⟨by decide, by decide, by decide, by decide, by decide, by decide, by decide, by decide⟩
theorem black_ok : black.ok := ⟨by decide, by decide, by decide, by decide, by decide, by decide, by decide, by decide⟩
theorem chan_full (mode s d n : Int) (h : trm mode s 255 d 255 = 255 * n) (h0 : 0 ≤ n) (h1 : n ≤ 255) : chanP mode s 255 d 255 = n := by
  unfold chanP
  rw [h, show s * (255 - 255) + d * (255 - 255) + 255 * n = 255 * n by simp]
  exact dn8_full n h0 h1
theorem blend_sep {mode : Int} (h2 : sepB mode = true) {s d : Px} (hs : s.ok) (hd : d.ok) : blendP mode s d = sepBlend mode s d := by
  have h1 : validModeB mode = true := by simp [sepB] at h2; simp [validModeB]; omega
  unfold blendP
  rw [if_pos h1, if_pos h2, clamp_of_ok hs, clamp_of_ok hd]
theorem opaque_normal {x y : Px} (hx : x.byte) (hy : y.byte) : blendP 1 (opq x) (opq y) = opq x := by
  rw [blend_sep (by decide) (opq_ok hx) (opq_ok hy)]
  exact Px.eq (chan_full 1 _ _ _ (by simp [trm, opq]; omega) hx.r0 hx.r1) (chan_full 1 _ _ _ (by simp [trm, opq]; omega) hx.g0 hx.g1) (chan_full 1 _ _ _ (by simp [trm, opq]; omega) hx.b0 hx.b1) alpha_full
theorem opaque_white {y : Px} (hy : y.byte) : blendP 2 white (opq y) = opq y := by
  rw [blend_sep (by decide) white_ok (opq_ok hy)]
  exact Px.eq (chan_full 2 _ _ _ (by simp [trm, opq, white]) hy.r0 hy.r1) (chan_full 2 _ _ _ (by simp [trm, opq, white]) hy.g0 hy.g1) (chan_full 2 _ _ _ (by simp [trm, opq, white]) hy.b0 hy.b1) alpha_full
theorem opaque_black {y : Px} (hy : y.byte) : blendP 3 black (opq y) = opq y := by
  rw [blend_sep (by decide) black_ok (opq_ok hy)]
  exact Px.eq (chan_full 3 _ _ _ (by simp [trm, opq, black]; omega) hy.r0 hy.r1) (chan_full 3 _ _ _ (by simp [trm, opq, black]; omega) hy.g0 hy.g1) (chan_full 3 _ _ _ (by simp [trm, opq, black]; omega) hy.b0 hy.b1) alpha_full
theorem opaque_diff {y : Px} (hy : y.byte) : blendP 7 black (opq y) = opq y := by
  rw [blend_sep (by decide) black_ok (opq_ok hy)]
  obtain ⟨r0, r1, g0, g1, b0, b1, a0, a1⟩ := hy
  exact Px.eq (chan_full 7 _ _ _ (by simp [trm, opq, black]; omega) r0 r1) (chan_full 7 _ _ _ (by simp [trm, opq, black]; omega) g0 g1) (chan_full 7 _ _ _ (by simp [trm, opq, black]; omega) b0 b1) alpha_full
theorem opaque_same {y : Px} (hy : y.byte) : blendP 7 (opq y) (opq y) = black := by
  rw [blend_sep (by decide) (opq_ok hy) (opq_ok hy)]
  exact Px.eq (chan_full 7 _ _ 0 (by simp [trm, opq]) (by decide) (by decide)) (chan_full 7 _ _ 0 (by simp [trm, opq]) (by decide) (by decide)) (chan_full 7 _ _ 0 (by simp [trm, opq]) (by decide) (by decide)) alpha_full

/-- The sum under the alpha. -/
theorem alpha_sum {sa da : Int} (h0 : 0 ≤ sa) (h1 : sa ≤ 255) (h2 : 0 ≤ da) (h3 : da ≤ 255) :
    255 * sa ≤ sa * (255 - da) + da * (255 - sa) + sa * da ∧ 255 * da ≤ sa * (255 - da) + da * (255 - sa) + sa * da ∧ sa * (255 - da) + da * (255 - sa) + sa * da ≤ 65025 := by
  have a1 := Int.mul_nonneg h2 (show 0 ≤ 255 - sa by omega)
  have a2 := Int.mul_nonneg h0 (show 0 ≤ 255 - da by omega)
  have a3 := Int.mul_nonneg (show 0 ≤ 255 - sa by omega) (show 0 ≤ 255 - da by omega)
  have e1 : sa * (255 - da) = 255 * sa - sa * da := by rw [Int.mul_sub]; omega
  have e2 : da * (255 - sa) = 255 * da - sa * da := by rw [Int.mul_sub, Int.mul_comm da sa]; omega
  have e3 : (255 - sa) * (255 - da) = 65025 - 255 * sa - 255 * da + sa * da := by rw [Int.sub_mul, Int.mul_sub, Int.mul_sub]; omega
  omega
theorem alpha_ge {sa da : Int} (h0 : 0 ≤ sa) (h1 : sa ≤ 255) (h2 : 0 ≤ da) (h3 : da ≤ 255) : sa ≤ alphaP sa da ∧ da ≤ alphaP sa da ∧ alphaP sa da ≤ 255 := by
  obtain ⟨a1, a2, a3⟩ := alpha_sum h0 h1 h2 h3
  have b1 := dn8_mono a1
  have b2 := dn8_mono a2
  rw [dn8_full sa h0 h1] at b1
  rw [dn8_full da h2 h3] at b2
  exact ⟨b1, b2, (dn8_bd _).2⟩
theorem chan_le (mode : Int) {s sa d da : Int} (h0 : 0 ≤ s) (h1 : s ≤ sa) (h2 : sa ≤ 255) (h3 : 0 ≤ d) (h4 : d ≤ da) (h5 : da ≤ 255) : chanP mode s sa d da ≤ alphaP sa da := by
  have t := trm_bd (mode := mode) h0 h1 h3 h4
  have a1 := mul_le h0 h1 (show 0 ≤ 255 - da by omega) (Int.le_refl (255 - da))
  have a2 := mul_le h3 h4 (show 0 ≤ 255 - sa by omega) (Int.le_refl (255 - sa))
  exact dn8_mono (by omega)
theorem rchan_le {q : Rcp} (h : q.fit) {x base N : Int} (hx0 : q.c.low ≤ x) (hx1 : x ≤ q.c.high) (hb0 : 0 ≤ base) (hb : base + q.a ≤ N) (hN : N ≤ 65025) : 0 ≤ q.chan base x ∧ q.chan base x ≤ dn8 N := by
  obtain ⟨d0, d1, n0, n1⟩ := h.kinds hx0 hx1
  have ha : 0 ≤ q.a := by have := h.r0; have := h.r1; omega
  unfold Rcp.chan
  generalize q.num x = nm at *
  generalize q.den = dn at *
  generalize q.a = a at *
  have p1 := Int.mul_nonneg hb0 (show 0 ≤ dn by omega)
  refine ⟨Int.ediv_nonneg (by omega) (by omega), ?_⟩
  rw [dn8_in (by omega) hN]
  have a3 : base * dn + a * dn ≤ N * dn := by rw [← Int.add_mul]; exact Int.mul_le_mul_of_nonneg_right hb (by omega)
  have e1 : (2 * N + 255) * dn / (510 * dn) = (2 * N + 255) / 510 := Int.mul_ediv_mul_of_pos_left _ _ (by omega)
  rw [← e1]
  apply Int.ediv_le_ediv (by omega)
  have e2 : (2 * N + 255) * dn = 2 * (N * dn) + 255 * dn := by rw [Int.add_mul, Int.mul_assoc]
  omega

theorem recipe_fit (mode : Int) {s d : Px} (hs : s.ok) (hd : d.ok) : (recipeP mode (scaledP s d.a) (scaledP d s.a) (s.a * d.a)).fit ∧ (recipeP mode (scaledP s d.a) (scaledP d s.a) (s.a * d.a)).a = s.a * d.a := by
  obtain ⟨r0, r1, g0, g1, b0, b1, a0, a1⟩ := hs
  obtain ⟨r0', r1', g0', g1', b0', b1', a0', a1'⟩ := hd
  have e1 := mul_le r0 r1 a0' (Int.le_refl d.a)
  have e2 := mul_le g0 g1 a0' (Int.le_refl d.a)
  have e3 := mul_le b0 b1 a0' (Int.le_refl d.a)
  have e4 := mul_le r0' r1' a0 (Int.le_refl s.a)
  have e5 := mul_le g0' g1' a0 (Int.le_refl s.a)
  have e6 := mul_le b0' b1' a0 (Int.le_refl s.a)
  rw [Int.mul_comm d.a s.a] at e4 e5 e6
  have l1 := low_in (c := scaledP s d.a) (u := 0) (v := s.a * d.a) (by unfold scaledP; simp only; omega)
  have l2 := low_in (c := scaledP d s.a) (u := 0) (v := s.a * d.a) (by unfold scaledP; simp only; omega)
  have u1 := low_high (scaledP s d.a)
  have u2 := low_high (scaledP d s.a)
  have c1 : 0 ≤ (scaledP s d.a).sat ∧ (scaledP s d.a).sat ≤ s.a * d.a := by unfold C3.sat; omega
  have c2 : 0 ≤ (scaledP d s.a).sat ∧ (scaledP d s.a).sat ≤ s.a * d.a := by unfold C3.sat; omega
  have c3 : 0 ≤ (scaledP s d.a).lum ∧ (scaledP s d.a).lum ≤ 100 * (s.a * d.a) := by unfold C3.lum scaledP; simp only; omega
  have c4 : 0 ≤ (scaledP d s.a).lum ∧ (scaledP d s.a).lum ≤ 100 * (s.a * d.a) := by unfold C3.lum scaledP; simp only; omega
  unfold recipeP
  repeat' split
  all_goals
    refine ⟨⟨?_, ?_, ?_, ?_, ?_, ?_, ?_, ?_, ?_, ?_⟩, rfl⟩
    all_goals (first | (exact c1.1) | (exact c1.2) | (exact c2.1) | (exact c2.2) | (exact c3.1) | (exact c3.2) | (exact c4.1) | (exact c4.2) | (simp only [scaledP]; omega))

/-- The blend of two pixels by a valid mode: a valid pixel, no less opaque than both. -/
theorem blend_ok {mode : Int} (hm : validModeB mode = true) {s d : Px} (hs : s.byte) (hd : d.byte) : (blendP mode s d).ok ∧ (blendP mode s d).a = alphaP s.a d.a ∧ s.a ≤ (blendP mode s d).a ∧ d.a ≤ (blendP mode s d).a := by
  have hx := clamp_ok hs
  have hy := clamp_ok hd
  have ha := alpha_ge hs.a0 hs.a1 hd.a0 hd.a1
  have hA : (blendP mode s d).a = alphaP s.a d.a := by
    unfold blendP; rw [if_pos hm]; split <;> rfl
  rw [hA]
  refine ⟨?_, rfl, ha.1, ha.2.1⟩
  unfold blendP
  rw [if_pos hm]
  have e1 : (clampP s).a = s.a := rfl
  have e2 : (clampP d).a = d.a := rfl
  split
  · refine ⟨(dn8_bd _).1, chan_le mode hx.r0 hx.r1 hx.a1 hy.r0 hy.r1 hy.a1, (dn8_bd _).1, chan_le mode hx.g0 hx.g1 hx.a1 hy.g0 hy.g1 hy.a1, (dn8_bd _).1, chan_le mode hx.b0 hx.b1 hx.a1 hy.b0 hy.b1 hy.a1, (dn8_bd _).1, (dn8_bd _).2⟩
  · obtain ⟨hf, hqa⟩ := recipe_fit mode hx hy
    have hlh := low_high (recipeP mode (scaledP (clampP s) (clampP d).a) (scaledP (clampP d) (clampP s).a) ((clampP s).a * (clampP d).a)).c
    have hsum := (alpha_sum hx.a0 hx.a1 hy.a0 hy.a1).2.2
    have hb : ∀ x y : Int, 0 ≤ x → x ≤ (clampP s).a → 0 ≤ y → y ≤ (clampP d).a → 0 ≤ baseP x y (clampP s).a (clampP d).a ∧ baseP x y (clampP s).a (clampP d).a + (clampP s).a * (clampP d).a ≤ (clampP s).a * (255 - (clampP d).a) + (clampP d).a * (255 - (clampP s).a) + (clampP s).a * (clampP d).a := fun x y h0 h1 h2 h3 => by
      have b1 := mul_le h0 h1 (show 0 ≤ 255 - (clampP d).a by have := hy.a1; omega) (Int.le_refl _)
      have b2 := mul_le h2 h3 (show 0 ≤ 255 - (clampP s).a by have := hx.a1; omega) (Int.le_refl _)
      unfold baseP; omega
    have k1 := hb _ _ hx.r0 hx.r1 hy.r0 hy.r1
    have k2 := hb _ _ hx.g0 hx.g1 hy.g0 hy.g1
    have k3 := hb _ _ hx.b0 hx.b1 hy.b0 hy.b1
    have c1 := rchan_le hf hlh.1 hlh.2.2.2.1 k1.1 (by rw [hqa]; exact k1.2) hsum
    have c2 := rchan_le hf hlh.2.1 hlh.2.2.2.2.1 k2.1 (by rw [hqa]; exact k2.2) hsum
    have c3 := rchan_le hf hlh.2.2.1 hlh.2.2.2.2.2 k3.1 (by rw [hqa]; exact k3.2) hsum
    exact ⟨c1.1, c1.2, c2.1, c2.2, c3.1, c3.2, (dn8_bd _).1, (dn8_bd _).2⟩
theorem term_range (mode : Int) {x y : Px} (hx : x.ok) (hy : y.ok) : 0 ≤ TermP mode x.r x.a y.r y.a ∧ TermP mode x.r x.a y.r y.a ≤ x.a * y.a := by
  have := mul_le hx.a0 (Int.le_refl x.a) hy.a0 (Int.le_refl y.a)
  unfold TermP
  split
  · exact trm_bd hx.r0 hx.r1 hy.r0 hy.r1
  · omega
theorem term_invalid {mode : Int} (hm : sepB mode = false) (s sa d da : Int) : TermP mode s sa d da = 0 := by
  unfold TermP; rw [hm]; rfl

/-- The weighted terms of a recipe add up to its luminosity. -/
theorem sum_num (q : Rcp) : 30 * q.num q.c.r + 59 * q.num q.c.g + 11 * q.num q.c.b = q.l * q.den := by
  have eL : q.level = q.l * q.c.sat - q.t * q.dark := rfl
  have eD : q.dark = 30 * q.c.r + 59 * q.c.g + 11 * q.c.b - 100 * q.c.low := rfl
  have eB : q.bright = 100 * q.c.high - (30 * q.c.r + 59 * q.c.g + 11 * q.c.b) := rfl
  unfold Rcp.num Rcp.den
  generalize q.c.low = lo at *
  generalize q.c.high = hi at *
  generalize q.c.sat = m at *
  generalize q.dark = dk at *
  generalize q.bright = br at *
  generalize q.level = lv at *
  split
  · omega
  · split
    · subst eD; grind
    · split
      · subst eB; grind
      · subst eL eD; grind

def lumaP (p : Px) : Int := 30 * p.r + 59 * p.g + 11 * p.b
theorem chan_div {q : Rcp} (hd : 1 ≤ q.den) (x : Int) : 510 * (q.chan 0 x * q.den) ≤ 2 * q.num x + 255 * q.den ∧ 2 * q.num x + 255 * q.den < 510 * (q.chan 0 x * q.den) + 510 * q.den := by
  unfold Rcp.chan
  rw [Int.zero_mul, Int.zero_add]
  generalize q.num x = nm at *
  generalize q.den = dn at *
  have h1 := Int.mul_ediv_self_le (x := 2 * nm + 255 * dn) (k := 510 * dn) (by omega)
  have h2 := Int.lt_mul_ediv_self_add (x := 2 * nm + 255 * dn) (k := 510 * dn) (by omega)
  generalize (2 * nm + 255 * dn) / (510 * dn) = z at *
  have e : 510 * dn * z = 510 * (z * dn) := by rw [Int.mul_assoc, Int.mul_comm dn z]
  omega
theorem luma_near {q : Rcp} (h : q.fit) {L : Int} (hl : q.l = 255 * L) : lumaP ⟨q.chan 0 q.c.r, q.chan 0 q.c.g, q.chan 0 q.c.b, 255⟩ - L ≤ 50 ∧ L - lumaP ⟨q.chan 0 q.c.r, q.chan 0 q.c.g, q.chan 0 q.c.b, 255⟩ ≤ 50 := by
  have hlh := low_high q.c
  have hd := (h.kinds hlh.1 hlh.2.2.2.1).1
  have s := sum_num q
  have c1 := chan_div hd q.c.r
  have c2 := chan_div hd q.c.g
  have c3 := chan_div hd q.c.b
  unfold lumaP
  simp only
  generalize q.chan 0 q.c.r = pr at *
  generalize q.chan 0 q.c.g = pg at *
  generalize q.chan 0 q.c.b = pb at *
  generalize q.num q.c.r = nr at *
  generalize q.num q.c.g = ng at *
  generalize q.num q.c.b = nb at *
  generalize q.den = dn at *
  rw [hl] at s
  have e1 : (30 * pr + 59 * pg + 11 * pb) * dn = 30 * (pr * dn) + 59 * (pg * dn) + 11 * (pb * dn) := by grind
  have e2 : 255 * L * dn = 255 * (L * dn) := Int.mul_assoc _ _ _
  generalize 30 * pr + 59 * pg + 11 * pb = P at *
  have k1 : P * dn ≤ (L + 50) * dn := by rw [Int.add_mul]; omega
  have k2 : (L - 50) * dn ≤ P * dn := by rw [Int.sub_mul]; omega
  have j1 := Int.le_of_mul_le_mul_right k1 (by omega)
  have j2 := Int.le_of_mul_le_mul_right k2 (by omega)
  omega

/-- An opaque blend by a mode that is not separable. -/
theorem whole_opaque {mode : Int} (h1 : validModeB mode = true) (h2 : sepB mode = false) {x y : Px} (hx : x.byte) (hy : y.byte) {q : Rcp} (hq : recipeP mode (scaledP x 255) (scaledP y 255) 65025 = q) :
    blendP mode (opq x) (opq y) = ⟨q.chan 0 q.c.r, q.chan 0 q.c.g, q.chan 0 q.c.b, 255⟩ ∧ q.fit := by
  have hf := (recipe_fit mode (opq_ok hx) (opq_ok hy)).1
  have e1 : scaledP (opq x) (opq y).a = scaledP x 255 := rfl
  have e2 : scaledP (opq y) (opq x).a = scaledP y 255 := rfl
  have e3 : (opq x).a * (opq y).a = 65025 := rfl
  rw [e1, e2, e3, hq] at hf
  refine ⟨?_, hf⟩
  unfold blendP
  rw [if_pos h1, h2, clamp_of_ok (opq_ok hx), clamp_of_ok (opq_ok hy), if_neg (by simp)]
  unfold wholeBlend
  simp only [e1, e2, e3, hq]
  have eb : ∀ u v : Int, baseP u v (opq x).a (opq y).a = 0 := fun u v => by
    show u * (255 - 255) + v * (255 - 255) = 0
    simp
  rw [eb, eb, eb]
  exact Px.eq rfl rfl rfl alpha_full
theorem lum_scaled (p : Px) : (scaledP p 255).lum = 255 * lumaP p := by
  unfold C3.lum scaledP lumaP; simp only; omega
theorem blend_luma {mode : Int} (hm : mode = 10 ∨ mode = 11 ∨ mode = 12 ∨ mode = 13) {x y : Px} (hx : x.byte) (hy : y.byte) :
    (blendP mode (opq x) (opq y)).a = 255 ∧ (∀ L, L = lumaP (if mode = 13 then x else y) → lumaP (blendP mode (opq x) (opq y)) - L ≤ 50 ∧ L - lumaP (blendP mode (opq x) (opq y)) ≤ 50) := by
  have h1 : validModeB mode = true := by simp [validModeB]; omega
  have h2 : sepB mode = false := by simp [sepB]; omega
  obtain ⟨e, hf⟩ := whole_opaque h1 h2 hx hy rfl
  rw [e]
  refine ⟨rfl, fun L hL => ?_⟩
  refine luma_near hf ?_
  subst hL
  rcases hm with rfl | rfl | rfl | rfl
  · exact lum_scaled y
  · exact lum_scaled y
  · exact lum_scaled y
  · exact lum_scaled x

/-- A recipe that changes nothing. -/
theorem chan_same {q : Rcp} (h : q.fit) (ht : q.t = q.c.sat) (hl : q.l = q.c.lum) {x n : Int} (hx : x = q.c.r ∨ x = q.c.g ∨ x = q.c.b) (hn : x = 255 * n) : q.chan 0 x = n := by
  obtain ⟨k0, k1, k2, k3, k4, k5, k6, k7, k8⟩ := h.lin
  have eL : q.level = q.l * q.c.sat - q.t * q.dark := rfl
  have hlo := low_high q.c
  unfold Rcp.chan Rcp.num Rcp.den
  have elum : q.c.lum = 30 * q.c.r + 59 * q.c.g + 11 * q.c.b := rfl
  rw [ht] at eL
  rw [hl] at eL
  by_cases hm : q.c.sat = 0
  · simp only [hm, if_true]
    have : q.l = 100 * x := by rw [hl]; omega
    rw [this]
    omega
  · have e1 : q.level = 100 * (q.c.sat * q.c.low) := by
      rw [eL, k7]; grind
    have p0 := Int.mul_nonneg (show 0 ≤ q.c.sat by omega) k0
    have p1 : 100 * q.c.sat * q.t = 100 * (q.c.sat * q.c.sat) := by rw [ht, Int.mul_assoc]
    have p2 : 100 * q.a * q.c.sat = 100 * (q.a * q.c.sat) := Int.mul_assoc _ _ _
    have p3 : q.c.sat * q.c.sat + q.c.sat * q.c.low ≤ q.a * q.c.sat := by
      rw [← Int.mul_add, Int.mul_comm q.a]
      exact Int.mul_le_mul_of_nonneg_left (by omega) (by omega)
    rw [if_neg hm, if_neg hm, if_neg (by omega), if_neg (by omega), if_neg (by omega), if_neg (by omega)]
    rw [ht, e1, Int.zero_mul, Int.zero_add]
    generalize q.c.sat = m at *
    have e2 : 2 * (100 * (x - q.c.low) * m + 100 * (m * q.c.low)) + 255 * (100 * m) = (2 * n + 1) * (25500 * m) := by rw [hn]; grind
    have e3 : 510 * (100 * m) = 2 * (25500 * m) := by omega
    rw [e2, e3, Int.mul_ediv_mul_of_pos_left _ _ (by omega)]
    omega
theorem blend_self {mode : Int} (hm : mode = 10 ∨ mode = 11 ∨ mode = 12 ∨ mode = 13) {x : Px} (hx : x.byte) : blendP mode (opq x) (opq x) = opq x := by
  have h1 : validModeB mode = true := by simp [validModeB]; omega
  have h2 : sepB mode = false := by simp [sepB]; omega
  have hr : recipeP mode (scaledP x 255) (scaledP x 255) 65025 = ⟨scaledP x 255, (scaledP x 255).sat, (scaledP x 255).lum, 65025⟩ := by
    unfold recipeP; repeat' split
    all_goals rfl
  obtain ⟨e, hf⟩ := whole_opaque h1 h2 hx hx hr
  rw [e]
  have er : (scaledP x 255).r = 255 * x.r := by simp [scaledP]; omega
  have eg : (scaledP x 255).g = 255 * x.g := by simp [scaledP]; omega
  have eb : (scaledP x 255).b = 255 * x.b := by simp [scaledP]; omega
  exact Px.eq (chan_same hf rfl rfl (.inl rfl) er) (chan_same hf rfl rfl (.inr (.inl rfl)) eg) (chan_same hf rfl rfl (.inr (.inr rfl)) eb) rfl
theorem blend_reverse {x y : Px} (hx : x.byte) (hy : y.byte) : blendP 12 (opq x) (opq y) = blendP 13 (opq y) (opq x) := by
  obtain ⟨e, hf⟩ := whole_opaque (mode := 12) (by decide) (by decide) hx hy rfl
  obtain ⟨e', hf'⟩ := whole_opaque (mode := 13) (by decide) (by decide) hy hx rfl
  rw [e, e']
  rfl
/-- A recipe whose result is gray. -/
theorem chan_gray {q : Rcp} (h : q.fit) (hg : q.c.sat = 0 ∨ q.t = 0) (x y : Int) : q.chan 0 x = q.chan 0 y := by
  obtain ⟨k0, k1, k2, k3, k4, k5, k6, k7, k8⟩ := h.lin
  have eL : q.level = q.l * q.c.sat - q.t * q.dark := rfl
  unfold Rcp.chan Rcp.num Rcp.den
  by_cases hm : q.c.sat = 0
  · simp only [hm, if_true]
  · have ht := hg.resolve_left hm
    rw [ht] at eL ⊢
    rw [Int.zero_mul, Int.sub_zero] at eL
    have p0 := Int.mul_nonneg h.l0 (show 0 ≤ q.c.sat by omega)
    have p1 : q.l * q.c.sat ≤ 100 * q.a * q.c.sat := Int.mul_le_mul_of_nonneg_right h.l1 (by omega)
    rw [if_neg hm, if_neg hm, if_neg hm, if_neg (by omega), if_neg (by omega), if_neg (by omega), if_neg (by simp; omega), if_neg (by simp; omega), if_neg (by simp; omega)]
    simp
def grayP (g : Int) : Px := ⟨g, g, g, 255⟩
theorem sat_gray (g : Int) : (scaledP (grayP g) 255).sat = 0 := by unfold C3.sat C3.high C3.low scaledP grayP; simp only; omega
theorem blend_gray {g : Int} (h0 : 0 ≤ g) (h1 : g ≤ 255) {y : Px} (hy : y.byte) :
    (∀ mode, mode = 10 ∨ mode = 11 ∨ mode = 12 → (blendP mode (grayP g) (opq y)).r = (blendP mode (grayP g) (opq y)).g ∧ (blendP mode (grayP g) (opq y)).r = (blendP mode (grayP g) (opq y)).b) ∧
    ((blendP 13 (opq y) (grayP g)).r = (blendP 13 (opq y) (grayP g)).g ∧ (blendP 13 (opq y) (grayP g)).r = (blendP 13 (opq y) (grayP g)).b) := by
  have hgb : (grayP g).byte := ⟨h0, h1, h0, h1, h0, h1, (by decide : (0 : Int) ≤ 255), (by decide : (255 : Int) ≤ 255)⟩
  have hgo : opq (grayP g) = grayP g := rfl
  constructor
  · intro mode hm
    have h1 : validModeB mode = true := by simp [validModeB]; omega
    have h2 : sepB mode = false := by simp [sepB]; omega
    obtain ⟨e, hf⟩ := whole_opaque h1 h2 hgb hy rfl
    rw [hgo] at e
    rw [e]
    have hz : (recipeP mode (scaledP (grayP g) 255) (scaledP y 255) 65025).c.sat = 0 ∨ (recipeP mode (scaledP (grayP g) 255) (scaledP y 255) 65025).t = 0 := by
      rcases hm with rfl | rfl | rfl
      · exact .inl (sat_gray g)
      · exact .inr (sat_gray g)
      · exact .inl (sat_gray g)
    exact ⟨chan_gray hf hz _ _, chan_gray hf hz _ _⟩
  · obtain ⟨e, hf⟩ := whole_opaque (mode := 13) (by decide) (by decide) hy hgb rfl
    rw [hgo] at e
    rw [e]
    exact ⟨chan_gray hf (.inl (sat_gray g)) _ _, chan_gray hf (.inl (sat_gray g)) _ _⟩
end Go.Proofs.Ytnefnnhnjmmebaa
