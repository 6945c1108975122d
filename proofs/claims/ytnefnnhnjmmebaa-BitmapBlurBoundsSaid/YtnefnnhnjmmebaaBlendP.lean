/-
  Pixels in plain Lean: what the functions of packages color and blend compute. No program here.
-/
import Derived.WalkKit
import Derived.Lib.Hide
namespace Go.Proofs.Ytnefnnhnjmmebaa

/-- A pixel. -/
structure Px where
  r : Int
  g : Int
  b : Int
  a : Int

theorem Px.eq {p q : Px} (h0 : p.r = q.r) (h1 : p.g = q.g) (h2 : p.b = q.b) (h3 : p.a = q.a) : p = q := by
  cases p; cases q; simp_all

/-- All components are bytes. -/
structure Px.byte (p : Px) : Prop where
  r0 : 0 ≤ p.r
  r1 : p.r ≤ 255
  g0 : 0 ≤ p.g
  g1 : p.g ≤ 255
  b0 : 0 ≤ p.b
  b1 : p.b ≤ 255
  a0 : 0 ≤ p.a
  a1 : p.a ≤ 255

/-- A valid pixel: no component exceeds the alpha. -/
structure Px.ok (p : Px) : Prop where
  r0 : 0 ≤ p.r
  r1 : p.r ≤ p.a
  g0 : 0 ≤ p.g
  g1 : p.g ≤ p.a
  b0 : 0 ≤ p.b
  b1 : p.b ≤ p.a
  a0 : 0 ≤ p.a
  a1 : p.a ≤ 255

def clampP (p : Px) : Px := ⟨min p.r p.a, min p.g p.a, min p.b p.a, p.a⟩
theorem clamp_ok {p : Px} (h : p.byte) : (clampP p).ok := by
  obtain ⟨r0, r1, g0, g1, b0, b1, a0, a1⟩ := h
  refine ⟨?_, ?_, ?_, ?_, ?_, ?_, ?_, ?_⟩ <;> simp only [clampP] <;> omega
theorem Px.ok.byte {p : Px} (h : p.ok) : p.byte := by
  obtain ⟨r0, r1, g0, g1, b0, b1, a0, a1⟩ := h
  exact ⟨r0, by omega, g0, by omega, b0, by omega, a0, a1⟩
theorem clamp_of_ok {p : Px} (h : p.ok) : clampP p = p := by
  obtain ⟨r0, r1, g0, g1, b0, b1, a0, a1⟩ := h
  apply Px.eq <;> simp only [clampP] <;> omega

/-- n / d, rounded half up. -/
def rndP (n d : Int) : Int := (2 * n + d) / (2 * d)
/-- n / 255, rounded and limited to a byte. -/
def dn8 (n : Int) : Int := if n < 0 then 0 else if 65025 < n then 255 else (2 * n + 255) / 510
theorem dn8_bd (n : Int) : 0 ≤ dn8 n ∧ dn8 n ≤ 255 := by unfold dn8; split <;> (try split) <;> omega
theorem dn8_in {n : Int} (h0 : 0 ≤ n) (h1 : n ≤ 65025) : dn8 n = (2 * n + 255) / 510 := by unfold dn8; rw [if_neg (by omega), if_neg (by omega)]
theorem dn8_full (n : Int) (h0 : 0 ≤ n) (h1 : n ≤ 255) : dn8 (255 * n) = n := by rw [dn8_in (by omega) (by omega)]; omega
theorem dn8_mono {m n : Int} (h : m ≤ n) : dn8 m ≤ dn8 n := by unfold dn8; split <;> split <;> (try split) <;> (try split) <;> omega

/-- Products of bytes. -/
theorem mul_byte {x y : Int} (h0 : 0 ≤ x) (h1 : x ≤ 255) (h2 : 0 ≤ y) (h3 : y ≤ 255) : 0 ≤ x * y ∧ x * y ≤ 65025 ∧ x * y ≤ 255 * y ∧ x * y ≤ 255 * x := by
  have a := Int.mul_nonneg h0 h2
  have b : x * y ≤ 255 * y := Int.mul_le_mul_of_nonneg_right h1 h2
  have c : x * y ≤ x * 255 := Int.mul_le_mul_of_nonneg_left h3 h0
  omega
theorem mul_le {x y a b : Int} (h0 : 0 ≤ x) (h1 : x ≤ a) (h2 : 0 ≤ y) (h3 : y ≤ b) : 0 ≤ x * y ∧ x * y ≤ a * b := by
  have h := Int.mul_nonneg h0 h2
  have b1 : x * y ≤ a * y := Int.mul_le_mul_of_nonneg_right h1 h2
  have c : a * y ≤ a * b := Int.mul_le_mul_of_nonneg_left h3 (by omega)
  omega

def ovl (s sa d da : Int) : Int := if 2 * d ≤ da then 2 * s * d else sa * da - 2 * (da - d) * (sa - s)
/-- The term of a separable mode (1 to 9) on one channel. -/
def trm (mode s sa d da : Int) : Int :=
  if mode = 2 then s * d else
  if mode = 3 then s * da + d * sa - s * d else
  if mode = 4 then ovl s sa d da else
  if mode = 5 then min (s * da) (d * sa) else
  if mode = 6 then max (s * da) (d * sa) else
  if mode = 7 then max (s * da) (d * sa) - min (s * da) (d * sa) else
  if mode = 8 then s * da + d * sa - 2 * s * d else
  if mode = 9 then ovl d da s sa else s * da

theorem ovl_bd {s sa d da : Int} (h0 : 0 ≤ s) (h1 : s ≤ sa) (h2 : 0 ≤ d) (h3 : d ≤ da) : 0 ≤ ovl s sa d da ∧ ovl s sa d da ≤ sa * da := by
  unfold ovl
  split
  · have h4 := mul_le h0 h1 (show 0 ≤ 2 * d by omega) (show 2 * d ≤ da by omega)
    have e : 2 * s * d = s * (2 * d) := by rw [Int.mul_comm 2 s, Int.mul_assoc]
    rw [e]; exact h4
  · have h4 := mul_le (show 0 ≤ 2 * (da - d) by omega) (show 2 * (da - d) ≤ da by omega) (show 0 ≤ sa - s by omega) (show sa - s ≤ sa by omega)
    rw [Int.mul_comm da sa] at h4
    omega
theorem trm_bd {mode s sa d da : Int} (h0 : 0 ≤ s) (h1 : s ≤ sa) (h2 : 0 ≤ d) (h3 : d ≤ da) : 0 ≤ trm mode s sa d da ∧ trm mode s sa d da ≤ sa * da := by
  have p1 := mul_le h0 h1 h2 h3
  have p2 := mul_le h0 h1 (show 0 ≤ da by omega) (Int.le_refl da)
  have p3 := mul_le h2 h3 (show 0 ≤ sa by omega) (Int.le_refl sa)
  have p4 := mul_le (show 0 ≤ sa - s by omega) (Int.le_refl (sa - s)) (show 0 ≤ da - d by omega) (Int.le_refl (da - d))
  have p5 := mul_le h0 (Int.le_refl s) (show 0 ≤ da - d by omega) (Int.le_refl (da - d))
  have p6 := mul_le h2 (Int.le_refl d) (show 0 ≤ sa - s by omega) (Int.le_refl (sa - s))
  have e4 : (sa - s) * (da - d) = sa * da - sa * d - s * da + s * d := by rw [Int.sub_mul, Int.mul_sub, Int.mul_sub]; omega
  have e5 : s * (da - d) = s * da - s * d := Int.mul_sub _ _ _
  have e6 : d * (sa - s) = d * sa - d * s := Int.mul_sub _ _ _
  have c1 : d * sa = sa * d := Int.mul_comm _ _
  have c2 : d * s = s * d := Int.mul_comm _ _
  have c3 : da * sa = sa * da := Int.mul_comm _ _
  have c4 : 2 * s * d = 2 * (s * d) := Int.mul_assoc _ _ _
  have o1 := ovl_bd h0 h1 h2 h3
  have o2 := ovl_bd h2 h3 h0 h1
  unfold trm
  repeat' split
  all_goals omega

def validModeB (mode : Int) : Bool := decide (1 ≤ mode) && decide (mode ≤ 13)
def sepB (mode : Int) : Bool := decide (1 ≤ mode) && decide (mode ≤ 9)
/-- The arguments of Term are in range. -/
def inB (s sa d da : Int) : Bool := decide (0 ≤ s) && decide (s ≤ sa) && decide (sa ≤ 255) && decide (0 ≤ d) && decide (d ≤ da) && decide (da ≤ 255)
def TermP (mode s sa d da : Int) : Int := if sepB mode && inB s sa d da then trm mode s sa d da else 0

/-- One channel, separable. -/
def chanP (mode s sa d da : Int) : Int := dn8 (s * (255 - da) + d * (255 - sa) + trm mode s sa d da)
def alphaP (sa da : Int) : Int := dn8 (sa * (255 - da) + da * (255 - sa) + sa * da)
def sepBlend (mode : Int) (s d : Px) : Px := ⟨chanP mode s.r s.a d.r d.a, chanP mode s.g s.a d.g d.a, chanP mode s.b s.a d.b d.a, alphaP s.a d.a⟩

/-- A color of three whole numbers. -/
structure C3 where
  r : Int
  g : Int
  b : Int
def C3.low (c : C3) : Int := min c.r (min c.g c.b)
def C3.high (c : C3) : Int := max c.r (max c.g c.b)
def C3.sat (c : C3) : Int := c.high - c.low
def C3.lum (c : C3) : Int := 30 * c.r + 59 * c.g + 11 * c.b
def scaledP (p : Px) (n : Int) : C3 := ⟨p.r * n, p.g * n, p.b * n⟩
/-- A recipe: the color, the saturation and the luminosity that it gets, the range. -/
structure Rcp where
  c : C3
  t : Int
  l : Int
  a : Int
def recipeP (mode : Int) (s d : C3) (a : Int) : Rcp :=
  if mode = 10 then ⟨s, d.sat, d.lum, a⟩ else if mode = 11 then ⟨d, s.sat, d.lum, a⟩ else if mode = 12 then ⟨s, s.sat, d.lum, a⟩ else ⟨d, d.sat, s.lum, a⟩
def Rcp.dark (q : Rcp) : Int := q.c.lum - 100 * q.c.low
def Rcp.bright (q : Rcp) : Int := 100 * q.c.high - q.c.lum
def Rcp.level (q : Rcp) : Int := q.l * q.c.sat - q.t * q.dark
/-- The term of a component as numerator and denominator. -/
def Rcp.num (q : Rcp) (x : Int) : Int :=
  if q.c.sat = 0 then q.l else
  if q.level < 0 then q.l * (x - q.c.low) else
  if 100 * q.a * q.c.sat < 100 * q.c.sat * q.t + q.level then q.a * q.bright - (100 * q.a - q.l) * (q.c.high - x) else
  100 * (x - q.c.low) * q.t + q.level
def Rcp.den (q : Rcp) : Int :=
  if q.c.sat = 0 then 100 else
  if q.level < 0 then q.dark else
  if 100 * q.a * q.c.sat < 100 * q.c.sat * q.t + q.level then q.bright else 100 * q.c.sat
def Rcp.chan (q : Rcp) (base x : Int) : Int := (2 * (base * q.den + q.num x) + 255 * q.den) / (510 * q.den)
def baseP (s d sa da : Int) : Int := s * (255 - da) + d * (255 - sa)
def wholeBlend (mode : Int) (s d : Px) : Px :=
  let q := recipeP mode (scaledP s d.a) (scaledP d s.a) (s.a * d.a)
  ⟨q.chan (baseP s.r d.r s.a d.a) q.c.r, q.chan (baseP s.g d.g s.a d.a) q.c.g, q.chan (baseP s.b d.b s.a d.a) q.c.b, alphaP s.a d.a⟩
def blendP (mode : Int) (s d : Px) : Px :=
  if validModeB mode then (if sepB mode then sepBlend mode (clampP s) (clampP d) else wholeBlend mode (clampP s) (clampP d)) else d

/-- What holds of a recipe: its color lies in the range from 0 to a, the saturation and the luminosity too. -/
structure Rcp.fit (q : Rcp) : Prop where
  r0 : 0 ≤ q.c.r
  r1 : q.c.r ≤ q.a
  g0 : 0 ≤ q.c.g
  g1 : q.c.g ≤ q.a
  b0 : 0 ≤ q.c.b
  b1 : q.c.b ≤ q.a
  t0 : 0 ≤ q.t
  t1 : q.t ≤ q.a
  l0 : 0 ≤ q.l
  l1 : q.l ≤ 100 * q.a
end Go.Proofs.Ytnefnnhnjmmebaa
