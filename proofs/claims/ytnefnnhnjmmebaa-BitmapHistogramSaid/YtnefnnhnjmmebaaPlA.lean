/-
  Texts put together: RectP, BlendP, MadeP, BmP, Grid, RcpP, BlendQ, CompP.
-/
import Derived.WalkKit
import Derived.Lib.Hide
namespace Go.Proofs.Ytnefnnhnjmmebaa

/-- A rectangle. -/
structure Rc where
  x0 : Int
  y0 : Int
  x1 : Int
  y1 : Int

theorem Rc.eq {p q : Rc} (h0 : p.x0 = q.x0) (h1 : p.y0 = q.y0) (h2 : p.x1 = q.x1) (h3 : p.y1 = q.y1) : p = q := by
  cases p; cases q; simp_all

def mayB (n : Int) : Bool := decide (-4096 ≤ n ∧ n ≤ 4096)
def validB (r : Rc) : Bool := mayB r.x0 && mayB r.y0 && mayB r.x1 && mayB r.y1
def emptyB (r : Rc) : Bool := !validB r || decide (r.x1 ≤ r.x0) || decide (r.y1 ≤ r.y0)
def canonR (r : Rc) : Rc := if emptyB r then ⟨0, 0, 0, 0⟩ else r
def areaR (r : Rc) : Int := ((canonR r).x1 - (canonR r).x0) * ((canonR r).y1 - (canonR r).y0)
def containsB (r : Rc) (x y : Int) : Bool := !emptyB r && decide (r.x0 ≤ x) && decide (x < r.x1) && decide (r.y0 ≤ y) && decide (y < r.y1)
def pixR (r : Rc) (x y : Int) : Int := if containsB r x y then (y - r.y0) * (r.x1 - r.x0) + x - r.x0 else -1
def interR (a b : Rc) : Rc := canonR ⟨max (canonR a).x0 (canonR b).x0, max (canonR a).y0 (canonR b).y0, min (canonR a).x1 (canonR b).x1, min (canonR a).y1 (canonR b).y1⟩
def eqB (p q : Rc) : Bool := p.x0 == q.x0 && p.y0 == q.y0 && p.x1 == q.x1 && p.y1 == q.y1
def withinB (a b : Rc) : Bool := eqB (interR a b) (canonR a)
def unionR (a b : Rc) : Rc := if emptyB a then canonR b else if emptyB b then a else ⟨min a.x0 b.x0, min a.y0 b.y0, max a.x1 b.x1, max a.y1 b.y1⟩
def farN (n : Int) : Int := min (max n (-16384)) 16384
def outsetR (r : Rc) (n : Int) : Rc := if emptyB r then ⟨0, 0, 0, 0⟩ else canonR ⟨max (r.x0 - farN n) (-4096), max (r.y0 - farN n) (-4096), min (r.x1 + farN n) 4096, min (r.y1 + farN n) 4096⟩

theorem mayB_true {n : Int} (h : mayB n = true) : -4096 ≤ n ∧ n ≤ 4096 := by simpa [mayB] using h
theorem mayB_of {n : Int} (h0 : -4096 ≤ n) (h1 : n ≤ 4096) : mayB n = true := by simp [mayB, h0, h1]
theorem emptyB_false {r : Rc} (h : emptyB r = false) : -4096 ≤ r.x0 ∧ r.x0 < r.x1 ∧ r.x1 ≤ 4096 ∧ -4096 ≤ r.y0 ∧ r.y0 < r.y1 ∧ r.y1 ≤ 4096 := by
  simp [emptyB, validB] at h
  have h0 := mayB_true h.1.1.1.1.1
  have h1 := mayB_true h.1.1.1.1.2
  have h2 := mayB_true h.1.1.1.2
  have h3 := mayB_true h.1.1.2
  omega
theorem emptyB_false_of {r : Rc} (h0 : -4096 ≤ r.x0) (h1 : r.x0 < r.x1) (h2 : r.x1 ≤ 4096) (h3 : -4096 ≤ r.y0) (h4 : r.y0 < r.y1) (h5 : r.y1 ≤ 4096) : emptyB r = false := by
  simp [emptyB, validB, mayB_of (n := r.x0) (by omega) (by omega), mayB_of (n := r.y0) (by omega) (by omega), mayB_of (n := r.x1) (by omega) (by omega), mayB_of (n := r.y1) (by omega) (by omega)]
  omega
theorem emptyB_true_of {r : Rc} (h : ¬ (-4096 ≤ r.x0 ∧ r.x0 < r.x1 ∧ r.x1 ≤ 4096 ∧ -4096 ≤ r.y0 ∧ r.y0 < r.y1 ∧ r.y1 ≤ 4096)) : emptyB r = true := by
  cases he : emptyB r with
  | true => rfl
  | false => exact absurd (emptyB_false he) h
theorem emptyB_iff (r : Rc) : emptyB r = false ↔ (-4096 ≤ r.x0 ∧ r.x0 < r.x1 ∧ r.x1 ≤ 4096 ∧ -4096 ≤ r.y0 ∧ r.y0 < r.y1 ∧ r.y1 ≤ 4096) :=
  ⟨emptyB_false, fun ⟨a, b, c, d, e, f⟩ => emptyB_false_of a b c d e f⟩
theorem canon_bd (r : Rc) : (-4096 ≤ (canonR r).x0 ∧ (canonR r).x1 ≤ 4096 ∧ (canonR r).x0 ≤ (canonR r).x1) ∧ (-4096 ≤ (canonR r).y0 ∧ (canonR r).y1 ≤ 4096 ∧ (canonR r).y0 ≤ (canonR r).y1) := by
  unfold canonR
  split
  · simp
  · rename_i h
    have := emptyB_false (r := r) (by simpa using h)
    omega
theorem mul_bd {a b : Int} (ha : 0 ≤ a) (hb : 0 ≤ b) (ha' : a ≤ 8192) (hb' : b ≤ 8192) : 0 ≤ a * b ∧ a * b ≤ 67108864 := by
  have h1 := Int.mul_nonneg ha hb
  have h2 : a * b ≤ 8192 * b := Int.mul_le_mul_of_nonneg_right ha' hb
  omega
theorem contains_true {r : Rc} {x y : Int} (h : containsB r x y = true) : emptyB r = false ∧ r.x0 ≤ x ∧ x < r.x1 ∧ r.y0 ≤ y ∧ y < r.y1 := by
  simp [containsB] at h
  exact ⟨h.1.1.1.1, h.1.1.1.2, h.1.1.2, h.1.2, h.2⟩
theorem canon_of_empty {r : Rc} (h : emptyB r = true) : canonR r = ⟨0, 0, 0, 0⟩ := by simp [canonR, h]
theorem canon_of_full {r : Rc} (h : emptyB r = false) : canonR r = r := by simp [canonR, h]
theorem contains_canon (r : Rc) (x y : Int) : containsB r x y = (decide ((canonR r).x0 ≤ x) && decide (x < (canonR r).x1) && decide ((canonR r).y0 ≤ y) && decide (y < (canonR r).y1)) := by
  cases he : emptyB r with
  | true =>
    rw [canon_of_empty he]
    simp only [containsB, he]
    simp
    try omega
  | false =>
    rw [canon_of_full he]
    simp only [containsB, he]
    try simp
def fullP (r : Rc) : Prop := -4096 ≤ r.x0 ∧ r.x0 < r.x1 ∧ r.x1 ≤ 4096 ∧ -4096 ≤ r.y0 ∧ r.y0 < r.y1 ∧ r.y1 ≤ 4096
theorem canon_eq {p q : Rc} (h : fullP p ↔ fullP q) (h2 : fullP p → p = q) : canonR p = canonR q := by
  cases hp : emptyB p with
  | true =>
    have hq : emptyB q = true := by
      cases hq : emptyB q with
      | true => rfl
      | false => have := (emptyB_iff p).2 (h.2 ((emptyB_iff q).1 hq)); rw [hp] at this; cases this
    rw [canon_of_empty hp, canon_of_empty hq]
  | false => rw [h2 ((emptyB_iff p).1 hp)]
def clampI (n lo hi : Int) : Int := max lo (min hi n)
def routsetR (r : Rc) (n : Int) : Rc := if emptyB r then ⟨0, 0, 0, 0⟩ else canonR ⟨clampI (r.x0 - clampI n (-12288) 12288) (-4096) 4096, clampI (r.y0 - clampI n (-12288) 12288) (-4096) 4096, clampI (r.x1 + clampI n (-12288) 12288) (-4096) 4096, clampI (r.y1 + clampI n (-12288) 12288) (-4096) 4096⟩
theorem routset_eq (r : Rc) (n : Int) : routsetR r n = outsetR r n := by
  unfold routsetR outsetR
  cases he : emptyB r with
  | true => rfl
  | false =>
    obtain ⟨k1, k2, k3, k4, k5, k6⟩ := emptyB_false he
    simp only [Bool.false_eq_true, if_false]
    refine canon_eq ?_ ?_
    · unfold fullP clampI farN; simp only; omega
    · unfold fullP clampI farN; simp only; intro h; exact Rc.eq (by simp only; omega) (by simp only; omega) (by simp only; omega) (by simp only; omega)
def rinterR (a b : Rc) : Rc := if emptyB a || emptyB b then ⟨0, 0, 0, 0⟩ else canonR ⟨max a.x0 b.x0, max a.y0 b.y0, min a.x1 b.x1, min a.y1 b.y1⟩
theorem zero_empty : emptyB ⟨0, 0, 0, 0⟩ = true := by decide
theorem rinter_eq (a b : Rc) : rinterR a b = interR a b := by
  unfold rinterR interR
  cases ha : emptyB a with
  | true =>
    rw [canon_of_empty ha]
    simp only [Bool.true_or, if_true]
    have hbd := canon_bd b
    rw [canon_of_empty (emptyB_true_of _)]
    simp only
    omega
  | false =>
    cases hb : emptyB b with
    | true =>
      rw [canon_of_empty hb, canon_of_full ha]
      simp only [Bool.or_true, if_true]
      have hbd := emptyB_false ha
      rw [canon_of_empty (emptyB_true_of _)]
      simp only
      omega
    | false => rw [canon_of_full ha, canon_of_full hb]; rfl
def rwithinB (a b : Rc) : Bool := if emptyB a then true else !emptyB b && decide (b.x0 ≤ a.x0) && decide (a.x1 ≤ b.x1) && decide (b.y0 ≤ a.y0) && decide (a.y1 ≤ b.y1)
theorem eqB_iff (p q : Rc) : eqB p q = true ↔ p = q := by
  cases p; cases q; simp [eqB, and_assoc]
theorem eqB_refl (p : Rc) : eqB p p = true := (eqB_iff p p).2 rfl
theorem rwithin_eq (a b : Rc) : rwithinB a b = withinB a b := by
  unfold withinB rwithinB
  rw [← rinter_eq]
  unfold rinterR
  cases ha : emptyB a with
  | true => rw [canon_of_empty ha]; simp [eqB]
  | false =>
    have h1 := emptyB_false ha
    cases hb : emptyB b with
    | true =>
      rw [canon_of_full ha]
      simp only [Bool.false_eq_true, if_false, Bool.not_true, Bool.false_and, Bool.or_true, if_true]
      symm
      rw [Bool.eq_false_iff]
      intro h
      have := (eqB_iff _ _).1 h
      rw [← this] at h1
      simp at h1
    | false =>
      have h2 := emptyB_false hb
      rw [canon_of_full ha]
      simp only [Bool.false_eq_true, if_false, Bool.not_false, Bool.true_and, Bool.or_false]
      rw [Bool.eq_iff_iff, eqB_iff]
      constructor
      · intro h
        simp at h
        have e : (⟨max a.x0 b.x0, max a.y0 b.y0, min a.x1 b.x1, min a.y1 b.y1⟩ : Rc) = a := Rc.eq (by simp only; omega) (by simp only; omega) (by simp only; omega) (by simp only; omega)
        rw [e, canon_of_full ha]
      · intro h
        cases he : emptyB ⟨max a.x0 b.x0, max a.y0 b.y0, min a.x1 b.x1, min a.y1 b.y1⟩ with
        | true => rw [canon_of_empty he] at h; rw [← h] at h1; simp at h1
        | false =>
          rw [canon_of_full he] at h
          have e0 := congrArg Rc.x0 h
          have e1 := congrArg Rc.y0 h
          have e2 := congrArg Rc.x1 h
          have e3 := congrArg Rc.y1 h
          simp only at e0 e1 e2 e3
          simp
          omega
end Go.Proofs.Ytnefnnhnjmmebaa

namespace Go.Proofs.Ytnefnnhnjmmebaa

/-- A pixel. -/
structure Px where
  r : Int
  g : Int
  b : Int
  a : Int

theorem Px.eq {p q : Px} (h0 : p.r = q.r) (h1 : p.g = q.g) (h2 : p.b = q.b) (h3 : p.a = q.a) : p = q := by
  cases p; cases q; simp_all

/-- All components are bytes. -/
structure Px.byte (p : Px) : Prop where
  r0 : 0 ≤ p.r
  r1 : p.r ≤ 255
  g0 : 0 ≤ p.g
  g1 : p.g ≤ 255
  b0 : 0 ≤ p.b
  b1 : p.b ≤ 255
  a0 : 0 ≤ p.a
  a1 : p.a ≤ 255

/-- A valid pixel: no component exceeds the alpha. -/
structure Px.ok (p : Px) : Prop where
  r0 : 0 ≤ p.r
  r1 : p.r ≤ p.a
  g0 : 0 ≤ p.g
  g1 : p.g ≤ p.a
  b0 : 0 ≤ p.b
  b1 : p.b ≤ p.a
  a0 : 0 ≤ p.a
  a1 : p.a ≤ 255

def clampP (p : Px) : Px := ⟨min p.r p.a, min p.g p.a, min p.b p.a, p.a⟩
theorem clamp_ok {p : Px} (h : p.byte) : (clampP p).ok := by
  obtain ⟨r0, r1, g0, g1, b0, b1, a0, a1⟩ := h
  refine ⟨?_, ?_, ?_, ?_, ?_, ?_, ?_, ?_⟩ <;> simp only [clampP] <;> omega
theorem Px.ok.byte {p : Px} (h : p.ok) : p.byte := by
  obtain ⟨r0, r1, g0, g1, b0, b1, a0, a1⟩ := h
  exact ⟨r0, by omega, g0, by omega, b0, by omega, a0, a1⟩
theorem clamp_of_ok {p : Px} (h : p.ok) : clampP p = p := by
  obtain ⟨r0, r1, g0, g1, b0, b1, a0, a1⟩ := h
  apply Px.eq <;> simp only [clampP] <;> omega

/-- n / d, rounded half up. -/
def rndP (n d : Int) : Int := (2 * n + d) / (2 * d)
/-- n / 255, rounded and limited to a byte. -/
def dn8 (n : Int) : Int := if n < 0 then 0 else if 65025 < n then 255 else (2 * n + 255) / 510
theorem dn8_bd (n : Int) : 0 ≤ dn8 n ∧ dn8 n ≤ 255 := by unfold dn8; split <;> (try split) <;> omega
theorem dn8_in {n : Int} (h0 : 0 ≤ n) (h1 : n ≤ 65025) : dn8 n = (2 * n + 255) / 510 := by unfold dn8; rw [if_neg (by omega), if_neg (by omega)]
theorem dn8_full (n : Int) (h0 : 0 ≤ n) (h1 : n ≤ 255) : dn8 (255 * n) = n := by rw [dn8_in (by omega) (by omega)]; omega
theorem dn8_mono {m n : Int} (h : m ≤ n) : dn8 m ≤ dn8 n := by unfold dn8; split <;> split <;> (try split) <;> (try split) <;> omega

/-- Products of bytes. -/
theorem mul_byte {x y : Int} (h0 : 0 ≤ x) (h1 : x ≤ 255) (h2 : 0 ≤ y) (h3 : y ≤ 255) : 0 ≤ x * y ∧ x * y ≤ 65025 ∧ x * y ≤ 255 * y ∧ x * y ≤ 255 * x := by
  have a := Int.mul_nonneg h0 h2
  have b : x * y ≤ 255 * y := Int.mul_le_mul_of_nonneg_right h1 h2
  have c : x * y ≤ x * 255 := Int.mul_le_mul_of_nonneg_left h3 h0
  omega
theorem mul_le {x y a b : Int} (h0 : 0 ≤ x) (h1 : x ≤ a) (h2 : 0 ≤ y) (h3 : y ≤ b) : 0 ≤ x * y ∧ x * y ≤ a * b := by
  have h := Int.mul_nonneg h0 h2
  have b1 : x * y ≤ a * y := Int.mul_le_mul_of_nonneg_right h1 h2
  have c : a * y ≤ a * b := Int.mul_le_mul_of_nonneg_left h3 (by omega)
  omega

def ovl (s sa d da : Int) : Int := if 2 * d ≤ da then 2 * s * d else sa * da - 2 * (da - d) * (sa - s)
/-- The term of a separable mode (1 to 9) on one channel. -/
def trm (mode s sa d da : Int) : Int :=
  if mode = 2 then s * d else
  if mode = 3 then s * da + d * sa - s * d else
  if mode = 4 then ovl s sa d da else
  if mode = 5 then min (s * da) (d * sa) else
  if mode = 6 then max (s * da) (d * sa) else
  if mode = 7 then max (s * da) (d * sa) - min (s * da) (d * sa) else
  if mode = 8 then s * da + d * sa - 2 * s * d else
  if mode = 9 then ovl d da s sa else s * da

theorem ovl_bd {s sa d da : Int} (h0 : 0 ≤ s) (h1 : s ≤ sa) (h2 : 0 ≤ d) (h3 : d ≤ da) : 0 ≤ ovl s sa d da ∧ ovl s sa d da ≤ sa * da := by
  unfold ovl
  split
  · have h4 := mul_le h0 h1 (show 0 ≤ 2 * d by omega) (show 2 * d ≤ da by omega)
    have e : 2 * s * d = s * (2 * d) := by rw [Int.mul_comm 2 s, Int.mul_assoc]
    rw [e]; exact h4
  · have h4 := mul_le (show 0 ≤ 2 * (da - d) by omega) (show 2 * (da - d) ≤ da by omega) (show 0 ≤ sa - s by omega) (show sa - s ≤ sa by omega)
    rw [Int.mul_comm da sa] at h4
    omega
theorem trm_bd {mode s sa d da : Int} (h0 : 0 ≤ s) (h1 : s ≤ sa) (h2 : 0 ≤ d) (h3 : d ≤ da) : 0 ≤ trm mode s sa d da ∧ trm mode s sa d da ≤ sa * da := by
  have p1 := mul_le h0 h1 h2 h3
  have p2 := mul_le h0 h1 (show 0 ≤ da by omega) (Int.le_refl da)
  have p3 := mul_le h2 h3 (show 0 ≤ sa by omega) (Int.le_refl sa)
  have p4 := mul_le (show 0 ≤ sa - s by omega) (Int.le_refl (sa - s)) (show 0 ≤ da - d by omega) (Int.le_refl (da - d))
  have p5 := mul_le h0 (Int.le_refl s) (show 0 ≤ da - d by omega) (Int.le_refl (da - d))
  have p6 := mul_le h2 (Int.le_refl d) (show 0 ≤ sa - s by omega) (Int.le_refl (sa - s))
  have e4 : (sa - s) * (da - d) = sa * da - sa * d - s * da + s * d := by rw [Int.sub_mul, Int.mul_sub, Int.mul_sub]; omega
  have e5 : s * (da - d) = s * da - s * d := Int.mul_sub _ _ _
  have e6 : d * (sa - s) = d * sa - d * s := Int.mul_sub _ _ _
  have c1 : d * sa = sa * d := Int.mul_comm _ _
  have c2 : d * s = s * d := Int.mul_comm _ _
  have c3 : da * sa = sa * da := Int.mul_comm _ _
  have c4 : 2 * s * d = 2 * (s * d) := Int.mul_assoc _ _ _
  have o1 := ovl_bd h0 h1 h2 h3
  have o2 := ovl_bd h2 h3 h0 h1
  unfold trm
  repeat' split
  all_goals omega

def validModeB (mode : Int) : Bool := decide (1 ≤ mode) && decide (mode ≤ 13)
def sepB (mode : Int) : Bool := decide (1 ≤ mode) && decide (mode ≤ 9)
/-- The arguments of Term are in range. -/
def inB (s sa d da : Int) : Bool := decide (0 ≤ s) && decide (s ≤ sa) && decide (sa ≤ 255) && decide (0 ≤ d) && decide (d ≤ da) && decide (da ≤ 255)
def TermP (mode s sa d da : Int) : Int := if sepB mode && inB s sa d da then trm mode s sa d da else 0

/-- One channel, separable. -/
def chanP (mode s sa d da : Int) : Int := dn8 (s * (255 - da) + d * (255 - sa) + trm mode s sa d da)
def alphaP (sa da : Int) : Int := dn8 (sa * (255 - da) + da * (255 - sa) + sa * da)
def sepBlend (mode : Int) (s d : Px) : Px := ⟨chanP mode s.r s.a d.r d.a, chanP mode s.g s.a d.g d.a, chanP mode s.b s.a d.b d.a, alphaP s.a d.a⟩

/-- A color of three whole numbers. -/
structure C3 where
  r : Int
  g : Int
  b : Int
def C3.low (c : C3) : Int := min c.r (min c.g c.b)
def C3.high (c : C3) : Int := max c.r (max c.g c.b)
def C3.sat (c : C3) : Int := c.high - c.low
def C3.lum (c : C3) : Int := 30 * c.r + 59 * c.g + 11 * c.b
def scaledP (p : Px) (n : Int) : C3 := ⟨p.r * n, p.g * n, p.b * n⟩
/-- A recipe: the color, the saturation and the luminosity that it gets, the range. -/
structure Rcp where
  c : C3
  t : Int
  l : Int
  a : Int
def recipeP (mode : Int) (s d : C3) (a : Int) : Rcp :=
  if mode = 10 then ⟨s, d.sat, d.lum, a⟩ else if mode = 11 then ⟨d, s.sat, d.lum, a⟩ else if mode = 12 then ⟨s, s.sat, d.lum, a⟩ else ⟨d, d.sat, s.lum, a⟩
def Rcp.dark (q : Rcp) : Int := q.c.lum - 100 * q.c.low
def Rcp.bright (q : Rcp) : Int := 100 * q.c.high - q.c.lum
def Rcp.level (q : Rcp) : Int := q.l * q.c.sat - q.t * q.dark
/-- The term of a component as numerator and denominator. -/
def Rcp.num (q : Rcp) (x : Int) : Int :=
  if q.c.sat = 0 then q.l else
  if q.level < 0 then q.l * (x - q.c.low) else
  if 100 * q.a * q.c.sat < 100 * q.c.sat * q.t + q.level then q.a * q.bright - (100 * q.a - q.l) * (q.c.high - x) else
  100 * (x - q.c.low) * q.t + q.level
def Rcp.den (q : Rcp) : Int :=
  if q.c.sat = 0 then 100 else
  if q.level < 0 then q.dark else
  if 100 * q.a * q.c.sat < 100 * q.c.sat * q.t + q.level then q.bright else 100 * q.c.sat
def Rcp.chan (q : Rcp) (base x : Int) : Int := (2 * (base * q.den + q.num x) + 255 * q.den) / (510 * q.den)
def baseP (s d sa da : Int) : Int := s * (255 - da) + d * (255 - sa)
def wholeBlend (mode : Int) (s d : Px) : Px :=
  let q := recipeP mode (scaledP s d.a) (scaledP d s.a) (s.a * d.a)
  ⟨q.chan (baseP s.r d.r s.a d.a) q.c.r, q.chan (baseP s.g d.g s.a d.a) q.c.g, q.chan (baseP s.b d.b s.a d.a) q.c.b, alphaP s.a d.a⟩
def blendP (mode : Int) (s d : Px) : Px :=
  if validModeB mode then (if sepB mode then sepBlend mode (clampP s) (clampP d) else wholeBlend mode (clampP s) (clampP d)) else d

/-- What holds of a recipe: its color lies in the range from 0 to a, the saturation and the luminosity too. -/
structure Rcp.fit (q : Rcp) : Prop where
  r0 : 0 ≤ q.c.r
  r1 : q.c.r ≤ q.a
  g0 : 0 ≤ q.c.g
  g1 : q.c.g ≤ q.a
  b0 : 0 ≤ q.c.b
  b1 : q.c.b ≤ q.a
  t0 : 0 ≤ q.t
  t1 : q.t ≤ q.a
  l0 : 0 ≤ q.l
  l1 : q.l ≤ 100 * q.a
end Go.Proofs.Ytnefnnhnjmmebaa

namespace Go.Proofs.Ytnefnnhnjmmebaa

section
variable {α : Type}
def rowL (g : Int → Int → α) (x0 y : Int) (n : Nat) : List α := (List.range n).map fun (i : Nat) => g (x0 + (i : Int)) y
def madeL (g : Int → Int → α) (x0 y0 : Int) (wd ht : Nat) : List α := (List.range ht).flatMap fun (j : Nat) => rowL g x0 (y0 + (j : Int)) wd
theorem rowL_succ (g : Int → Int → α) (x0 y : Int) (n : Nat) : rowL g x0 y (n + 1) = rowL g x0 y n ++ [g (x0 + (n : Int)) y] := by
  unfold rowL; rw [List.range_succ, List.map_append]; rfl
theorem rowL_len (g : Int → Int → α) (x0 y : Int) (n : Nat) : (rowL g x0 y n).length = n := by unfold rowL; simp
theorem madeL_succ (g : Int → Int → α) (x0 y0 : Int) (wd ht : Nat) : madeL g x0 y0 wd (ht + 1) = madeL g x0 y0 wd ht ++ rowL g x0 (y0 + (ht : Int)) wd := by
  unfold madeL; rw [List.range_succ, List.flatMap_append]; simp
theorem madeL_len (g : Int → Int → α) (x0 y0 : Int) (wd ht : Nat) : (madeL g x0 y0 wd ht).length = ht * wd := by
  induction ht with
  | zero => simp [madeL]
  | succ n ih => rw [madeL_succ, List.length_append, ih, rowL_len, Nat.succ_mul]
/-- The values of a rectangle's pixels, row by row. -/
def pixL (g : Int → Int → α) (r : Rc) : List α := madeL g r.x0 r.y0 (r.x1 - r.x0).toNat (r.y1 - r.y0).toNat
end
end Go.Proofs.Ytnefnnhnjmmebaa

namespace Go.Proofs.Ytnefnnhnjmmebaa

def pvB (p : Px) : Bool := decide (p.r ≤ p.a ∧ p.g ≤ p.a ∧ p.b ≤ p.a)
/-- The index of the first pixel that is not valid, -1 if there is none. -/
def idxV (l : List Px) : Int := match l.findIdx? (fun p => !pvB p) with | some i => (i : Int) | none => -1
def bmValid (r : Rc) (l : List Px) : Bool := eqB (canonR r) r && decide (areaR r ≤ 65536) && decide ((l.length : Int) = areaR r) && l.all pvB
theorem idxV_any (l : List Px) : decide (0 ≤ idxV l) = !(l.all pvB) := by
  unfold idxV
  cases h : l.findIdx? (fun p => !pvB p) with
  | none =>
    rw [List.findIdx?_eq_none_iff] at h
    have : l.all pvB = true := List.all_eq_true.2 (fun p hp => by have := h p hp; simpa using this)
    rw [this]; rfl
  | some i =>
    obtain ⟨hi, hp, _⟩ := List.findIdx?_eq_some_iff_getElem.1 h
    have : l.all pvB = false := List.all_eq_false.2 ⟨l[i], List.getElem_mem hi, by simpa using hp⟩
    rw [this]
    simp
theorem pvB_clamp (p : Px) (h : p.byte) : pvB (clampP p) = true := by
  have := clamp_ok h
  unfold pvB; exact decide_eq_true ⟨this.r1, this.g1, this.b1⟩
theorem pix_len {α : Type} (g : Int → Int → α) (r : Rc) : ((pixL g (canonR r)).length : Int) = areaR r := by
  have hb := canon_bd r
  unfold pixL areaR
  rw [madeL_len, Int.natCast_mul, Int.toNat_of_nonneg (by omega), Int.toNat_of_nonneg (by omega), Int.mul_comm]
theorem pix_mem {α : Type} {g : Int → Int → α} {r : Rc} {p : α} (h : p ∈ pixL g r) : ∃ x y, r.x0 ≤ x ∧ x < r.x1 ∧ r.y0 ≤ y ∧ y < r.y1 ∧ p = g x y := by
  unfold pixL madeL at h
  obtain ⟨j, hj, h2⟩ := List.mem_flatMap.1 h
  unfold rowL at h2
  obtain ⟨i, hi, rfl⟩ := List.mem_map.1 h2
  have hj' := List.mem_range.1 hj
  have hi' := List.mem_range.1 hi
  exact ⟨_, _, by omega, by omega, by omega, by omega, rfl⟩
theorem canon_canon (r : Rc) : canonR (canonR r) = canonR r := by
  unfold canonR
  by_cases h : emptyB r = true
  · rw [if_pos h]; rfl
  · rw [if_neg h, if_neg h]
theorem area_canon (r : Rc) : areaR (canonR r) = areaR r := by unfold areaR; rw [canon_canon]
/-- All pixels of one color. -/
theorem pix_const {α : Type} (p : α) (r : Rc) : pixL (fun _ _ => p) (canonR r) = List.replicate (areaR r).toNat p := by
  have h := pix_len (fun _ _ => p) r
  apply List.eq_replicate_iff.2
  refine ⟨by omega, fun q hq => ?_⟩
  obtain ⟨_, _, _, _, _, _, e⟩ := pix_mem hq
  exact e
end Go.Proofs.Ytnefnnhnjmmebaa

namespace Go.Proofs.Ytnefnnhnjmmebaa

section
variable {α : Type}
theorem row_get (g : Int → Int → α) (x0 y : Int) {n i : Nat} (hi : i < n) : (rowL g x0 y n)[i]? = some (g (x0 + i) y) := by
  unfold rowL
  rw [List.getElem?_map, List.getElem?_range hi]; rfl
theorem made_get (g : Int → Int → α) (x0 y0 : Int) {wd i : Nat} (hi : i < wd) : ∀ {ht j : Nat}, j < ht → (madeL g x0 y0 wd ht)[j * wd + i]? = some (g (x0 + i) (y0 + j))
  | 0, j, h => absurd h (Nat.not_lt_zero _)
  | ht + 1, j, h => by
    rw [madeL_succ]
    by_cases hj : j < ht
    · have h1 : j * wd + i < (madeL g x0 y0 wd ht).length := by
        rw [madeL_len]
        have : (j + 1) * wd ≤ ht * wd := Nat.mul_le_mul_right _ hj
        rw [Nat.succ_mul] at this; omega
      rw [List.getElem?_append_left h1]
      exact made_get g x0 y0 hi hj
    · obtain rfl : j = ht := by omega
      rw [List.getElem?_append_right (by rw [madeL_len]; omega), madeL_len, Nat.add_sub_cancel_left]
      exact row_get g x0 _ hi
/-- The value at a pixel: that of the list inside the rectangle, z outside. -/
def atL (z : α) (r : Rc) (l : List α) (x y : Int) : α := if containsB r x y then l.getD (pixR r x y).toNat z else z
theorem contains_iff {r : Rc} (hc : canonR r = r) (x y : Int) : containsB r x y = true ↔ r.x0 ≤ x ∧ x < r.x1 ∧ r.y0 ≤ y ∧ y < r.y1 := by
  rw [contains_canon, hc]; simp [and_assoc]
theorem pix_form {r : Rc} {x y : Int} (h : containsB r x y = true) :
    pixR r x y = (((y - r.y0).toNat * (r.x1 - r.x0).toNat + (x - r.x0).toNat : Nat) : Int) := by
  obtain ⟨he, h0, h1, h2, h3⟩ := contains_true h
  unfold pixR
  rw [if_pos h, Int.natCast_add, Int.natCast_mul, Int.toNat_of_nonneg (by omega), Int.toNat_of_nonneg (by omega), Int.toNat_of_nonneg (by omega)]
  omega
theorem pix_lt {r : Rc} {x y : Int} (h : containsB r x y = true) {n : Nat} (hn : (n : Int) = areaR r) : 0 ≤ pixR r x y ∧ (pixR r x y).toNat < n := by
  obtain ⟨he, h0, h1, h2, h3⟩ := contains_true h
  have hp := pix_form h
  refine ⟨by rw [hp]; exact Int.natCast_nonneg _, ?_⟩
  rw [hp, Int.toNat_natCast]
  have ha : areaR r = (((r.y1 - r.y0).toNat * (r.x1 - r.x0).toNat : Nat) : Int) := by
    unfold areaR
    rw [canon_of_full he, Int.natCast_mul, Int.toNat_of_nonneg (by omega), Int.toNat_of_nonneg (by omega), Int.mul_comm]
  have hn' : n = (r.y1 - r.y0).toNat * (r.x1 - r.x0).toNat := by omega
  rw [hn']
  have hm : ((y - r.y0).toNat + 1) * (r.x1 - r.x0).toNat ≤ (r.y1 - r.y0).toNat * (r.x1 - r.x0).toNat := Nat.mul_le_mul_right _ (by omega)
  rw [Nat.succ_mul] at hm
  omega
theorem pixL_get (g : Int → Int → α) {r : Rc} {x y : Int} (h : containsB r x y = true) : (pixL g r)[(pixR r x y).toNat]? = some (g x y) := by
  obtain ⟨he, h0, h1, h2, h3⟩ := contains_true h
  rw [pix_form h, Int.toNat_natCast]
  unfold pixL
  rw [made_get g r.x0 r.y0 (by omega) (by omega)]
  congr 2 <;> omega
/-- The value at a pixel of the list of a function's values. -/
theorem atL_pix (z : α) (g : Int → Int → α) (r : Rc) (x y : Int) : atL z r (pixL g r) x y = if containsB r x y then g x y else z := by
  unfold atL
  split
  · next h => rw [List.getD_eq_getElem?_getD, pixL_get g h]; rfl
  · rfl
theorem pix_ext {g g' : Int → Int → α} {r : Rc} (h : ∀ x y, r.x0 ≤ x → x < r.x1 → r.y0 ≤ y → y < r.y1 → g x y = g' x y) : pixL g r = pixL g' r := by
  unfold pixL madeL
  rw [List.flatMap_def, List.flatMap_def]
  refine congrArg List.flatten (List.map_congr_left fun j hj => ?_)
  unfold rowL
  refine List.map_congr_left fun i hi => ?_
  have hj' := List.mem_range.1 hj
  have hi' := List.mem_range.1 hi
  exact h _ _ (by omega) (by omega) (by omega) (by omega)
/-- A list is the list of its values at the pixels. -/
theorem pix_at (z : α) {r : Rc} {l : List α} (hc : canonR r = r) (hl : (l.length : Int) = areaR r) : pixL (atL z r l) r = l := by
  have hb := canon_bd r
  rw [hc] at hb
  have hlen : (pixL (atL z r l) r).length = l.length := by
    have := pix_len (atL z r l) r
    rw [hc] at this; omega
  apply List.ext_getElem? 
  intro k
  by_cases hk : k < l.length
  · have hwd : 0 < (r.x1 - r.x0).toNat := by
      rcases Nat.eq_zero_or_pos (r.x1 - r.x0).toNat with h0 | h0
      · have : areaR r = 0 := by unfold areaR; rw [hc, show r.x1 - r.x0 = 0 by omega, Int.zero_mul]
        omega
      · exact h0
    have ha : l.length = (r.y1 - r.y0).toNat * (r.x1 - r.x0).toNat := by
      have : areaR r = (((r.y1 - r.y0).toNat * (r.x1 - r.x0).toNat : Nat) : Int) := by
        unfold areaR
        rw [hc, Int.natCast_mul, Int.toNat_of_nonneg (by omega), Int.toNat_of_nonneg (by omega), Int.mul_comm]
      omega
    have hd := Nat.div_add_mod k (r.x1 - r.x0).toNat
    have hm := Nat.mod_lt k hwd
    have hj : k / (r.x1 - r.x0).toNat < (r.y1 - r.y0).toNat := by
      rw [Nat.div_lt_iff_lt_mul hwd, ← ha]; exact hk
    generalize k / (r.x1 - r.x0).toNat = jj at hd hj
    generalize k % (r.x1 - r.x0).toNat = ii at hd hm
    have hcon : containsB r (r.x0 + (ii : Int)) (r.y0 + (jj : Int)) = true := (contains_iff hc _ _).2 ⟨by omega, by omega, by omega, by omega⟩
    have hp : (pixR r (r.x0 + (ii : Int)) (r.y0 + (jj : Int))).toNat = k := by
      rw [pix_form hcon, Int.toNat_natCast, show (r.y0 + (jj : Int) - r.y0).toNat = jj by omega,
        show (r.x0 + (ii : Int) - r.x0).toNat = ii by omega, Nat.mul_comm]
      exact hd
    have hg := pixL_get (atL z r l) hcon
    rw [hp] at hg
    rw [hg]
    unfold atL
    rw [if_pos hcon, hp, List.getD_eq_getElem?_getD, List.getElem?_eq_getElem hk]; rfl
  · rw [List.getElem?_eq_none (by omega), List.getElem?_eq_none (by omega)]
end
end Go.Proofs.Ytnefnnhnjmmebaa

namespace Go.Proofs.Ytnefnnhnjmmebaa

theorem low_high (c : C3) : c.low ≤ c.r ∧ c.low ≤ c.g ∧ c.low ≤ c.b ∧ c.r ≤ c.high ∧ c.g ≤ c.high ∧ c.b ≤ c.high := by
  unfold C3.low C3.high; omega
theorem low_in {c : C3} {u v : Int} (h : u ≤ c.r ∧ c.r ≤ v ∧ u ≤ c.g ∧ c.g ≤ v ∧ u ≤ c.b ∧ c.b ≤ v) : u ≤ c.low ∧ c.high ≤ v := by
  unfold C3.low C3.high; omega

/-- The linear facts on a recipe. -/
theorem Rcp.fit.lin {q : Rcp} (h : q.fit) : 0 ≤ q.c.low ∧ q.c.high ≤ q.a ∧ q.c.low ≤ q.c.high ∧ q.c.sat = q.c.high - q.c.low ∧ 0 ≤ q.dark ∧ 0 ≤ q.bright ∧ q.dark + q.bright = 100 * q.c.sat ∧
    q.dark = q.c.lum - 100 * q.c.low ∧ q.bright = 100 * q.c.high - q.c.lum := by
  obtain ⟨r0, r1, g0, g1, b0, b1, t0, t1, l0, l1⟩ := h
  have e1 := low_high q.c
  have e2 := low_in (c := q.c) (u := 0) (v := q.a) (by omega)
  unfold Rcp.dark Rcp.bright C3.sat C3.lum
  omega

/-- The four kinds of a recipe. -/
theorem Rcp.fit.kinds {q : Rcp} (h : q.fit) {x : Int} (hx0 : q.c.low ≤ x) (hx1 : x ≤ q.c.high) : 1 ≤ q.den ∧ q.den ≤ 100 * q.a + 100 ∧ 0 ≤ q.num x ∧ q.num x ≤ q.a * q.den := by
  obtain ⟨k0, k1, k2, k3, k4, k5, k6, _, _⟩ := h.lin
  obtain ⟨r0, r1, g0, g1, b0, b1, t0, t1, l0, l1⟩ := h
  unfold Rcp.num Rcp.den
  have eL : q.level = q.l * q.c.sat - q.t * q.dark := rfl
  generalize q.c.low = lo at *
  generalize q.c.high = hi at *
  generalize q.c.sat = m at *
  generalize q.dark = dk at *
  generalize q.bright = br at *
  generalize q.level = lv at *
  generalize q.t = t at *
  generalize q.l = l at *
  generalize q.a = a at *
  by_cases hm : m = 0
  · simp only [hm, if_true]
    omega
  · simp only [hm, if_false]
    by_cases hl : lv < 0
    · simp only [hl, if_true]
      have p1 := Int.mul_nonneg l0 (show 0 ≤ m by omega)
      have p2 : t * dk ≤ a * dk := Int.mul_le_mul_of_nonneg_right t1 k4
      have p3 : l * (x - lo) ≤ l * m := Int.mul_le_mul_of_nonneg_left (by omega) l0
      have p4 := Int.mul_nonneg l0 (show 0 ≤ x - lo by omega)
      have hd : 0 < dk := by
        rcases Int.lt_or_le 0 dk with e | e
        · exact e
        · have : dk = 0 := by omega
          subst this; simp at eL; omega
      refine ⟨by omega, by omega, p4, by omega⟩
    · simp only [hl, if_false]
      by_cases hb : 100 * a * m < 100 * m * t + lv
      · simp only [hb, if_true]
        have p1 : 100 * m * t = 100 * (m * t) := Int.mul_assoc _ _ _
        have p2 : 100 * a * m = 100 * (a * m) := Int.mul_assoc _ _ _
        have p3 : (100 * a - l) * m = 100 * (a * m) - l * m := by rw [Int.sub_mul, Int.mul_assoc]
        have p4 : t * dk + t * br = 100 * (m * t) := by rw [← Int.mul_add, k6, Int.mul_comm t, Int.mul_assoc]
        have p5 : t * br ≤ a * br := Int.mul_le_mul_of_nonneg_right t1 k5
        have p6 : (100 * a - l) * (hi - x) ≤ (100 * a - l) * m := Int.mul_le_mul_of_nonneg_left (by omega) (by omega)
        have p7 := Int.mul_nonneg (show 0 ≤ 100 * a - l by omega) (show 0 ≤ hi - x by omega)
        have p8 := Int.mul_nonneg (show 0 ≤ 100 * a - l by omega) (show 0 ≤ m by omega)
        have hd : 0 < br := by
          rcases Int.lt_or_le 0 br with e | e
          · exact e
          · have : br = 0 := by omega
            subst this; simp at p4; omega
        refine ⟨by omega, by omega, by omega, by omega⟩
      · simp only [hb, if_false]
        have p1 : 100 * m * t = 100 * (m * t) := Int.mul_assoc _ _ _
        have p2 : 100 * a * m = 100 * (a * m) := Int.mul_assoc _ _ _
        have p3 : 100 * (x - lo) * t = 100 * ((x - lo) * t) := Int.mul_assoc _ _ _
        have p4 := Int.mul_nonneg (show 0 ≤ x - lo by omega) t0
        have p5 : (x - lo) * t ≤ m * t := Int.mul_le_mul_of_nonneg_right (by omega) t0
        have p6 : a * (100 * m) = 100 * (a * m) := by rw [Int.mul_left_comm]
        refine ⟨by omega, by omega, by omega, by omega⟩

/-- The products that a term is made of are small. -/
theorem Rcp.fit.parts {q : Rcp} (h : q.fit) (ha : q.a ≤ 65025) {x : Int} (hx0 : q.c.low ≤ x) (hx1 : x ≤ q.c.high) :
    (0 ≤ q.l * q.c.sat ∧ q.l * q.c.sat ≤ 500000000000) ∧ (0 ≤ q.t * q.dark ∧ q.t * q.dark ≤ 500000000000) ∧ (0 ≤ 100 * q.c.sat * q.t ∧ 100 * q.c.sat * q.t ≤ 500000000000) ∧ (0 ≤ 100 * q.a * q.c.sat ∧ 100 * q.a * q.c.sat ≤ 500000000000) ∧
    (0 ≤ q.l * (x - q.c.low) ∧ q.l * (x - q.c.low) ≤ 500000000000) ∧ (0 ≤ q.a * q.bright ∧ q.a * q.bright ≤ 500000000000) ∧ (0 ≤ (100 * q.a - q.l) * (q.c.high - x) ∧ (100 * q.a - q.l) * (q.c.high - x) ≤ 500000000000) ∧ (0 ≤ 100 * (x - q.c.low) * q.t ∧ 100 * (x - q.c.low) * q.t ≤ 500000000000) := by
  obtain ⟨k0, k1, k2, k3, k4, k5, k6, _, _⟩ := h.lin
  obtain ⟨r0, r1, g0, g1, b0, b1, t0, t1, l0, l1⟩ := h
  have a1 := mul_le (x := q.l) (y := q.c.sat) (a := 6502500) (b := 65025) l0 (by omega) (by omega) (by omega)
  have a2 := mul_le (x := q.t) (y := q.dark) (a := 65025) (b := 6502500) t0 (by omega) (by omega) (by omega)
  have a3 := mul_le (x := 100 * q.c.sat) (y := q.t) (a := 6502500) (b := 65025) (by omega) (by omega) (by omega) (by omega)
  have a4 := mul_le (x := 100 * q.a) (y := q.c.sat) (a := 6502500) (b := 65025) (by omega) (by omega) (by omega) (by omega)
  have a5 := mul_le (x := q.l) (y := x - q.c.low) (a := 6502500) (b := 65025) l0 (by omega) (by omega) (by omega)
  have a6 := mul_le (x := q.a) (y := q.bright) (a := 65025) (b := 6502500) (by omega) (by omega) (by omega) (by omega)
  have a7 := mul_le (x := 100 * q.a - q.l) (y := q.c.high - x) (a := 6502500) (b := 65025) (by omega) (by omega) (by omega) (by omega)
  have a8 := mul_le (x := 100 * (x - q.c.low)) (y := q.t) (a := 6502500) (b := 65025) (by omega) (by omega) (by omega) (by omega)
  omega
end Go.Proofs.Ytnefnnhnjmmebaa

namespace Go.Proofs.Ytnefnnhnjmmebaa
set_option linter.unusedVariables false

def Z0 : Px := ⟨0, 0, 0, 0⟩
theorem clamp_zero : clampP Z0 = Z0 := by apply Px.eq <;> simp [clampP, Z0]

theorem trm_zero_r (mode s sa : Int) : trm mode s sa 0 0 = 0 := by
  unfold trm ovl
  repeat' split
  all_goals simp
theorem trm_zero_l (mode d da : Int) : trm mode 0 0 d da = 0 := by
  unfold trm ovl
  repeat' split
  all_goals simp
theorem alpha_zero_r {sa : Int} (h0 : 0 ≤ sa) (h1 : sa ≤ 255) : alphaP sa 0 = sa := by
  unfold alphaP
  rw [show sa * (255 - 0) + 0 * (255 - sa) + sa * 0 = 255 * sa by simp; omega]
  exact dn8_full sa h0 h1
theorem alpha_zero_l {da : Int} (h0 : 0 ≤ da) (h1 : da ≤ 255) : alphaP 0 da = da := by
  unfold alphaP
  rw [show 0 * (255 - da) + da * (255 - 0) + 0 * da = 255 * da by simp; omega]
  exact dn8_full da h0 h1
theorem chan_zero_r (mode : Int) {s sa : Int} (h0 : 0 ≤ s) (h1 : s ≤ 255) : chanP mode s sa 0 0 = s := by
  unfold chanP
  rw [trm_zero_r, show s * (255 - 0) + 0 * (255 - sa) + 0 = 255 * s by simp; omega]
  exact dn8_full s h0 h1
theorem chan_zero_l (mode : Int) {d da : Int} (h0 : 0 ≤ d) (h1 : d ≤ 255) : chanP mode 0 0 d da = d := by
  unfold chanP
  rw [trm_zero_l, show 0 * (255 - da) + d * (255 - 0) + 0 = 255 * d by simp; omega]
  exact dn8_full d h0 h1

def C0 : C3 := ⟨0, 0, 0⟩
theorem recipe_zero (mode a : Int) : recipeP mode C0 C0 a = ⟨C0, 0, 0, a⟩ := by
  have h1 : C0.sat = 0 := by decide
  have h2 : C0.lum = 0 := by decide
  unfold recipeP; rw [h1, h2]; repeat' split
  all_goals rfl
theorem chan_of_zero (a base x : Int) (n : Int) (hb : base = 255 * n) : (⟨C0, 0, 0, a⟩ : Rcp).chan base x = n := by
  have h1 : C0.sat = 0 := by decide
  unfold Rcp.chan Rcp.den Rcp.num
  simp only [h1, if_true]
  omega
theorem scaled_zero_r (s : Px) : scaledP s 0 = C0 := by simp [scaledP, C0]
theorem scaled_zero_l (n : Int) : scaledP Z0 n = C0 := by simp [scaledP, C0, Z0]

theorem sep_zero_r (mode : Int) {s : Px} (h : s.ok) : sepBlend mode s Z0 = s := by
  have hb := h.byte
  exact Px.eq (chan_zero_r mode hb.r0 hb.r1) (chan_zero_r mode hb.g0 hb.g1) (chan_zero_r mode hb.b0 hb.b1) (alpha_zero_r hb.a0 hb.a1)
theorem sep_zero_l (mode : Int) {d : Px} (h : d.ok) : sepBlend mode Z0 d = d := by
  have hb := h.byte
  exact Px.eq (chan_zero_l mode hb.r0 hb.r1) (chan_zero_l mode hb.g0 hb.g1) (chan_zero_l mode hb.b0 hb.b1) (alpha_zero_l hb.a0 hb.a1)
theorem whole_zero_r (mode : Int) {s : Px} (h : s.ok) : wholeBlend mode s Z0 = s := by
  have hb := h.byte
  unfold wholeBlend
  simp only [show Z0.a = 0 from rfl, scaled_zero_r, scaled_zero_l, recipe_zero]
  refine Px.eq ?_ ?_ ?_ ?_
  · exact chan_of_zero _ _ _ _ (by simp [baseP, Z0]; omega)
  · exact chan_of_zero _ _ _ _ (by simp [baseP, Z0]; omega)
  · exact chan_of_zero _ _ _ _ (by simp [baseP, Z0]; omega)
  · exact alpha_zero_r hb.a0 hb.a1
theorem whole_zero_l (mode : Int) {d : Px} (h : d.ok) : wholeBlend mode Z0 d = d := by
  have hb := h.byte
  unfold wholeBlend
  simp only [show Z0.a = 0 from rfl, scaled_zero_r, scaled_zero_l, recipe_zero]
  refine Px.eq ?_ ?_ ?_ ?_
  · exact chan_of_zero _ _ _ _ (by simp [baseP, Z0]; omega)
  · exact chan_of_zero _ _ _ _ (by simp [baseP, Z0]; omega)
  · exact chan_of_zero _ _ _ _ (by simp [baseP, Z0]; omega)
  · exact alpha_zero_l hb.a0 hb.a1
theorem blend_zero_r {mode : Int} (hm : validModeB mode = true) {s : Px} (h : s.byte) : blendP mode s Z0 = clampP s := by
  unfold blendP
  rw [if_pos hm, clamp_zero]
  split
  · exact sep_zero_r mode (clamp_ok h)
  · exact whole_zero_r mode (clamp_ok h)
theorem blend_zero_l {mode : Int} (hm : validModeB mode = true) {d : Px} (h : d.byte) : blendP mode Z0 d = clampP d := by
  unfold blendP
  rw [if_pos hm, clamp_zero]
  split
  · exact sep_zero_l mode (clamp_ok h)
  · exact whole_zero_l mode (clamp_ok h)
theorem blend_invalid {mode : Int} (hm : validModeB mode = false) (s d : Px) : blendP mode s d = d := by
  unfold blendP; rw [hm]; rfl

theorem alpha_comm (sa da : Int) : alphaP sa da = alphaP da sa := by
  unfold alphaP; rw [Int.mul_comm sa da, Int.add_comm (sa * (255 - da))]
theorem chan_comm {mode : Int} (hm : mode = 2 ∨ mode = 3 ∨ mode = 5 ∨ mode = 6 ∨ mode = 7 ∨ mode = 8) (s sa d da : Int) : chanP mode s sa d da = chanP mode d da s sa := by
  unfold chanP
  have h : trm mode s sa d da = trm mode d da s sa := by
    have c4 : 2 * s * d = 2 * d * s := by rw [Int.mul_assoc, Int.mul_comm s d, ← Int.mul_assoc]
    have c2 : s * d = d * s := Int.mul_comm _ _
    rcases hm with rfl | rfl | rfl | rfl | rfl | rfl <;> simp [trm] <;> omega
  rw [h, Int.add_comm (s * (255 - da))]
theorem chan_hard (s sa d da : Int) : chanP 9 s sa d da = chanP 4 d da s sa := by
  unfold chanP
  rw [Int.add_comm (s * (255 - da))]
  simp [trm]
theorem blend_comm {mode : Int} (hm : mode = 2 ∨ mode = 3 ∨ mode = 5 ∨ mode = 6 ∨ mode = 7 ∨ mode = 8) (s d : Px) : blendP mode s d = blendP mode d s := by
  have h1 : validModeB mode = true := by simp [validModeB]; omega
  have h2 : sepB mode = true := by simp [sepB]; omega
  unfold blendP
  rw [if_pos h1, if_pos h2, if_pos h1, if_pos h2]
  exact Px.eq (chan_comm hm _ _ _ _) (chan_comm hm _ _ _ _) (chan_comm hm _ _ _ _) (alpha_comm _ _)
theorem blend_hard (s d : Px) : blendP 9 s d = blendP 4 d s := by
  unfold blendP
  rw [if_pos (by decide), if_pos (by decide), if_pos (by decide), if_pos (by decide)]
  exact Px.eq (chan_hard _ _ _ _) (chan_hard _ _ _ _) (chan_hard _ _ _ _) (alpha_comm _ _)

/-- An opaque pixel. -/
def opq (p : Px) : Px := ⟨p.r, p.g, p.b, 255⟩
theorem opq_ok {p : Px} (h : p.byte) : (opq p).ok := ⟨h.r0, h.r1, h.g0, h.g1, h.b0, h.b1, (by decide : (0 : Int) ≤ 255), (by decide : (255 : Int) ≤ 255)⟩
def white : Px := ⟨255, 255, 255, 255⟩
def black : Px := ⟨0, 0, 0, 255⟩
theorem alpha_full : alphaP 255 255 = 255 := by decide
theorem white_ok : white.ok := ⟨by decide, by decide, by decide, by decide, by decide, by decide, by decide, by decide⟩
theorem black_ok : black.ok := ⟨by decide, by decide, by decide, by decide, by decide, by decide, by decide, by decide⟩
theorem chan_full (mode s d n : Int) (h : trm mode s 255 d 255 = 255 * n) (h0 : 0 ≤ n) (h1 : n ≤ 255) : chanP mode s 255 d 255 = n := by
  unfold chanP
  rw [h, show s * (255 - 255) + d * (255 - 255) + 255 * n = 255 * n by simp]
  exact dn8_full n h0 h1
theorem blend_sep {mode : Int} (h2 : sepB mode = true) {s d : Px} (hs : s.ok) (hd : d.ok) : blendP mode s d = sepBlend mode s d := by
  have h1 : validModeB mode = true := by simp [sepB] at h2; simp [validModeB]; omega
  unfold blendP
  rw [if_pos h1, if_pos h2, clamp_of_ok hs, clamp_of_ok hd]
theorem opaque_normal {x y : Px} (hx : x.byte) (hy : y.byte) : blendP 1 (opq x) (opq y) = opq x := by
  rw [blend_sep (by decide) (opq_ok hx) (opq_ok hy)]
  exact Px.eq (chan_full 1 _ _ _ (by simp [trm, opq]; omega) hx.r0 hx.r1) (chan_full 1 _ _ _ (by simp [trm, opq]; omega) hx.g0 hx.g1) (chan_full 1 _ _ _ (by simp [trm, opq]; omega) hx.b0 hx.b1) alpha_full
theorem opaque_white {y : Px} (hy : y.byte) : blendP 2 white (opq y) = opq y := by
  rw [blend_sep (by decide) white_ok (opq_ok hy)]
  exact Px.eq (chan_full 2 _ _ _ (by simp [trm, opq, white]) hy.r0 hy.r1) (chan_full 2 _ _ _ (by simp [trm, opq, white]) hy.g0 hy.g1) (chan_full 2 _ _ _ (by simp [trm, opq, white]) hy.b0 hy.b1) alpha_full
theorem opaque_black {y : Px} (hy : y.byte) : blendP 3 black (opq y) = opq y := by
  rw [blend_sep (by decide) black_ok (opq_ok hy)]
  exact Px.eq (chan_full 3 _ _ _ (by simp [trm, opq, black]; omega) hy.r0 hy.r1) (chan_full 3 _ _ _ (by simp [trm, opq, black]; omega) hy.g0 hy.g1) (chan_full 3 _ _ _ (by simp [trm, opq, black]; omega) hy.b0 hy.b1) alpha_full
theorem opaque_diff {y : Px} (hy : y.byte) : blendP 7 black (opq y) = opq y := by
  rw [blend_sep (by decide) black_ok (opq_ok hy)]
  obtain ⟨r0, r1, g0, g1, b0, b1, a0, a1⟩ := hy
  exact Px.eq (chan_full 7 _ _ _ (by simp [trm, opq, black]; omega) r0 r1) (chan_full 7 _ _ _ (by simp [trm, opq, black]; omega) g0 g1) (chan_full 7 _ _ _ (by simp [trm, opq, black]; omega) b0 b1) alpha_full
theorem opaque_same {y : Px} (hy : y.byte) : blendP 7 (opq y) (opq y) = black := by
  rw [blend_sep (by decide) (opq_ok hy) (opq_ok hy)]
  exact Px.eq (chan_full 7 _ _ 0 (by simp [trm, opq]) (by decide) (by decide)) (chan_full 7 _ _ 0 (by simp [trm, opq]) (by decide) (by decide)) (chan_full 7 _ _ 0 (by simp [trm, opq]) (by decide) (by decide)) alpha_full

/-- The sum under the alpha. -/
theorem alpha_sum {sa da : Int} (h0 : 0 ≤ sa) (h1 : sa ≤ 255) (h2 : 0 ≤ da) (h3 : da ≤ 255) :
    255 * sa ≤ sa * (255 - da) + da * (255 - sa) + sa * da ∧ 255 * da ≤ sa * (255 - da) + da * (255 - sa) + sa * da ∧ sa * (255 - da) + da * (255 - sa) + sa * da ≤ 65025 := by
  have a1 := Int.mul_nonneg h2 (show 0 ≤ 255 - sa by omega)
  have a2 := Int.mul_nonneg h0 (show 0 ≤ 255 - da by omega)
  have a3 := Int.mul_nonneg (show 0 ≤ 255 - sa by omega) (show 0 ≤ 255 - da by omega)
  have e1 : sa * (255 - da) = 255 * sa - sa * da := by rw [Int.mul_sub]; omega
  have e2 : da * (255 - sa) = 255 * da - sa * da := by rw [Int.mul_sub, Int.mul_comm da sa]; omega
  have e3 : (255 - sa) * (255 - da) = 65025 - 255 * sa - 255 * da + sa * da := by rw [Int.sub_mul, Int.mul_sub, Int.mul_sub]; omega
  omega
theorem alpha_ge {sa da : Int} (h0 : 0 ≤ sa) (h1 : sa ≤ 255) (h2 : 0 ≤ da) (h3 : da ≤ 255) : sa ≤ alphaP sa da ∧ da ≤ alphaP sa da ∧ alphaP sa da ≤ 255 := by
  obtain ⟨a1, a2, a3⟩ := alpha_sum h0 h1 h2 h3
  have b1 := dn8_mono a1
  have b2 := dn8_mono a2
  rw [dn8_full sa h0 h1] at b1
  rw [dn8_full da h2 h3] at b2
  exact ⟨b1, b2, (dn8_bd _).2⟩
theorem chan_le (mode : Int) {s sa d da : Int} (h0 : 0 ≤ s) (h1 : s ≤ sa) (h2 : sa ≤ 255) (h3 : 0 ≤ d) (h4 : d ≤ da) (h5 : da ≤ 255) : chanP mode s sa d da ≤ alphaP sa da := by
  have t := trm_bd (mode := mode) h0 h1 h3 h4
  have a1 := mul_le h0 h1 (show 0 ≤ 255 - da by omega) (Int.le_refl (255 - da))
  have a2 := mul_le h3 h4 (show 0 ≤ 255 - sa by omega) (Int.le_refl (255 - sa))
  exact dn8_mono (by omega)
theorem rchan_le {q : Rcp} (h : q.fit) {x base N : Int} (hx0 : q.c.low ≤ x) (hx1 : x ≤ q.c.high) (hb0 : 0 ≤ base) (hb : base + q.a ≤ N) (hN : N ≤ 65025) : 0 ≤ q.chan base x ∧ q.chan base x ≤ dn8 N := by
  obtain ⟨d0, d1, n0, n1⟩ := h.kinds hx0 hx1
  have ha : 0 ≤ q.a := by have := h.r0; have := h.r1; omega
  unfold Rcp.chan
  generalize q.num x = nm at *
  generalize q.den = dn at *
  generalize q.a = a at *
  have p1 := Int.mul_nonneg hb0 (show 0 ≤ dn by omega)
  refine ⟨Int.ediv_nonneg (by omega) (by omega), ?_⟩
  rw [dn8_in (by omega) hN]
  have a3 : base * dn + a * dn ≤ N * dn := by rw [← Int.add_mul]; exact Int.mul_le_mul_of_nonneg_right hb (by omega)
  have e1 : (2 * N + 255) * dn / (510 * dn) = (2 * N + 255) / 510 := Int.mul_ediv_mul_of_pos_left _ _ (by omega)
  rw [← e1]
  apply Int.ediv_le_ediv (by omega)
  have e2 : (2 * N + 255) * dn = 2 * (N * dn) + 255 * dn := by rw [Int.add_mul, Int.mul_assoc]
  omega

theorem recipe_fit (mode : Int) {s d : Px} (hs : s.ok) (hd : d.ok) : (recipeP mode (scaledP s d.a) (scaledP d s.a) (s.a * d.a)).fit ∧ (recipeP mode (scaledP s d.a) (scaledP d s.a) (s.a * d.a)).a = s.a * d.a := by
  obtain ⟨r0, r1, g0, g1, b0, b1, a0, a1⟩ := hs
  obtain ⟨r0', r1', g0', g1', b0', b1', a0', a1'⟩ := hd
  have e1 := mul_le r0 r1 a0' (Int.le_refl d.a)
  have e2 := mul_le g0 g1 a0' (Int.le_refl d.a)
  have e3 := mul_le b0 b1 a0' (Int.le_refl d.a)
  have e4 := mul_le r0' r1' a0 (Int.le_refl s.a)
  have e5 := mul_le g0' g1' a0 (Int.le_refl s.a)
  have e6 := mul_le b0' b1' a0 (Int.le_refl s.a)
  rw [Int.mul_comm d.a s.a] at e4 e5 e6
  have l1 := low_in (c := scaledP s d.a) (u := 0) (v := s.a * d.a) (by unfold scaledP; simp only; omega)
  have l2 := low_in (c := scaledP d s.a) (u := 0) (v := s.a * d.a) (by unfold scaledP; simp only; omega)
  have u1 := low_high (scaledP s d.a)
  have u2 := low_high (scaledP d s.a)
  have c1 : 0 ≤ (scaledP s d.a).sat ∧ (scaledP s d.a).sat ≤ s.a * d.a := by unfold C3.sat; omega
  have c2 : 0 ≤ (scaledP d s.a).sat ∧ (scaledP d s.a).sat ≤ s.a * d.a := by unfold C3.sat; omega
  have c3 : 0 ≤ (scaledP s d.a).lum ∧ (scaledP s d.a).lum ≤ 100 * (s.a * d.a) := by unfold C3.lum scaledP; simp only; omega
  have c4 : 0 ≤ (scaledP d s.a).lum ∧ (scaledP d s.a).lum ≤ 100 * (s.a * d.a) := by unfold C3.lum scaledP; simp only; omega
  unfold recipeP
  repeat' split
  all_goals
    refine ⟨⟨?_, ?_, ?_, ?_, ?_, ?_, ?_, ?_, ?_, ?_⟩, rfl⟩
    all_goals (first | (exact c1.1) | (exact c1.2) | (exact c2.1) | (exact c2.2) | (exact c3.1) | (exact c3.2) | (exact c4.1) | (exact c4.2) | (simp only [scaledP]; omega))

/-- The blend of two pixels by a valid mode: a valid pixel, no less opaque than both. -/
theorem blend_ok {mode : Int} (hm : validModeB mode = true) {s d : Px} (hs : s.byte) (hd : d.byte) : (blendP mode s d).ok ∧ (blendP mode s d).a = alphaP s.a d.a ∧ s.a ≤ (blendP mode s d).a ∧ d.a ≤ (blendP mode s d).a := by
  have hx := clamp_ok hs
  have hy := clamp_ok hd
  have ha := alpha_ge hs.a0 hs.a1 hd.a0 hd.a1
  have hA : (blendP mode s d).a = alphaP s.a d.a := by
    unfold blendP; rw [if_pos hm]; split <;> rfl
  rw [hA]
  refine ⟨?_, rfl, ha.1, ha.2.1⟩
  unfold blendP
  rw [if_pos hm]
  have e1 : (clampP s).a = s.a := rfl
  have e2 : (clampP d).a = d.a := rfl
  split
  · refine ⟨(dn8_bd _).1, chan_le mode hx.r0 hx.r1 hx.a1 hy.r0 hy.r1 hy.a1, (dn8_bd _).1, chan_le mode hx.g0 hx.g1 hx.a1 hy.g0 hy.g1 hy.a1, (dn8_bd _).1, chan_le mode hx.b0 hx.b1 hx.a1 hy.b0 hy.b1 hy.a1, (dn8_bd _).1, (dn8_bd _).2⟩
  · obtain ⟨hf, hqa⟩ := recipe_fit mode hx hy
    have hlh := low_high (recipeP mode (scaledP (clampP s) (clampP d).a) (scaledP (clampP d) (clampP s).a) ((clampP s).a * (clampP d).a)).c
    have hsum := (alpha_sum hx.a0 hx.a1 hy.a0 hy.a1).2.2
    have hb : ∀ x y : Int, 0 ≤ x → x ≤ (clampP s).a → 0 ≤ y → y ≤ (clampP d).a → 0 ≤ baseP x y (clampP s).a (clampP d).a ∧ baseP x y (clampP s).a (clampP d).a + (clampP s).a * (clampP d).a ≤ (clampP s).a * (255 - (clampP d).a) + (clampP d).a * (255 - (clampP s).a) + (clampP s).a * (clampP d).a := fun x y h0 h1 h2 h3 => by
      have b1 := mul_le h0 h1 (show 0 ≤ 255 - (clampP d).a by have := hy.a1; omega) (Int.le_refl _)
      have b2 := mul_le h2 h3 (show 0 ≤ 255 - (clampP s).a by have := hx.a1; omega) (Int.le_refl _)
      unfold baseP; omega
    have k1 := hb _ _ hx.r0 hx.r1 hy.r0 hy.r1
    have k2 := hb _ _ hx.g0 hx.g1 hy.g0 hy.g1
    have k3 := hb _ _ hx.b0 hx.b1 hy.b0 hy.b1
    have c1 := rchan_le hf hlh.1 hlh.2.2.2.1 k1.1 (by rw [hqa]; exact k1.2) hsum
    have c2 := rchan_le hf hlh.2.1 hlh.2.2.2.2.1 k2.1 (by rw [hqa]; exact k2.2) hsum
    have c3 := rchan_le hf hlh.2.2.1 hlh.2.2.2.2.2 k3.1 (by rw [hqa]; exact k3.2) hsum
    exact ⟨c1.1, c1.2, c2.1, c2.2, c3.1, c3.2, (dn8_bd _).1, (dn8_bd _).2⟩
theorem term_range (mode : Int) {x y : Px} (hx : x.ok) (hy : y.ok) : 0 ≤ TermP mode x.r x.a y.r y.a ∧ TermP mode x.r x.a y.r y.a ≤ x.a * y.a := by
  have := mul_le hx.a0 (Int.le_refl x.a) hy.a0 (Int.le_refl y.a)
  unfold TermP
  split
  · exact trm_bd hx.r0 hx.r1 hy.r0 hy.r1
  · omega
theorem term_invalid {mode : Int} (hm : sepB mode = false) (s sa d da : Int) : TermP mode s sa d da = 0 := by
  unfold TermP; rw [hm]; rfl

/-- The weighted terms of a recipe add up to its luminosity. -/
theorem sum_num (q : Rcp) : 30 * q.num q.c.r + 59 * q.num q.c.g + 11 * q.num q.c.b = q.l * q.den := by
  have eL : q.level = q.l * q.c.sat - q.t * q.dark := rfl
  have eD : q.dark = 30 * q.c.r + 59 * q.c.g + 11 * q.c.b - 100 * q.c.low := rfl
  have eB : q.bright = 100 * q.c.high - (30 * q.c.r + 59 * q.c.g + 11 * q.c.b) := rfl
  unfold Rcp.num Rcp.den
  generalize q.c.low = lo at *
  generalize q.c.high = hi at *
  generalize q.c.sat = m at *
  generalize q.dark = dk at *
  generalize q.bright = br at *
  generalize q.level = lv at *
  split
  · omega
  · split
    · subst eD; grind
    · split
      · subst eB; grind
      · subst eL eD; grind

def lumaP (p : Px) : Int := 30 * p.r + 59 * p.g + 11 * p.b
theorem chan_div {q : Rcp} (hd : 1 ≤ q.den) (x : Int) : 510 * (q.chan 0 x * q.den) ≤ 2 * q.num x + 255 * q.den ∧ 2 * q.num x + 255 * q.den < 510 * (q.chan 0 x * q.den) + 510 * q.den := by
  unfold Rcp.chan
  rw [Int.zero_mul, Int.zero_add]
  generalize q.num x = nm at *
  generalize q.den = dn at *
  have h1 := Int.mul_ediv_self_le (x := 2 * nm + 255 * dn) (k := 510 * dn) (by omega)
  have h2 := Int.lt_mul_ediv_self_add (x := 2 * nm + 255 * dn) (k := 510 * dn) (by omega)
  generalize (2 * nm + 255 * dn) / (510 * dn) = z at *
  have e : 510 * dn * z = 510 * (z * dn) := by rw [Int.mul_assoc, Int.mul_comm dn z]
  omega
theorem luma_near {q : Rcp} (h : q.fit) {L : Int} (hl : q.l = 255 * L) : lumaP ⟨q.chan 0 q.c.r, q.chan 0 q.c.g, q.chan 0 q.c.b, 255⟩ - L ≤ 50 ∧ L - lumaP ⟨q.chan 0 q.c.r, q.chan 0 q.c.g, q.chan 0 q.c.b, 255⟩ ≤ 50 := by
  have hlh := low_high q.c
  have hd := (h.kinds hlh.1 hlh.2.2.2.1).1
  have s := sum_num q
  have c1 := chan_div hd q.c.r
  have c2 := chan_div hd q.c.g
  have c3 := chan_div hd q.c.b
  unfold lumaP
  simp only
  generalize q.chan 0 q.c.r = pr at *
  generalize q.chan 0 q.c.g = pg at *
  generalize q.chan 0 q.c.b = pb at *
  generalize q.num q.c.r = nr at *
  generalize q.num q.c.g = ng at *
  generalize q.num q.c.b = nb at *
  generalize q.den = dn at *
  rw [hl] at s
  have e1 : (30 * pr + 59 * pg + 11 * pb) * dn = 30 * (pr * dn) + 59 * (pg * dn) + 11 * (pb * dn) := by grind
  have e2 : 255 * L * dn = 255 * (L * dn) := Int.mul_assoc _ _ _
  generalize 30 * pr + 59 * pg + 11 * pb = P at *
  have k1 : P * dn ≤ (L + 50) * dn := by rw [Int.add_mul]; omega
  have k2 : (L - 50) * dn ≤ P * dn := by rw [Int.sub_mul]; omega
  have j1 := Int.le_of_mul_le_mul_right k1 (by omega)
  have j2 := Int.le_of_mul_le_mul_right k2 (by omega)
  omega

/-- An opaque blend by a mode that is not separable. -/
theorem whole_opaque {mode : Int} (h1 : validModeB mode = true) (h2 : sepB mode = false) {x y : Px} (hx : x.byte) (hy : y.byte) {q : Rcp} (hq : recipeP mode (scaledP x 255) (scaledP y 255) 65025 = q) :
    blendP mode (opq x) (opq y) = ⟨q.chan 0 q.c.r, q.chan 0 q.c.g, q.chan 0 q.c.b, 255⟩ ∧ q.fit := by
  have hf := (recipe_fit mode (opq_ok hx) (opq_ok hy)).1
  have e1 : scaledP (opq x) (opq y).a = scaledP x 255 := rfl
  have e2 : scaledP (opq y) (opq x).a = scaledP y 255 := rfl
  have e3 : (opq x).a * (opq y).a = 65025 := rfl
  rw [e1, e2, e3, hq] at hf
  refine ⟨?_, hf⟩
  unfold blendP
  rw [if_pos h1, h2, clamp_of_ok (opq_ok hx), clamp_of_ok (opq_ok hy), if_neg (by simp)]
  unfold wholeBlend
  simp only [e1, e2, e3, hq]
  have eb : ∀ u v : Int, baseP u v (opq x).a (opq y).a = 0 := fun u v => by
    show u * (255 - 255) + v * (255 - 255) = 0
    simp
  rw [eb, eb, eb]
  exact Px.eq rfl rfl rfl alpha_full
theorem lum_scaled (p : Px) : (scaledP p 255).lum = 255 * lumaP p := by
  unfold C3.lum scaledP lumaP; simp only; omega
theorem blend_luma {mode : Int} (hm : mode = 10 ∨ mode = 11 ∨ mode = 12 ∨ mode = 13) {x y : Px} (hx : x.byte) (hy : y.byte) :
    (blendP mode (opq x) (opq y)).a = 255 ∧ (∀ L, L = lumaP (if mode = 13 then x else y) → lumaP (blendP mode (opq x) (opq y)) - L ≤ 50 ∧ L - lumaP (blendP mode (opq x) (opq y)) ≤ 50) := by
  have h1 : validModeB mode = true := by simp [validModeB]; omega
  have h2 : sepB mode = false := by simp [sepB]; omega
  obtain ⟨e, hf⟩ := whole_opaque h1 h2 hx hy rfl
  rw [e]
  refine ⟨rfl, fun L hL => ?_⟩
  refine luma_near hf ?_
  subst hL
  rcases hm with rfl | rfl | rfl | rfl
  · exact lum_scaled y
  · exact lum_scaled y
  · exact lum_scaled y
  · exact lum_scaled x

/-- A recipe that changes nothing. -/
theorem chan_same {q : Rcp} (h : q.fit) (ht : q.t = q.c.sat) (hl : q.l = q.c.lum) {x n : Int} (hx : x = q.c.r ∨ x = q.c.g ∨ x = q.c.b) (hn : x = 255 * n) : q.chan 0 x = n := by
  obtain ⟨k0, k1, k2, k3, k4, k5, k6, k7, k8⟩ := h.lin
  have eL : q.level = q.l * q.c.sat - q.t * q.dark := rfl
  have hlo := low_high q.c
  unfold Rcp.chan Rcp.num Rcp.den
  have elum : q.c.lum = 30 * q.c.r + 59 * q.c.g + 11 * q.c.b := rfl
  rw [ht] at eL
  rw [hl] at eL
  by_cases hm : q.c.sat = 0
  · simp only [hm, if_true]
    have : q.l = 100 * x := by rw [hl]; omega
    rw [this]
    omega
  · have e1 : q.level = 100 * (q.c.sat * q.c.low) := by
      rw [eL, k7]; grind
    have p0 := Int.mul_nonneg (show 0 ≤ q.c.sat by omega) k0
    have p1 : 100 * q.c.sat * q.t = 100 * (q.c.sat * q.c.sat) := by rw [ht, Int.mul_assoc]
    have p2 : 100 * q.a * q.c.sat = 100 * (q.a * q.c.sat) := Int.mul_assoc _ _ _
    have p3 : q.c.sat * q.c.sat + q.c.sat * q.c.low ≤ q.a * q.c.sat := by
      rw [← Int.mul_add, Int.mul_comm q.a]
      exact Int.mul_le_mul_of_nonneg_left (by omega) (by omega)
    rw [if_neg hm, if_neg hm, if_neg (by omega), if_neg (by omega), if_neg (by omega), if_neg (by omega)]
    rw [ht, e1, Int.zero_mul, Int.zero_add]
    generalize q.c.sat = m at *
    have e2 : 2 * (100 * (x - q.c.low) * m + 100 * (m * q.c.low)) + 255 * (100 * m) = (2 * n + 1) * (25500 * m) := by rw [hn]; grind
    have e3 : 510 * (100 * m) = 2 * (25500 * m) := by omega
    rw [e2, e3, Int.mul_ediv_mul_of_pos_left _ _ (by omega)]
    omega
theorem blend_self {mode : Int} (hm : mode = 10 ∨ mode = 11 ∨ mode = 12 ∨ mode = 13) {x : Px} (hx : x.byte) : blendP mode (opq x) (opq x) = opq x := by
  have h1 : validModeB mode = true := by simp [validModeB]; omega
  have h2 : sepB mode = false := by simp [sepB]; omega
  have hr : recipeP mode (scaledP x 255) (scaledP x 255) 65025 = ⟨scaledP x 255, (scaledP x 255).sat, (scaledP x 255).lum, 65025⟩ := by
    unfold recipeP; repeat' split
    all_goals rfl
  obtain ⟨e, hf⟩ := whole_opaque h1 h2 hx hx hr
  rw [e]
  have er : (scaledP x 255).r = 255 * x.r := by simp [scaledP]; omega
  have eg : (scaledP x 255).g = 255 * x.g := by simp [scaledP]; omega
  have eb : (scaledP x 255).b = 255 * x.b := by simp [scaledP]; omega
  exact Px.eq (chan_same hf rfl rfl (.inl rfl) er) (chan_same hf rfl rfl (.inr (.inl rfl)) eg) (chan_same hf rfl rfl (.inr (.inr rfl)) eb) rfl
theorem blend_reverse {x y : Px} (hx : x.byte) (hy : y.byte) : blendP 12 (opq x) (opq y) = blendP 13 (opq y) (opq x) := by
  obtain ⟨e, hf⟩ := whole_opaque (mode := 12) (by decide) (by decide) hx hy rfl
  obtain ⟨e', hf'⟩ := whole_opaque (mode := 13) (by decide) (by decide) hy hx rfl
  rw [e, e']
  rfl
/-- A recipe whose result is gray. -/
theorem chan_gray {q : Rcp} (h : q.fit) (hg : q.c.sat = 0 ∨ q.t = 0) (x y : Int) : q.chan 0 x = q.chan 0 y := by
  obtain ⟨k0, k1, k2, k3, k4, k5, k6, k7, k8⟩ := h.lin
  have eL : q.level = q.l * q.c.sat - q.t * q.dark := rfl
  unfold Rcp.chan Rcp.num Rcp.den
  by_cases hm : q.c.sat = 0
  · simp only [hm, if_true]
  · have ht := hg.resolve_left hm
    rw [ht] at eL ⊢
    rw [Int.zero_mul, Int.sub_zero] at eL
    have p0 := Int.mul_nonneg h.l0 (show 0 ≤ q.c.sat by omega)
    have p1 : q.l * q.c.sat ≤ 100 * q.a * q.c.sat := Int.mul_le_mul_of_nonneg_right h.l1 (by omega)
    rw [if_neg hm, if_neg hm, if_neg hm, if_neg (by omega), if_neg (by omega), if_neg (by omega), if_neg (by simp; omega), if_neg (by simp; omega), if_neg (by simp; omega)]
    simp
def grayP (g : Int) : Px := ⟨g, g, g, 255⟩
theorem sat_gray (g : Int) : (scaledP (grayP g) 255).sat = 0 := by unfold C3.sat C3.high C3.low scaledP grayP; simp only; omega
theorem blend_gray {g : Int} (h0 : 0 ≤ g) (h1 : g ≤ 255) {y : Px} (hy : y.byte) :
    (∀ mode, mode = 10 ∨ mode = 11 ∨ mode = 12 → (blendP mode (grayP g) (opq y)).r = (blendP mode (grayP g) (opq y)).g ∧ (blendP mode (grayP g) (opq y)).r = (blendP mode (grayP g) (opq y)).b) ∧
    ((blendP 13 (opq y) (grayP g)).r = (blendP 13 (opq y) (grayP g)).g ∧ (blendP 13 (opq y) (grayP g)).r = (blendP 13 (opq y) (grayP g)).b) := by
  have hgb : (grayP g).byte := ⟨h0, h1, h0, h1, h0, h1, (by decide : (0 : Int) ≤ 255), (by decide : (255 : Int) ≤ 255)⟩
  have hgo : opq (grayP g) = grayP g := rfl
  constructor
  · intro mode hm
    have h1 : validModeB mode = true := by simp [validModeB]; omega
    have h2 : sepB mode = false := by simp [sepB]; omega
    obtain ⟨e, hf⟩ := whole_opaque h1 h2 hgb hy rfl
    rw [hgo] at e
    rw [e]
    have hz : (recipeP mode (scaledP (grayP g) 255) (scaledP y 255) 65025).c.sat = 0 ∨ (recipeP mode (scaledP (grayP g) 255) (scaledP y 255) 65025).t = 0 := by
      rcases hm with rfl | rfl | rfl
      · exact .inl (sat_gray g)
      · exact .inr (sat_gray g)
      · exact .inl (sat_gray g)
    exact ⟨chan_gray hf hz _ _, chan_gray hf hz _ _⟩
  · obtain ⟨e, hf⟩ := whole_opaque (mode := 13) (by decide) (by decide) hy hgb rfl
    rw [hgo] at e
    rw [e]
    exact ⟨chan_gray hf (.inl (sat_gray g)) _ _, chan_gray hf (.inl (sat_gray g)) _ _⟩
end Go.Proofs.Ytnefnnhnjmmebaa

namespace Go.Proofs.Ytnefnnhnjmmebaa
set_option linter.unusedVariables false

/-- The factors of a compositing operator. -/
def facP (op sa da : Int) : Int × Int :=
  if op = 1 then (0, 0) else if op = 2 then (255, 0) else if op = 3 then (255, 255 - sa) else if op = 4 then (da, 0) else if op = 5 then (255 - da, 0) else
  if op = 6 then (da, 255 - sa) else if op = 7 then (255 - da, 255 - sa) else if op = 8 then (255, 255) else if op = 9 then (0, sa) else if op = 10 then (0, 255 - sa) else (0, 255)
def validOpB (op : Int) : Bool := decide (1 ≤ op) && decide (op ≤ 10)
def oneP (a b m n : Int) : Int := dn8 (a * m + b * n)
def mixP (a b : Px) (f : Int × Int) : Px := ⟨oneP a.r b.r f.1 f.2, oneP a.g b.g f.1 f.2, oneP a.b b.b f.1 f.2, oneP a.a b.a f.1 f.2⟩
def composeP (op : Int) (s d : Px) : Px := mixP (clampP s) (clampP d) (facP op (clampP s).a (clampP d).a)
def mn8 (a b : Int) : Int := rndP (a * b) 255
def scaleP (p : Px) (k : Int) : Px := ⟨mn8 p.r k, mn8 p.g k, mn8 p.b k, mn8 p.a k⟩
def bwcP (mode : Int) (s d : Px) (k : Int) : Px := blendP mode (scaleP s k) d
def blendAllP (mode : Int) (d : Px) (l : List Px) : Px := l.foldl (fun d s => bwcP mode s d 255) d

theorem fac_bd {op sa da : Int} (h0 : 0 ≤ sa) (h1 : sa ≤ 255) (h2 : 0 ≤ da) (h3 : da ≤ 255) : (0 ≤ (facP op sa da).1 ∧ (facP op sa da).1 ≤ 255) ∧ (0 ≤ (facP op sa da).2 ∧ (facP op sa da).2 ≤ 255) := by
  unfold facP
  repeat' split
  all_goals (simp only; omega)
theorem mn8_bd {a b : Int} (h0 : 0 ≤ a) (h1 : a ≤ 255) (h2 : 0 ≤ b) (h3 : b ≤ 255) : 0 ≤ mn8 a b ∧ mn8 a b ≤ 255 ∧ mn8 a b ≤ a := by
  have := mul_byte h0 h1 h2 h3
  unfold mn8 rndP; omega
theorem mn8_full {a : Int} : mn8 a 255 = a := by unfold mn8 rndP; omega
theorem mn8_zero (a : Int) : mn8 a 0 = 0 := by unfold mn8 rndP; simp
theorem scale_byte {p : Px} (h : p.byte) {k : Int} (h0 : 0 ≤ k) (h1 : k ≤ 255) : (scaleP p k).byte :=
  ⟨(mn8_bd h.r0 h.r1 h0 h1).1, (mn8_bd h.r0 h.r1 h0 h1).2.1, (mn8_bd h.g0 h.g1 h0 h1).1, (mn8_bd h.g0 h.g1 h0 h1).2.1, (mn8_bd h.b0 h.b1 h0 h1).1, (mn8_bd h.b0 h.b1 h0 h1).2.1, (mn8_bd h.a0 h.a1 h0 h1).1, (mn8_bd h.a0 h.a1 h0 h1).2.1⟩
theorem scale_full (p : Px) : scaleP p 255 = p := Px.eq mn8_full mn8_full mn8_full mn8_full
theorem scale_zero (p : Px) : scaleP p 0 = Z0 := Px.eq (mn8_zero _) (mn8_zero _) (mn8_zero _) (mn8_zero _)

theorem sep_byte (mode : Int) (s d : Px) : (sepBlend mode s d).byte := ⟨(dn8_bd _).1, (dn8_bd _).2, (dn8_bd _).1, (dn8_bd _).2, (dn8_bd _).1, (dn8_bd _).2, (dn8_bd _).1, (dn8_bd _).2⟩
theorem blend_byte (mode : Int) {s d : Px} (hs : s.byte) (hd : d.byte) : (blendP mode s d).byte := by
  cases hm : validModeB mode with
  | true => exact (blend_ok hm hs hd).1.byte
  | false => rw [blend_invalid hm]; exact hd
theorem bwc_byte (mode : Int) {s d : Px} (hs : s.byte) (hd : d.byte) {k : Int} (h0 : 0 ≤ k) (h1 : k ≤ 255) : (bwcP mode s d k).byte := blend_byte mode (scale_byte hs h0 h1) hd
theorem all_byte (mode : Int) : ∀ (l : List Px) {d : Px}, d.byte → (∀ p ∈ l, p.byte) → (blendAllP mode d l).byte
  | [], d, hd, _ => hd
  | p :: l, d, hd, hl => all_byte mode l (bwc_byte mode (hl p (by simp)) hd (by omega) (by omega)) (fun q hq => hl q (by simp [hq]))
theorem all_snoc (mode : Int) (d : Px) (l : List Px) (p : Px) : blendAllP mode d (l ++ [p]) = bwcP mode p (blendAllP mode d l) 255 := by
  unfold blendAllP; rw [List.foldl_append]; rfl
theorem compose_byte (op : Int) (s d : Px) : (composeP op s d).byte := ⟨(dn8_bd _).1, (dn8_bd _).2, (dn8_bd _).1, (dn8_bd _).2, (dn8_bd _).1, (dn8_bd _).2, (dn8_bd _).1, (dn8_bd _).2⟩

theorem one_le {a b a' b' m n : Int} (h0 : a ≤ a') (h1 : b ≤ b') (hm : 0 ≤ m) (hn : 0 ≤ n) : oneP a b m n ≤ oneP a' b' m n := by
  have e1 : a * m ≤ a' * m := Int.mul_le_mul_of_nonneg_right h0 hm
  have e2 : b * n ≤ b' * n := Int.mul_le_mul_of_nonneg_right h1 hn
  exact dn8_mono (by omega)
theorem compose_ok (op : Int) {s d : Px} (hs : s.byte) (hd : d.byte) : (composeP op s d).ok := by
  have hx := clamp_ok hs
  have hy := clamp_ok hd
  obtain ⟨⟨f0, _⟩, ⟨f1, _⟩⟩ := fac_bd (op := op) hx.a0 hx.a1 hy.a0 hy.a1
  exact ⟨(dn8_bd _).1, one_le hx.r1 hy.r1 f0 f1, (dn8_bd _).1, one_le hx.g1 hy.g1 f0 f1, (dn8_bd _).1, one_le hx.b1 hy.b1 f0 f1, (dn8_bd _).1, (dn8_bd _).2⟩
theorem one_fst {a : Int} (b : Int) (h0 : 0 ≤ a) (h1 : a ≤ 255) : oneP a b 255 0 = a := by
  unfold oneP; rw [show a * 255 + b * 0 = 255 * a by omega]; exact dn8_full a h0 h1
theorem one_snd (a : Int) {b : Int} (h0 : 0 ≤ b) (h1 : b ≤ 255) : oneP a b 0 255 = b := by
  unfold oneP; rw [show a * 0 + b * 255 = 255 * b by omega]; exact dn8_full b h0 h1
theorem one_none (a b : Int) : oneP a b 0 0 = 0 := by unfold oneP; simp; rfl
theorem mix_fst {a : Px} (b : Px) (h : a.byte) : mixP a b (255, 0) = a := Px.eq (one_fst _ h.r0 h.r1) (one_fst _ h.g0 h.g1) (one_fst _ h.b0 h.b1) (one_fst _ h.a0 h.a1)
theorem mix_snd (a : Px) {b : Px} (h : b.byte) : mixP a b (0, 255) = b := Px.eq (one_snd _ h.r0 h.r1) (one_snd _ h.g0 h.g1) (one_snd _ h.b0 h.b1) (one_snd _ h.a0 h.a1)
theorem mix_none (a b : Px) : mixP a b (0, 0) = Z0 := Px.eq (one_none _ _) (one_none _ _) (one_none _ _) (one_none _ _)
theorem one_comm (a b m n : Int) : oneP a b m n = oneP b a n m := by unfold oneP; rw [Int.add_comm]
theorem mix_comm (a b : Px) (m n : Int) : mixP a b (m, n) = mixP b a (n, m) := Px.eq (one_comm _ _ _ _) (one_comm _ _ _ _) (one_comm _ _ _ _) (one_comm _ _ _ _)

theorem compose_invalid {op : Int} (h : validOpB op = false) {s d : Px} (hs : s.byte) (hd : d.byte) : composeP op s d = clampP d := by
  unfold composeP facP
  simp only [validOpB, Bool.and_eq_false_iff, decide_eq_false_iff_not] at h
  rw [if_neg (by omega), if_neg (by omega), if_neg (by omega), if_neg (by omega), if_neg (by omega), if_neg (by omega), if_neg (by omega), if_neg (by omega), if_neg (by omega), if_neg (by omega)]
  exact mix_snd _ (clamp_ok hd).byte
theorem over_normal {s d : Px} (hs : s.byte) (hd : d.byte) : composeP 3 s d = bwcP 1 s d 255 := by
  unfold bwcP
  rw [scale_full]
  unfold blendP
  rw [if_pos (by decide), if_pos (by decide)]
  unfold composeP
  have hf : facP 3 (clampP s).a (clampP d).a = (255, 255 - (clampP s).a) := by simp [facP]
  rw [hf]
  have key : ∀ x xa y ya : Int, oneP x y 255 (255 - xa) = chanP 1 x xa y ya := fun x xa y ya => by
    unfold oneP chanP
    have ht : trm 1 x xa y ya = x * ya := by simp [trm]
    rw [ht]
    congr 1
    have : x * (255 - ya) = 255 * x - x * ya := by rw [Int.mul_sub]; omega
    omega
  have keya : ∀ xa ya : Int, oneP xa ya 255 (255 - xa) = alphaP xa ya := fun xa ya => by
    unfold oneP alphaP
    congr 1
    have : xa * (255 - ya) = 255 * xa - xa * ya := by rw [Int.mul_sub]; omega
    omega
  exact Px.eq (key _ _ _ _) (key _ _ _ _) (key _ _ _ _) (keya _ _)
theorem bwc_zero {mode : Int} (hm : validModeB mode = true) (s : Px) {d : Px} (hd : d.byte) : bwcP mode s d 0 = clampP d := by
  unfold bwcP; rw [scale_zero]; exact blend_zero_l hm hd
theorem bwc_invalid {mode : Int} (hm : validModeB mode = false) (s d : Px) (k : Int) : bwcP mode s d k = d := blend_invalid hm _ _
theorem all_invalid {mode : Int} (hm : validModeB mode = false) (d : Px) (l : List Px) : blendAllP mode d l = d := by
  induction l with
  | nil => rfl
  | cons p l ih => unfold blendAllP at *; rw [List.foldl_cons, bwc_invalid hm]; exact ih

section
variable {s d : Px}
theorem comp_clear (s d : Px) : composeP 1 s d = Z0 := by unfold composeP; exact mix_none _ _
theorem comp_source (hs : s.byte) : composeP 2 s d = clampP s := by
  unfold composeP; rw [show facP 2 (clampP s).a (clampP d).a = (255, 0) by simp [facP]]; exact mix_fst _ (clamp_ok hs).byte
theorem comp_destin (s d : Px) : composeP 9 s d = composeP 4 d s := by
  unfold composeP; rw [show facP 9 (clampP s).a (clampP d).a = (0, (clampP s).a) by simp [facP], show facP 4 (clampP d).a (clampP s).a = ((clampP s).a, 0) by simp [facP]]; exact mix_comm _ _ _ _
theorem comp_destout (s d : Px) : composeP 10 s d = composeP 5 d s := by
  unfold composeP; rw [show facP 10 (clampP s).a (clampP d).a = (0, 255 - (clampP s).a) by simp [facP], show facP 5 (clampP d).a (clampP s).a = (255 - (clampP s).a, 0) by simp [facP]]; exact mix_comm _ _ _ _
theorem comp_xor (s d : Px) : composeP 7 s d = composeP 7 d s := by
  unfold composeP; rw [show facP 7 (clampP s).a (clampP d).a = (255 - (clampP d).a, 255 - (clampP s).a) by simp [facP], show facP 7 (clampP d).a (clampP s).a = (255 - (clampP s).a, 255 - (clampP d).a) by simp [facP]]; exact mix_comm _ _ _ _
theorem comp_plus (s d : Px) : composeP 8 s d = composeP 8 d s := by
  unfold composeP; rw [show facP 8 (clampP s).a (clampP d).a = (255, 255) by simp [facP], show facP 8 (clampP d).a (clampP s).a = (255, 255) by simp [facP]]; exact mix_comm _ _ _ _
theorem plus_ge {a b : Int} (h0 : 0 ≤ a) (h1 : a ≤ 255) (h2 : 0 ≤ b) (h3 : b ≤ 255) : a ≤ oneP a b 255 255 ∧ b ≤ oneP a b 255 255 := by
  have e1 : dn8 (255 * a) ≤ oneP a b 255 255 := dn8_mono (by omega)
  have e2 : dn8 (255 * b) ≤ oneP a b 255 255 := dn8_mono (by omega)
  rw [dn8_full a h0 h1] at e1
  rw [dn8_full b h2 h3] at e2
  exact ⟨e1, e2⟩
theorem comp_plus_ge (hs : s.byte) (hd : d.byte) : s.a ≤ (composeP 8 s d).a ∧ d.a ≤ (composeP 8 s d).a ∧ (clampP s).r ≤ (composeP 8 s d).r ∧ (clampP d).r ≤ (composeP 8 s d).r := by
  have hx := (clamp_ok hs).byte
  have hy := (clamp_ok hd).byte
  unfold composeP
  rw [show facP 8 (clampP s).a (clampP d).a = (255, 255) by simp [facP]]
  have h1 := plus_ge hx.a0 hx.a1 hy.a0 hy.a1
  have h2 := plus_ge hx.r0 hx.r1 hy.r0 hy.r1
  exact ⟨h1.1, h1.2, h2.1, h2.2⟩
theorem in_out {a b : Int} (h0 : 0 ≤ a) (h1 : a ≤ 255) (h2 : 0 ≤ b) (h3 : b ≤ 255) (c : Int) : oneP a c b 0 ≤ a ∧ oneP a c (255 - b) 0 ≤ a ∧ a - oneP a c b 0 - oneP a c (255 - b) 0 ≤ 1 ∧ -1 ≤ a - oneP a c b 0 - oneP a c (255 - b) 0 := by
  have m := mul_byte h0 h1 h2 h3
  have e : a * (255 - b) = 255 * a - a * b := by rw [Int.mul_sub]; omega
  unfold oneP
  rw [Int.mul_zero, Int.add_zero, Int.add_zero, e, dn8_in (by omega) (by omega), dn8_in (by omega) (by omega)]
  omega
theorem comp_in_out (hs : s.byte) (hd : d.byte) : (composeP 4 s d).a ≤ s.a ∧ (composeP 5 s d).a ≤ s.a ∧ s.a - (composeP 4 s d).a - (composeP 5 s d).a ≤ 1 ∧ -1 ≤ s.a - (composeP 4 s d).a - (composeP 5 s d).a := by
  have hx := (clamp_ok hs).byte
  have hy := (clamp_ok hd).byte
  unfold composeP
  rw [show facP 4 (clampP s).a (clampP d).a = ((clampP d).a, 0) by simp [facP], show facP 5 (clampP s).a (clampP d).a = (255 - (clampP d).a, 0) by simp [facP]]
  exact in_out hx.a0 hx.a1 hy.a0 hy.a1 _
theorem comp_opaque_dst (hs : s.byte) (ho : d.a = 255) : composeP 4 s d = clampP s ∧ composeP 5 s d = Z0 ∧ composeP 6 s d = composeP 3 s d := by
  have e : (clampP d).a = 255 := ho
  have hx := (clamp_ok hs).byte
  unfold composeP
  rw [e, show facP 4 (clampP s).a 255 = (255, 0) by simp [facP], show facP 5 (clampP s).a 255 = (0, 0) by simp [facP], show facP 6 (clampP s).a 255 = (255, 255 - (clampP s).a) by simp [facP], show facP 3 (clampP s).a 255 = (255, 255 - (clampP s).a) by simp [facP]]
  exact ⟨mix_fst _ hx, mix_none _ _, rfl⟩
theorem comp_opaque_src (hs : s.byte) (ho : s.a = 255) : composeP 3 s d = clampP s := by
  have e : (clampP s).a = 255 := ho
  have hx := (clamp_ok hs).byte
  unfold composeP
  rw [e, show facP 3 255 (clampP d).a = (255, 0) by simp [facP]]
  exact mix_fst _ hx
end
end Go.Proofs.Ytnefnnhnjmmebaa
