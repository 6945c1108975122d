/-
  Compositing in plain Lean, with its laws. No program here.
-/
import Derived.Test.YtnefnnhnjmmebaaBlendQ
namespace Go.Proofs.Ytnefnnhnjmmebaa
set_option linter.unusedVariables false

/-- The factors of a compositing operator. -/
def facP (op sa da : Int) : Int × Int :=
  if op = 1 then (0, 0) else if op = 2 then (255, 0) else if op = 3 then (255, 255 - sa) else if op = 4 then (da, 0) else if op = 5 then (255 - da, 0) else
  if op = 6 then (da, 255 - sa) else if op = 7 then (255 - da, 255 - sa) else if op = 8 then (255, 255) else if op = 9 then (0, sa) else if op = 10 then (0, 255 - sa) else (0, 255)
def validOpB (op : Int) : Bool := decide (1 ≤ op) && decide (op ≤ 10)
def oneP (a b m n : Int) : Int := dn8 (a * m + b * n)
def mixP (a b : Px) (f : Int × Int) : Px := ⟨oneP a.r b.r f.1 f.2, oneP a.g b.g f.1 f.2, oneP a.b b.b f.1 f.2, oneP a.a b.a f.1 f.2⟩
def composeP (op : Int) (s d : Px) : Px := mixP (clampP s) (clampP d) (facP op (clampP s).a (clampP d).a)
def mn8 (a b : Int) : Int := rndP (a * b) 255
def scaleP (p : Px) (k : Int) : Px := ⟨mn8 p.r k, mn8 p.g k, mn8 p.b k, mn8 p.a k⟩
def bwcP (mode : Int) (s d : Px) (k : Int) : Px := blendP mode (scaleP s k) d
def blendAllP (mode : Int) (d : Px) (l : List Px) : Px := l.foldl (fun d s => bwcP mode s d 255) d

theorem fac_bd {op sa da : Int} (h0 : 0 ≤ sa) (h1 : sa ≤ 255) (h2 : 0 ≤ da) (h3 : da ≤ 255) : (0 ≤ (facP op sa da).1 ∧ (facP op sa da).1 ≤ 255) ∧ (0 ≤ (facP op sa da).2 ∧ (facP op sa da).2 ≤ 255) := by
  unfold facP
  repeat' split
  all_goals (simp only; omega)
theorem mn8_bd {a b : Int} (h0 : 0 ≤ a) (h1 : a ≤ 255) (h2 : 0 ≤ b) (h3 : b ≤ 255) : 0 ≤ mn8 a b ∧ mn8 a b ≤ 255 ∧ mn8 a b ≤ a := by
  have := mul_byte h0 h1 h2 h3
  unfold mn8 rndP; omega
theorem mn8_full {a : Int} : mn8 a 255 = a := by unfold mn8 rndP; omega
theorem mn8_zero (a : Int) : mn8 a 0 = 0 := by unfold mn8 rndP; simp
theorem scale_byte {p : Px} (h : p.byte) {k : Int} (h0 : 0 ≤ k) (h1 : k ≤ 255) : (scaleP p k).byte :=
  ⟨(mn8_bd h.r0 h.r1 h0 h1).1, (mn8_bd h.r0 h.r1 h0 h1).2.1, (mn8_bd h.g0 h.g1 h0 h1).1, (mn8_bd h.g0 h.g1 h0 h1).2.1, (mn8_bd h.b0 h.b1 h0 h1).1, (mn8_bd h.b0 h.b1 h0 h1).2.1, (mn8_bd h.a0 h.a1 h0 h1).1, (mn8_bd h.a0 h.a1 h0 h1).2.1⟩
theorem scale_full (p : Px) : scaleP p 255 = p := Px.eq mn8_full mn8_full mn8_full mn8_full
theorem scale_zero (p : Px) : scaleP p 0 = Z0 := Px.eq (mn8_zero _) (mn8_zero _) (mn8_zero _) (mn8_zero _)

theorem sep_byte (mode : Int) (s d : Px) : (sepBlend mode s d).byte := ⟨(dn8_bd _).1, (dn8_bd _).2, (dn8_bd _).1, (dn8_bd _).2, (dn8_bd _).1, (dn8_bd _).2, (dn8_bd _).1, (dn8_bd _).2⟩
theorem blend_byte (mode : Int) {s d : Px} (hs : s.byte) (hd : d.byte) : (blendP mode s d).byte := by
  cases hm : validModeB mode with
  | true => exact (blend_ok hm hs hd).1.byte
  | false => rw [blend_invalid hm]; exact hd
theorem bwc_byte (mode : Int) {s d : Px} (hs : s.byte) (hd : d.byte) {k : Int} (h0 : 0 ≤ k) (h1 : k ≤ 255) : (bwcP mode s d k).byte := blend_byte mode (scale_byte hs h0 h1) hd
theorem all_byte (mode : Int) : ∀ (l : List Px) {d : Px}, d.byte → (∀ p ∈ l, p.byte) → (blendAllP mode d l).byte
  | [], d, hd, _ => hd
  | p :: l, d, hd, hl => all_byte mode l (bwc_byte mode (hl p (by simp)) hd (by omega) (by omega)) (fun q hq => hl q (by simp [hq]))
theorem all_snoc (mode : Int) (d : Px) (l : List Px) (p : Px) : blendAllP mode d (l ++ [p]) = bwcP mode p (blendAllP mode d l) 255 := by
  unfold blendAllP; rw [List.foldl_append]; rfl
theorem compose_byte (op : Int) (s d : Px) : (composeP op s d).byte := ⟨(dn8_bd _).1, (dn8_bd _).2, (dn8_bd _).1, (dn8_bd _).2, (dn8_bd _).1, (dn8_bd _).2, (dn8_bd _).1, (dn8_bd _).2⟩

theorem one_le {a b a' b' m n : Int} (h0 : a ≤ a') (h1 : b ≤ b') (hm : 0 ≤ m) (hn : 0 ≤ n) : oneP a b m n ≤ oneP a' b' m n := by
  have e1 : a * m ≤ a' * m := Int.mul_le_mul_of_nonneg_right h0 hm
  have e2 : b * n ≤ b' * n := Int.mul_le_mul_of_nonneg_right h1 hn
  exact dn8_mono (by omega)
theorem compose_ok (op : Int) {s d : Px} (hs : s.byte) (hd : d.byte) : (composeP op s d).ok := by
  have hx := clamp_ok hs
  have hy := clamp_ok hd
  obtain ⟨⟨f0, _⟩, ⟨f1, _⟩⟩ := fac_bd (op := op) hx.a0 hx.a1 hy.a0 hy.a1
  exact ⟨(dn8_bd _).1, one_le hx.r1 hy.r1 f0 f1, (dn8_bd _).1, one_le hx.g1 hy.g1 f0 f1, (dn8_bd _).1, one_le hx.b1 hy.b1 f0 f1, (dn8_bd _).1, (dn8_bd _).2⟩
theorem one_fst {a : Int} (b : Int) (h0 : 0 ≤ a) (h1 : a ≤ 255) : oneP a b 255 0 = a := by
  unfold oneP; rw [show a * 255 + b * 0 = 255 * a by omega]; exact dn8_full a h0 h1
theorem one_snd (a : Int) {b : Int} (h0 : 0 ≤ b) (h1 : b ≤ 255) : oneP a b 0 255 = b := by
  unfold oneP; rw [show a * 0 + b * 255 = 255 * b by omega]; exact dn8_full b h0 h1
theorem one_none (a b : Int) : oneP a b 0 0 = 0 := by unfold oneP; simp; rfl
theorem mix_fst {a : Px} (b : Px) (h : a.byte) : mixP a b (255, 0) = a := Px.eq (one_fst _ h.r0 h.r1) (one_fst _ h.g0 h.g1) (one_fst _ h.b0 h.b1) (one_fst _ h.a0 h.a1)
theorem mix_snd (a : Px) {b : Px} (h : b.byte) : mixP a b (0, 255) = b := Px.eq (one_snd _ h.r0 h.r1) (one_snd _ h.g0 h.g1) (one_snd _ h.b0 h.b1) (one_snd _ h.a0 h.a1)
theorem mix_none (a b : Px) : mixP a b (0, 0) = Z0 := Px.eq (one_none _ _) (one_none _ _) (one_none _ _) (one_none _ _)
theorem one_comm (a b m n : Int) : oneP a b m n = oneP b a n m := by unfold oneP; rw [Int.add_comm]
theorem mix_comm (a b : Px) (m n : Int) : mixP a b (m, n) = mixP b a (n, m) := Px.eq (one_comm _ _ _ _) (one_comm _ _ _ _) (one_comm _ _ _ _) (one_comm _ _ _ _)

theorem compose_invalid {op : Int} (h : validOpB op = false) {s d : Px} (hs : s.byte) (hd : d.byte) : composeP op s d = clampP d := by
  unfold composeP facP
  simp only [validOpB, Bool.and_eq_false_iff, decide_eq_false_iff_not] at h
  rw [if_neg (by omega), if_neg (by omega), if_neg (by omega), if_neg (by omega), if_neg (by omega), if_neg (by omega), if_neg (by omega), if_neg (by omega), if_neg (by omega), if_neg (by omega)]
  exact mix_snd _ (clamp_ok hd).byte
theorem over_normal {s d : Px} (hs : s.byte) (hd : d.byte) : composeP 3 s d = bwcP 1 s d 255 := by
  unfold bwcP
  rw [scale_full]
  unfold blendP
  rw [if_pos (by decide), if_pos (by decide)]
  unfold composeP
  have hf : facP 3 (clampP s).a (clampP d).a = (255, 255 - (clampP s).a) := by simp [facP]
  rw [hf]
  have key : ∀ x xa y ya : Int, oneP x y 255 (255 - xa) = chanP 1 x xa y ya := fun x xa y ya => by
    unfold oneP chanP
    have ht : trm 1 x xa y ya = x * ya := by simp [trm]
    rw [ht]
    congr 1
    have : x * (255 - ya) = 255 * x - x * ya := by rw [Int.mul_sub]; omega
    omega
  have keya : ∀ xa ya : Int, oneP xa ya 255 (255 - xa) = alphaP xa ya := fun xa ya => by
    unfold oneP alphaP
    congr 1
    have : xa * (255 - ya) = 255 * xa - xa * ya := by rw [Int.mul_sub]; omega
    omega
  exact Px.eq (key _ _ _ _) (key _ _ _ _) (key _ _ _ _) (keya _ _)
theorem bwc_zero {mode : Int} (hm : validModeB mode = true) (s : Px) {d : Px} (hd : d.byte) : bwcP mode s d 0 = clampP d := by
  unfold bwcP; rw [scale_zero]; exact blend_zero_l hm hd
theorem bwc_invalid {mode : Int} (hm : validModeB mode = false) (s d : Px) (k : Int) : bwcP mode s d k = d := blend_invalid hm _ _
theorem all_invalid {mode : Int} (hm : validModeB mode = false) (d : Px) (l : List Px) : blendAllP mode d l = d := by
  induction l with
  | nil => rfl
  | cons p l ih => unfold blendAllP at *; rw [List.foldl_cons, bwc_invalid hm]; exact ih

section
variable {s d : Px}
theorem comp_clear (s d : Px) : composeP 1 s d = Z0 := by unfold composeP; exact mix_none _ _
theorem comp_source (hs : s.byte) : composeP 2 s d = clampP s := by
  unfold composeP; rw [show facP 2 (clampP s).a (clampP d).a = (255, 0) by simp [facP]]; exact mix_fst _ (clamp_ok hs).byte
theorem comp_destin (s d : Px) : composeP 9 s d = composeP 4 d s := by
  unfold composeP; rw [show facP 9 (clampP s).a (clampP d).a = (0, (clampP s).a) by simp [facP], show facP 4 (clampP d).a (clampP s).a = ((clampP s).a, 0) by simp [facP]]; exact mix_comm _ _ _ _
theorem comp_destout (s d : Px) : composeP 10 s d = composeP 5 d s := by
  unfold composeP; rw [show facP 10 (clampP s).a (clampP d).a = (0, 255 - (clampP s).a) by simp [facP], show facP 5 (clampP d).a (clampP s).a = (255 - (clampP s).a, 0) by simp [facP]]; exact mix_comm _ _ _ _
theorem comp_xor (s d : Px) : composeP 7 s d = composeP 7 d s := by
  unfold composeP; rw [show facP 7 (clampP s).a (clampP d).a = (255 - (clampP d).a, 255 - (clampP s).a) by simp [facP], show facP 7 (clampP d).a (clampP s).a = (255 - (clampP s).a, 255 - (clampP d).a) by simp [facP]]; exact mix_comm _ _ _ _
theorem comp_plus (s d : Px) : composeP 8 s d = composeP 8 d s := by
  unfold composeP; rw [show facP 8 (clampP s).a (clampP d).a = (255, 255) by simp [facP], show facP 8 (clampP d).a (clampP s).a = (255, 255) by simp [facP]]; exact mix_comm _ _ _ _
theorem plus_ge {a b : Int} (h0 : 0 ≤ a) (h1 : a ≤ 255) (h2 : 0 ≤ b) (h3 : b ≤ 255) : a ≤ oneP a b 255 255 ∧ b ≤ oneP a b 255 255 := by
  have e1 : dn8 (255 * a) ≤ oneP a b 255 255 := dn8_mono (by omega)
  have e2 : dn8 (255 * b) ≤ oneP a b 255 255 := dn8_mono (by omega)
  rw [dn8_full a h0 h1] at e1
  rw [dn8_full b h2 h3] at e2
  exact ⟨e1, e2⟩
theorem comp_plus_ge (hs : s.byte) (hd : d.byte) : s.a ≤ (composeP 8 s d).a ∧ d.a ≤ (composeP 8 s d).a ∧ (clampP s).r ≤ (composeP 8 s d).r ∧ (clampP d).r ≤ (composeP 8 s d).r := by
  have hx := (clamp_ok hs).byte
  have hy := (clamp_ok hd).byte
  unfold composeP
  rw [show facP 8 (clampP s).a (clampP d).a = (255, 255) by simp [facP]]
  have h1 := plus_ge hx.a0 hx.a1 hy.a0 hy.a1
  have h2 := plus_ge hx.r0 hx.r1 hy.r0 hy.r1
  exact ⟨h1.1, h1.2, h2.1, h2.2⟩
theorem in_out {a b : Int} (h0 : 0 ≤ a) (h1 : a ≤ 255) (h2 : 0 ≤ b) (h3 : b ≤ 255) (c : Int) : oneP a c b 0 ≤ a ∧ oneP a c (255 - b) 0 ≤ a ∧ a - oneP a c b 0 - oneP a c (255 - b) 0 ≤ 1 ∧ -1 ≤ a - oneP a c b 0 - oneP a c (255 - b) 0 := by
  have m := mul_byte h0 h1 h2 h3
  have e : a * (255 - b) = 255 * a - a * b := by rw [Int.mul_sub]; omega
  unfold oneP
  rw [Int.mul_zero, Int.add_zero, Int.add_zero, e, dn8_in (by omega) (by omega), dn8_in (by omega) (by omega)]
  omega
theorem comp_in_out (hs : s.byte) (hd : d.byte) : (composeP 4 s d).a ≤ s.a ∧ (composeP 5 s d).a ≤ s.a ∧ s.a - (composeP 4 s d).a - (composeP 5 s d).a ≤ 1 ∧ -1 ≤ s.a - (composeP 4 s d).a - (composeP 5 s d).a := by
  have hx := (clamp_ok hs).byte
  have hy := (clamp_ok hd).byte
  unfold composeP
  rw [show facP 4 (clampP s).a (clampP d).a = ((clampP d).a, 0) by simp [facP], show facP 5 (clampP s).a (clampP d).a = (255 - (clampP d).a, 0) by simp [facP]]
  exact in_out hx.a0 hx.a1 hy.a0 hy.a1 _
theorem comp_opaque_dst (hs : s.byte) (ho : d.a = 255) : composeP 4 s d = clampP s ∧ composeP 5 s d = Z0 ∧ composeP 6 s d = composeP 3 s d := by
  have e : (clampP d).a = 255 := ho
  have hx := (clamp_ok hs).byte
  unfold composeP
  rw [e, show facP 4 (clampP s).a 255 = (255, 0) by simp [facP], show facP 5 (clampP s).a 255 = (0, 0) by simp [facP], show facP 6 (clampP s).a 255 = (255, 255 - (clampP s).a) by simp [facP], show facP 3 (clampP s).a 255 = (255, 255 - (clampP s).a) by simp [facP]]
  exact ⟨mix_fst _ hx, mix_none _ _, rfl⟩
theorem comp_opaque_src (hs : s.byte) (ho : s.a = 255) : composeP 3 s d = clampP s := by
  have e : (clampP s).a = 255 := ho
  have hx := (clamp_ok hs).byte
  unfold composeP
  rw [e, show facP 3 255 (clampP d).a = (255, 0) by simp [facP]]
  exact mix_fst _ hx
end
end Go.Proofs.Ytnefnnhnjmmebaa
