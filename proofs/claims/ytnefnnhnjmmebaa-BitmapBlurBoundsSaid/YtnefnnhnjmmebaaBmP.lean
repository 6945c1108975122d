/-
  Bitmaps in plain Lean.
-/
import Derived.Test.YtnefnnhnjmmebaaRectP
import Derived.Test.YtnefnnhnjmmebaaBlendP
import Derived.Test.YtnefnnhnjmmebaaMadeP
namespace Go.Proofs.Ytnefnnhnjmmebaa

def pvB (p : Px) : Bool := decide (p.r ≤ p.a ∧ p.g ≤ p.a ∧ p.b ≤ p.a)
/-- The index of the first pixel that is not valid, -1 if there is none. -/
def idxV (l : List Px) : Int := match l.findIdx? (fun p => !pvB p) with | some i => (i : Int) | none => -1
def bmValid (r : Rc) (l : List Px) : Bool := eqB (canonR r) r && decide (areaR r ≤ 65536) && decide ((l.length : Int) = areaR r) && l.all pvB
theorem idxV_any (l : List Px) : decide (0 ≤ idxV l) = !(l.all pvB) := by
  unfold idxV
  cases h : l.findIdx? (fun p => !pvB p) with
  | none =>
    rw [List.findIdx?_eq_none_iff] at h
    have : l.all pvB = true := List.all_eq_true.2 (fun p hp => by have := h p hp; simpa using this)
    rw [this]; rfl
  | some i =>
    obtain ⟨hi, hp, _⟩ := List.findIdx?_eq_some_iff_getElem.1 h
    have : l.all pvB = false := List.all_eq_false.2 ⟨l[i], List.getElem_mem hi, by simpa using hp⟩
    rw [this]
    simp
theorem pvB_clamp (p : Px) (h : p.byte) : pvB (clampP p) = true := by
  have := clamp_ok h
  unfold pvB; exact decide_eq_true ⟨this.r1, this.g1, this.b1⟩
theorem pix_len {α : Type} (g : Int → Int → α) (r : Rc) : ((pixL g (canonR r)).length : Int) = areaR r := by
  have hb := canon_bd r
  unfold pixL areaR
  rw [madeL_len, Int.natCast_mul, Int.toNat_of_nonneg (by omega), Int.toNat_of_nonneg (by omega), Int.mul_comm]
theorem pix_mem {α : Type} {g : Int → Int → α} {r : Rc} {p : α} (h : p ∈ pixL g r) : ∃ x y, r.x0 ≤ x ∧ x < r.x1 ∧ r.y0 ≤ y ∧ y < r.y1 ∧ p = g x y := by
  unfold pixL madeL at h
  obtain ⟨j, hj, h2⟩ := List.mem_flatMap.1 h
  unfold rowL at h2
  obtain ⟨i, hi, rfl⟩ := List.mem_map.1 h2
  have hj' := List.mem_range.1 hj
  have hi' := List.mem_range.1 hi
  exact ⟨_, _, by omega, by omega, by omega, by omega, rfl⟩
theorem canon_canon (r : Rc) : canonR (canonR r) = canonR r := by
  unfold canonR
  by_cases h : emptyB r = true
  · rw [if_pos h]; rfl
  · rw [if_neg h, if_neg h]
theorem area_canon (r : Rc) : areaR (canonR r) = areaR r := by unfold areaR; rw [canon_canon]
/-- All pixels of one color. -/
theorem pix_const {α : Type} (p : α) (r : Rc) : pixL (fun _ _ => p) (canonR r) = List.replicate (areaR r).toNat p := by
  have h := pix_len (fun _ _ => p) r
  apply List.eq_replicate_iff.2
  refine ⟨by omega, fun q hq => ?_⟩
  obtain ⟨_, _, _, _, _, _, e⟩ := pix_mem hq
  exact e
end Go.Proofs.Ytnefnnhnjmmebaa
