/-
  One pixel in the middle of a bitmap: plain part of BitmapBlurCenter.
-/
import Derived.Test.YtnefnnhnjmmebaaEx30
import Derived.Test.YtnefnnhnjmmebaaBlur1
import Derived.Test.YtnefnnhnjmmebaaList4
namespace Go.Proofs.Ytnefnnhnjmmebaa
open Go.RowKit
set_option linter.unusedSimpArgs false
set_option linter.unusedVariables false

def zPx : Px := ⟨0, 0, 0, 0⟩
def ctrL (k : Nat) (v : Int) : List Px := (List.replicate ((2 * k + 3) * (2 * k + 3)) ⟨0, 0, 0, 0⟩).set ((2 * k + 3) * (2 * k + 3) / 2) ⟨v, v, v, v⟩
theorem ctr_get {k : Nat} (hk : k < 4) (v : Int) : ∀ i j, i < 2 * k + 3 → j < 2 * k + 3 → (ctrL k v).getD (j * (2 * k + 3) + i) ⟨0, 0, 0, 0⟩ = if i = k + 1 ∧ j = k + 1 then ⟨v, v, v, v⟩ else ⟨0, 0, 0, 0⟩ := fun i j hi hj => by
  unfold ctrL
  rw [List.getD_eq_getElem?_getD, List.getElem?_set, List.length_replicate]
  have hlt : j * (2 * k + 3) + i < (2 * k + 3) * (2 * k + 3) := by
    have h : (j + 1) * (2 * k + 3) ≤ (2 * k + 3) * (2 * k + 3) := Nat.mul_le_mul_right _ hj
    rw [Nat.succ_mul] at h; omega
  have hm : (2 * k + 3) * (2 * k + 3) / 2 = (k + 1) * (2 * k + 3) + (k + 1) := by
    have h4 : k = 0 ∨ k = 1 ∨ k = 2 ∨ k = 3 := by omega
    rcases h4 with rfl | rfl | rfl | rfl <;> rfl
  have hiff : (k + 1) * (2 * k + 3) + (k + 1) = j * (2 * k + 3) + i ↔ i = k + 1 ∧ j = k + 1 := by
    have h4 : k = 0 ∨ k = 1 ∨ k = 2 ∨ k = 3 := by omega
    rcases h4 with rfl | rfl | rfl | rfl <;> omega
  rw [hm]
  by_cases e : i = k + 1 ∧ j = k + 1
  · rw [if_pos (hiff.2 e), if_pos (by rw [hiff.2 e]; exact hlt), if_pos e]; rfl
  · rw [if_neg (fun h => e (hiff.1 h)), if_neg e, List.getElem?_replicate, if_pos hlt]; rfl
theorem ctr_len (k : Nat) (v : Int) : (ctrL k v).length = (2 * k + 3) * (2 * k + 3) := by unfold ctrL; simp
theorem ctr_mem {k : Nat} {v : Int} {p : Px} (h : p ∈ ctrL k v) : p = ⟨0, 0, 0, 0⟩ ∨ p = ⟨v, v, v, v⟩ := by
  unfold ctrL at h
  rcases List.mem_or_eq_of_mem_set h with h | h
  · exact .inl (List.eq_of_mem_replicate h)
  · exact .inr h
theorem ctr_bytes {k : Nat} {v : Int} (h0 : 0 ≤ v) (h1 : v ≤ 255) : pxsB (ctrL k v) := fun p hp => by
  rcases ctr_mem hp with rfl | rfl
  · exact ⟨by decide, by decide, by decide, by decide, by decide, by decide, by decide, by decide⟩
  · exact ⟨h0, h1, h0, h1, h0, h1, h0, h1⟩
def ctrR (k : Nat) : Rc := ⟨0, 0, ((2 * k + 3 : Nat) : Int), ((2 * k + 3 : Nat) : Int)⟩
theorem ctr_valid {k : Nat} (hk : k < 4) (v : Int) : bmValid (ctrR k) (ctrL k v) = true := by
  have hall : (ctrL k v).all pvB = true := List.all_eq_true.2 fun p hp => by
    rcases ctr_mem hp with rfl | rfl
    · rfl
    · unfold pvB; simp
  unfold bmValid
  rw [hall, ctr_len]
  have h4 : k = 0 ∨ k = 1 ∨ k = 2 ∨ k = 3 := by omega
  rcases h4 with rfl | rfl | rfl | rfl <;> rfl
/-- The blurred bitmap's pixel by its index. -/
def ctrP (k : Nat) (a : Int) (x y : Nat) : Px := if (0 < x ∧ x < 2 * k + 2) ∧ 0 < y ∧ y < 2 * k + 2 then ⟨a, a, a, a⟩ else ⟨0, 0, 0, 0⟩
theorem ctr_pix {k : Nat} (hk : k < 4) (v : Int) {i : Nat} (hi : i < (2 * k + 3) * (2 * k + 3)) : (pixL (blurG (ctrL k v) (ctrR k) k) (ctrR k))[i]? = some (ctrP k (rndP v (areaN k)) (i % (2 * k + 3)) (i / (2 * k + 3))) := by
  have hx : i % (2 * k + 3) < 2 * k + 3 := Nat.mod_lt _ (by omega)
  have hy : i / (2 * k + 3) < 2 * k + 3 := by rw [Nat.div_lt_iff_lt_mul (by omega)]; exact hi
  have h1 : i / (2 * k + 3) * (2 * k + 3) + i % (2 * k + 3) = i := by rw [Nat.mul_comm]; exact Nat.div_add_mod _ _
  have h2 := made_get (blurG (ctrL k v) (ctrR k) k) 0 0 hx hy
  rw [h1] at h2
  have e1 : pixL (blurG (ctrL k v) (ctrR k) k) (ctrR k) = madeL (blurG (ctrL k v) (ctrR k) k) 0 0 (2 * k + 3) (2 * k + 3) := by
    unfold pixL ctrR; simp only [Int.sub_zero, Int.toNat_natCast]
  rw [e1, h2]
  congr 1
  unfold blurG ctrR
  simp only [Int.sub_zero, Int.zero_add, Int.toNat_natCast]
  exact center_blur (ctr_get hk v) hx hy
theorem OwnL.store4P {e : TypeId} {w : World} {base g cap n : Nat} {l : List Px} (h : OwnL encP e 4 w base (.slice (some ⟨g, 0, none⟩) n cap) l) {i : Nat} (hi : i < l.length) (hn : n = l.length) (v : Px) :
    OwnL encP e 4 ((((w.setCell ⟨g, i * 4, none⟩ (.int .u8 v.r)).setCell ⟨g, i * 4 + 1, none⟩ (.int .u8 v.g)).setCell ⟨g, i * 4 + 2, none⟩ (.int .u8 v.b)).setCell ⟨g, i * 4 + 3, none⟩ (.int .u8 v.a)) base (.slice (some ⟨g, 0, none⟩) n cap) (l.set i v) := by
  have h1 := OwnL.storeAt encP_len h hi 0 (.int .u8 v.r) ⟨v.r, l[i].g, l[i].b, l[i].a⟩ (by decide) rfl hn
  have h2 := OwnL.storeAt encP_len h1 (i := i) (by simpa using hi) 1 (.int .u8 v.g) ⟨v.r, v.g, l[i].b, l[i].a⟩ (by decide) (by rw [List.getElem_set_self]; rfl) (by simpa using hn)
  have h3 := OwnL.storeAt encP_len h2 (i := i) (by simpa using hi) 2 (.int .u8 v.b) ⟨v.r, v.g, v.b, l[i].a⟩ (by decide) (by rw [List.getElem_set_self]; rfl) (by simpa using hn)
  have h4 := OwnL.storeAt encP_len h3 (i := i) (by simpa using hi) 3 (.int .u8 v.a) v (by decide) (by rw [List.getElem_set_self]; rfl) (by simpa using hn)
  simp only [List.set_set] at h4
  exact h4
end Go.Proofs.Ytnefnnhnjmmebaa
