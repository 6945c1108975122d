/-
  The form of an owned slice, whole.
-/
import Derived.Test.YtnefnnhnjmmebaaList
namespace Go.Proofs.Ytnefnnhnjmmebaa
open Go.RowKit
theorem OwnL.form2 {α : Type} {enc : α → List Value} {size : Nat} {e : TypeId} (hk : ∀ x, (enc x).length = size) {w : World} {base : Nat} {v : Value} {l : List α} (h : OwnL enc e size w base v l) : ∃ A c, v = .slice A l.length c ∧ RdL enc size w A l ∧ l.length ≤ c ∧ c ≤ maxLen := by
  rcases h.2 with ⟨rfl, hn⟩ | ⟨g, cap, cur, rfl, hb, hg, hnc, hm, hs, ht⟩
  · exact ⟨none, 0, by rw [hn], fun hne => absurd (List.eq_nil_of_length_eq_zero hn) hne, by omega, by unfold maxLen; omega⟩
  · obtain ⟨A, c, hv, hr, hc⟩ := h.form hk
    injection hv with h1 h2 h3
    subst h1 h3
    exact ⟨_, _, rfl, hr, hc, hm⟩
end Go.Proofs.Ytnefnnhnjmmebaa
