/-
  Pixels: equality, slices of pixels.
-/
import Derived.Test.YtnefnnhnjmmebaaPlA
import Derived.Test.YtnefnnhnjmmebaaRows
import Derived.Test.YtnefnnhnjmmebaaPlB
import Derived.OpenShut
namespace Go.Proofs.Ytnefnnhnjmmebaa
open Go.RowKit
set_option linter.unusedSimpArgs false
set_option linter.unusedVariables false

/-- Pixels are compared by their components. -/
def eqP (p q : Px) : Bool := p.r == q.r && p.g == q.g && p.b == q.b && p.a == q.a
theorem eqP_iff (p q : Px) : eqP p q = true ↔ p = q := by
  unfold eqP
  simp only [Bool.and_eq_true, beq_iff_eq]
  exact ⟨fun h => Px.eq h.1.1.1 h.1.1.2 h.1.2 h.2, fun h => by subst h; simp⟩
theorem eqP_refl (p : Px) : eqP p p = true := (eqP_iff p p).2 rfl
theorem eql_px (p q : Px) (w : World) : (binOp .eql 25 (.agg #[.int .u8 p.r, .int .u8 p.g, .int .u8 p.b, .int .u8 p.a]) (.agg #[.int .u8 q.r, .int .u8 q.g, .int .u8 q.b, .int .u8 q.a])).run Try.prog w = .ok (.bool (eqP p q)) w := by
  have u3 := Try.underlying5
  have a3 := Try.isAgg5
  have z3 := Try.sizeOf5
  have hS : Try.prog.underlying 25 = some (.struct (Try.prog.fieldsOf 25)) := by kernel_rfl
  have hp : Try.prog.stoodInHeld 25 = false := by kernel_rfl
  rw [run_eql_struct, show (10000 : Nat) = 9999 + 1 from rfl, run_equalIn_agg w 9999 25 _ _ hS hp]
  simp only [Program.fieldsOf, Try.underlying25]
  go_simp
  unfold eqP
  by_cases h0 : p.r = q.r <;> by_cases h1 : p.g = q.g <;> by_cases h2 : p.b = q.b <;> by_cases h3 : p.a = q.a <;> simp [h0, h1, h2, h3]
theorem neq_px (p q : Px) (w : World) : (binOp .neq 25 (.agg #[.int .u8 p.r, .int .u8 p.g, .int .u8 p.b, .int .u8 p.a]) (.agg #[.int .u8 q.r, .int .u8 q.g, .int .u8 q.b, .int .u8 q.a])).run Try.prog w = .ok (.bool (!eqP p q)) w := by
  have u3 := Try.underlying5
  have a3 := Try.isAgg5
  have z3 := Try.sizeOf5
  have hS : Try.prog.underlying 25 = some (.struct (Try.prog.fieldsOf 25)) := by kernel_rfl
  have hp : Try.prog.stoodInHeld 25 = false := by kernel_rfl
  rw [run_neq_struct, show (10000 : Nat) = 9999 + 1 from rfl, run_equalIn_agg w 9999 25 _ _ hS hp]
  simp only [Program.fieldsOf, Try.underlying25]
  go_simp
  unfold eqP
  by_cases h0 : p.r = q.r <;> by_cases h1 : p.g = q.g <;> by_cases h2 : p.b = q.b <;> by_cases h3 : p.a = q.a <;> simp [h0, h1, h2, h3]

def encP (p : Px) : List Value := [.int .u8 p.r, .int .u8 p.g, .int .u8 p.b, .int .u8 p.a]
theorem encP_len (p : Px) : (encP p).length = 4 := rfl
theorem encP_one (p : Px) : ∀ u ∈ encP p, u.oneCell' = true := by intro u hu; simp [encP] at hu; rcases hu with rfl | rfl | rfl | rfl <;> rfl
theorem rdp {w : World} {A : Option Addr} {l : List Px} (h : RdL encP 4 w A l) {k : Nat} (hk : k < l.length) : ∃ g o, A = some ⟨g, o, none⟩ ∧ g < w.heap.size ∧
    w.cell? ⟨g, o + k * 4, none⟩ = some (.int .u8 (l[k]).r) ∧ w.cell? ⟨g, o + k * 4 + 1, none⟩ = some (.int .u8 (l[k]).g) ∧ w.cell? ⟨g, o + k * 4 + 2, none⟩ = some (.int .u8 (l[k]).b) ∧ w.cell? ⟨g, o + k * 4 + 3, none⟩ = some (.int .u8 (l[k]).a) := by
  obtain ⟨g, o, hA, hg, hc⟩ := h (by intro e; rw [e] at hk; simp at hk)
  exact ⟨g, o, hA, hg, hc k hk 0 _ rfl, hc k hk 1 _ rfl, hc k hk 2 _ rfl, hc k hk 3 _ rfl⟩
theorem px_byte {a b c d : Int} (ha : (Lit.int .u8 a).wf = true) (hb : (Lit.int .u8 b).wf = true) (hc : (Lit.int .u8 c).wf = true) (hd : (Lit.int .u8 d).wf = true) : Px.byte ⟨a, b, c, d⟩ :=
  ⟨(bounds_u8 ha).1, (bounds_u8 ha).2, (bounds_u8 hb).1, (bounds_u8 hb).2, (bounds_u8 hc).1, (bounds_u8 hc).2, (bounds_u8 hd).1, (bounds_u8 hd).2⟩
end Go.Proofs.Ytnefnnhnjmmebaa
