/-
  Slices of rectangles: what it means that one reads as a list, and the walk of grisailleref09.Same.
-/
import Derived.Test.YtnefnnhnjmmebaaRcA
import Derived.Test.YtnefnnhnjmmebaaPlB
namespace Go.Proofs.Ytnefnnhnjmmebaa
open Go.RowKit
set_option linter.unusedSimpArgs false
set_option linter.unusedVariables false

/-- The cells of a rectangle. -/
def encR (r : Rc) : List Value := [.int .i64 r.x0, .int .i64 r.y0, .int .i64 r.x1, .int .i64 r.y1]
theorem encR_len (r : Rc) : (encR r).length = 4 := rfl
theorem encR_one (r : Rc) : ∀ u ∈ encR r, u.oneCell' = true := by intro u hu; simp [encR] at hu; rcases hu with rfl | rfl | rfl | rfl <;> rfl
theorem Try.infoRect : (Try.prog.info? 23).map (fun i => (i.zero, i.size, i.bytes)) = some (some (.agg #[.int .i64 0, .int .i64 0, .int .i64 0, .int .i64 0]), 4, 32) := by kernel_rfl

/-- The cells of element k. -/
theorem rd4 {w : World} {A : Option Addr} {l : List Rc} (h : RdL encR 4 w A l) {k : Nat} (hk : k < l.length) : ∃ g o, A = some ⟨g, o, none⟩ ∧ g < w.heap.size ∧
    w.cell? ⟨g, o + k * 4, none⟩ = some (.int .i64 (l[k]).x0) ∧ w.cell? ⟨g, o + k * 4 + 1, none⟩ = some (.int .i64 (l[k]).y0) ∧ w.cell? ⟨g, o + k * 4 + 2, none⟩ = some (.int .i64 (l[k]).x1) ∧ w.cell? ⟨g, o + k * 4 + 3, none⟩ = some (.int .i64 (l[k]).y1) := by
  obtain ⟨g, o, hA, hg, hc⟩ := h (by intro e; rw [e] at hk; simp at hk)
  exact ⟨g, o, hA, hg, hc k hk 0 _ rfl, hc k hk 1 _ rfl, hc k hk 2 _ rfl, hc k hk 3 _ rfl⟩

/-- Two lists of rectangles are the same. -/
def sameB : List Rc → List Rc → Bool
  | [], [] => true
  | p :: l, q :: m => eqB p q && sameB l m
  | _, _ => false
theorem sameB_iff : ∀ (l m : List Rc), sameB l m = true ↔ l = m
  | [], [] => by simp [sameB]
  | [], _ :: _ => by simp [sameB]
  | _ :: _, [] => by simp [sameB]
  | p :: l, q :: m => by simp [sameB, eqB_iff, sameB_iff l m]
theorem sameB_false {l m : List Rc} (h : l ≠ m) : sameB l m = false := by
  cases hs : sameB l m with
  | false => rfl
  | true => exact absurd ((sameB_iff l m).1 hs) h

/-- '!=' on two rectangles. -/
theorem neq_rect (p0 p1 p2 p3 q0 q1 q2 q3 : Int) (w : World) : (binOp .neq 23 (.agg #[.int .i64 p0, .int .i64 p1, .int .i64 p2, .int .i64 p3]) (.agg #[.int .i64 q0, .int .i64 q1, .int .i64 q2, .int .i64 q3])).run Try.prog w = .ok (.bool (!eqB ⟨p0, p1, p2, p3⟩ ⟨q0, q1, q2, q3⟩)) w := by
  have u3 := Try.underlying3
  have a3 := Try.isAgg3
  have z3 := Try.sizeOf3
  have hS : Try.prog.underlying 23 = some (.struct (Try.prog.fieldsOf 23)) := by kernel_rfl
  have hp : Try.prog.stoodInHeld 23 = false := by kernel_rfl
  rw [run_neq_struct, show (10000 : Nat) = 9999 + 1 from rfl, run_equalIn_agg w 9999 23 _ _ hS hp]
  simp only [Program.fieldsOf, Try.underlying23]
  go_simp
  unfold eqB
  by_cases h0 : p0 = q0 <;> by_cases h1 : p1 = q1 <;> by_cases h2 : p2 = q2 <;> by_cases h3 : p3 = q3 <;> simp [h0, h1, h2, h3]

end Go.Proofs.Ytnefnnhnjmmebaa
