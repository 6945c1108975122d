/-
  Masks among the arguments of a law.
-/
import Derived.Test.YtndablijjkchjaaOpenC
import Derived.Test.YtndablijjkchjaaMkP
namespace Go.Proofs.Ytndablijjkchjaa
open Go.ChangeShapes Go.WideShapes Go.ChangeAt Go.RowKit Go.Deep
set_option linter.unusedSimpArgs false
set_option linter.unusedVariables false

section
variable {H : Type} {enc : TypeId × Value → H} {P : Program} {w : World} {base b0 : Nat} {spare : Nat → Bool} {held : Bool} {r : Reach}

/-- A mask: its rectangle, its slice, and what the slice reads as. -/
structure Mk where
  r : Rc
  A : Option Addr
  n : Nat
  c : Nat
  l : List Int
instance : Inhabited Mk := ⟨⟨⟨0, 0, 0, 0⟩, none, 0, 0, []⟩⟩
def encMk (b : Mk) : List Value := [.int .i64 b.r.x0, .int .i64 b.r.y0, .int .i64 b.r.x1, .int .i64 b.r.y1, .slice b.A b.n b.c]
theorem encMk_len (b : Mk) : (encMk b).length = 5 := rfl
structure Mk.ok (b : Mk) (w : World) : Prop where
  rd : RdL encB 1 w b.A b.l
  ln : b.l.length = b.n
  byte : bytesB b.l
  le : b.n ≤ b.c
  mx : b.c ≤ maxLen
theorem Mk.ok.below {b : Mk} {w w' : World} (h : b.ok w) (hb : Below w.heap.size w w') : b.ok w' := ⟨h.rd.below hb, h.ln, h.byte, h.le, h.mx⟩
theorem Mk.ok.sz {b : Mk} {w : World} (h : b.ok w) : b.n ≤ maxLen := Nat.le_trans h.le h.mx
theorem dec_u8 : ∀ n cs x, cs.length = 1 → DataW.trod enc Try.prog w base spare held n 5 cs = some x → ∃ v : Int, cs = encB v ∧ 0 ≤ v ∧ v ≤ 255 := fun n cs x hl h => by
  obtain ⟨v, e, _, hw⟩ := DataW.trod_int Try.underlying5 h
  exact ⟨v, e, (bounds_u8 hw).1, (bounds_u8 hw).2⟩

theorem decMk : ∀ n cs x, cs.length = 5 → DataW.trod enc Try.prog w base spare held n 29 cs = some x → ∃ b : Mk, cs = encMk b ∧ b.ok w := fun n cs x hl h => by
  obtain ⟨c0, c1, m, y0, y1, rfl, hl0, hl1, ht0, ht1⟩ := dec_two Try.underlying29 h rfl (by kernel_rfl) (by kernel_rfl)
  have k0 : Try.prog.cellsOf 26 = 4 := by kernel_rfl
  obtain ⟨a, b, c, d, rfl⟩ := dec_rect4 Try.underlying26 (by kernel_rfl) rfl (i3 := 3) (by intro j f hj; match j, hj with | 0, hj => (simp at hj; subst hj; rfl) | 1, hj => (simp at hj; subst hj; rfl) | 2, hj => (simp at hj; subst hj; rfl) | 3, hj => (simp at hj; subst hj; rfl) | j + 4, hj => simp at hj) Try.underlying3 (hl0.trans k0) ht0
  obtain ⟨A, n', c', l, rfl, hn, hr, hq, hc, hm⟩ := open_rowsC (encA := encB) (size := 1) (Q := (fun v => 0 ≤ v ∧ v ≤ 255)) Try.underlying27 (by kernel_rfl) (by decide) dec_u8 ht1
  exact ⟨⟨⟨a, b, c, d⟩, A, n', c', l⟩, rfl, hr, hn, hq, hc, hm⟩
set_option maxRecDepth 100000 in
/-- A mask by value. -/
theorem openMk {v : Value} {d : DataW H} {p : List MemPlace} (hv : Value.okWide Try.prog w r b0 29 v) (h : DataW.Trod enc Try.prog w base spare held 29 v d p) : ∃ b : Mk, v = .agg (encMk b).toArray ∧ b.ok w := by
  obtain ⟨cs, rfl, hs⟩ := okWide_aggC Try.underlying29 hv
  obtain ⟨fuel, hf⟩ := h
  have k5 : Try.prog.cellsOf 29 = 5 := by kernel_rfl
  obtain ⟨b, hb, ho⟩ := decMk fuel cs.toList _ (by simp; omega) hf
  exact ⟨b, by rw [← hb], ho⟩
set_option maxRecDepth 100000 in
/-- A slice of masks. -/
theorem openMks {v : Value} {d : DataW H} {p : List MemPlace} (hv : Value.okWide Try.prog w r b0 22 v) (h : DataW.Trod enc Try.prog w base spare held 22 v d p) :
    ∃ (A : Option Addr) (n c : Nat) (l : List Mk), v = .slice A n c ∧ l.length = n ∧ RdL encMk 5 w A l ∧ (∀ x ∈ l, x.ok w) ∧ n ≤ c ∧ c ≤ maxLen :=
  open_rows Try.underlying22 (by kernel_rfl) (by decide) decMk hv h
end
end Go.Proofs.Ytndablijjkchjaa
