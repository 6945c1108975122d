/-
  Bitmaps among the arguments of a law.
-/
import Derived.Test.YtnefnnhnjmmebaaOpenC
import Derived.Test.YtnefnnhnjmmebaaPxEq
import Derived.Test.YtnefnnhnjmmebaaPlA
namespace Go.Proofs.Ytnefnnhnjmmebaa
open Go.ChangeShapes Go.WideShapes Go.ChangeAt Go.RowKit Go.Deep
set_option linter.unusedSimpArgs false
set_option linter.unusedVariables false

section
variable {H : Type} {enc : TypeId × Value → H} {P : Program} {w : World} {base b0 : Nat} {spare : Nat → Bool} {held : Bool} {r : Reach}
instance : Inhabited Px := ⟨⟨0, 0, 0, 0⟩⟩
def pxsB (l : List Px) : Prop := ∀ p ∈ l, p.byte

/-- A bitmap: its rectangle, its slice, and what the slice reads as. -/
structure Bm where
  r : Rc
  A : Option Addr
  n : Nat
  c : Nat
  l : List Px
instance : Inhabited Bm := ⟨⟨⟨0, 0, 0, 0⟩, none, 0, 0, []⟩⟩
def encBm (b : Bm) : List Value := [.int .i64 b.r.x0, .int .i64 b.r.y0, .int .i64 b.r.x1, .int .i64 b.r.y1, .slice b.A b.n b.c]
theorem encBm_len (b : Bm) : (encBm b).length = 5 := rfl
structure Bm.ok (b : Bm) (w : World) : Prop where
  rd : RdL encP 4 w b.A b.l
  ln : b.l.length = b.n
  byte : pxsB b.l
  le : b.n ≤ b.c
  mx : b.c ≤ maxLen
theorem Bm.ok.below {b : Bm} {w w' : World} (h : b.ok w) (hb : Below w.heap.size w w') : b.ok w' := ⟨h.rd.below hb, h.ln, h.byte, h.le, h.mx⟩
theorem Bm.ok.sz {b : Bm} {w : World} (h : b.ok w) : b.n ≤ maxLen := Nat.le_trans h.le h.mx
theorem dec_px : ∀ n cs x, cs.length = 4 → DataW.trod enc Try.prog w base spare held n 25 cs = some x → ∃ p : Px, cs = encP p ∧ p.byte := fun n cs x hl h => by
  have hf := dec_fields Try.underlying25 (by kernel_rfl) (by rw [hl]; kernel_rfl) h
  match cs, hl with
  | [a, b, c, d], _ =>
    obtain ⟨u0, z0, k0, e0, t0⟩ := hf 0 _ rfl
    obtain ⟨u1, z1, k1, e1, t1⟩ := hf 1 _ rfl
    obtain ⟨u2, z2, k2, e2, t2⟩ := hf 2 _ rfl
    obtain ⟨u3, z3, k3, e3, t3⟩ := hf 3 _ rfl
    simp at e0 e1 e2 e3
    subst e0 e1 e2 e3
    obtain ⟨a0, rfl, w0⟩ := fld_int Try.underlying5 t0
    obtain ⟨a1, rfl, w1⟩ := fld_int Try.underlying5 t1
    obtain ⟨a2, rfl, w2⟩ := fld_int Try.underlying5 t2
    obtain ⟨a3, rfl, w3⟩ := fld_int Try.underlying5 t3
    exact ⟨⟨a0, a1, a2, a3⟩, rfl, px_byte w0 w1 w2 w3⟩

theorem decBm : ∀ n cs x, cs.length = 5 → DataW.trod enc Try.prog w base spare held n 28 cs = some x → ∃ b : Bm, cs = encBm b ∧ b.ok w := fun n cs x hl h => by
  obtain ⟨c0, c1, m, y0, y1, rfl, hl0, hl1, ht0, ht1⟩ := dec_two Try.underlying28 h rfl (by kernel_rfl) (by kernel_rfl)
  have k0 : Try.prog.cellsOf 23 = 4 := by kernel_rfl
  obtain ⟨a, b, c, d, rfl⟩ := dec_rect4 Try.underlying23 (by kernel_rfl) rfl (i3 := 3) (by intro j f hj; match j, hj with | 0, hj => (simp at hj; subst hj; rfl) | 1, hj => (simp at hj; subst hj; rfl) | 2, hj => (simp at hj; subst hj; rfl) | 3, hj => (simp at hj; subst hj; rfl) | j + 4, hj => simp at hj) Try.underlying3 (hl0.trans k0) ht0
  obtain ⟨A, n', c', l, rfl, hn, hr, hq, hc, hm⟩ := open_rowsC (encA := encP) (size := 4) (Q := Px.byte) Try.underlying26 (by kernel_rfl) (by decide) dec_px ht1
  exact ⟨⟨⟨a, b, c, d⟩, A, n', c', l⟩, rfl, hr, hn, hq, hc, hm⟩
set_option maxRecDepth 100000 in
/-- A bitmap by value. -/
theorem openBm {v : Value} {d : DataW H} {p : List MemPlace} (hv : Value.okWide Try.prog w r b0 28 v) (h : DataW.Trod enc Try.prog w base spare held 28 v d p) : ∃ b : Bm, v = .agg (encBm b).toArray ∧ b.ok w := by
  obtain ⟨cs, rfl, hs⟩ := okWide_aggC Try.underlying28 hv
  obtain ⟨fuel, hf⟩ := h
  have k5 : Try.prog.cellsOf 28 = 5 := by kernel_rfl
  obtain ⟨b, hb, ho⟩ := decBm fuel cs.toList _ (by simp; omega) hf
  exact ⟨b, by rw [← hb], ho⟩
set_option maxRecDepth 100000 in
/-- A slice of bitmaps. -/
theorem openBms {v : Value} {d : DataW H} {p : List MemPlace} (hv : Value.okWide Try.prog w r b0 54 v) (h : DataW.Trod enc Try.prog w base spare held 54 v d p) :
    ∃ (A : Option Addr) (n c : Nat) (l : List Bm), v = .slice A n c ∧ l.length = n ∧ RdL encBm 5 w A l ∧ (∀ x ∈ l, x.ok w) ∧ n ≤ c ∧ c ≤ maxLen :=
  open_rows Try.underlying54 (by kernel_rfl) (by decide) decBm hv h
end
end Go.Proofs.Ytnefnnhnjmmebaa
