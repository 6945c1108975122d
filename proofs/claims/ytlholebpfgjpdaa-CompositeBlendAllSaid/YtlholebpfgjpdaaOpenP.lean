/-
  Pixels among the arguments of a law.
-/
import Derived.Test.YtlholebpfgjpdaaOpen
import Derived.Test.YtlholebpfgjpdaaPxEq
import Derived.Test.YtlholebpfgjpdaaList
import Derived.ChangeMaps5
namespace Go.Proofs.Ytlholebpfgjpdaa
open Go.ChangeShapes Go.WideShapes Go.ChangeAt Go.RowKit Go.Deep
set_option linter.unusedSimpArgs false
set_option linter.unusedVariables false

section
variable {H : Type} {enc : TypeId × Value → H} {P : Program} {w : World} {base b0 : Nat} {spare : Nat → Bool} {held : Bool} {r : Reach}
instance : Inhabited Px := ⟨⟨0, 0, 0, 0⟩⟩
theorem dec_px : ∀ n cs x, cs.length = 4 → DataW.trod enc Try.prog w base spare held n 29 cs = some x → ∃ p : Px, cs = encP p ∧ p.byte := fun n cs x hl h => by
  have hf := dec_fields Try.underlying29 (by kernel_rfl) (by rw [hl]; kernel_rfl) h
  match cs, hl with
  | [a, b, c, d], _ =>
    obtain ⟨u0, z0, k0, e0, t0⟩ := hf 0 _ rfl
    obtain ⟨u1, z1, k1, e1, t1⟩ := hf 1 _ rfl
    obtain ⟨u2, z2, k2, e2, t2⟩ := hf 2 _ rfl
    obtain ⟨u3, z3, k3, e3, t3⟩ := hf 3 _ rfl
    simp at e0 e1 e2 e3
    subst e0 e1 e2 e3
    obtain ⟨a0, rfl, w0⟩ := fld_int Try.underlying5 t0
    obtain ⟨a1, rfl, w1⟩ := fld_int Try.underlying5 t1
    obtain ⟨a2, rfl, w2⟩ := fld_int Try.underlying5 t2
    obtain ⟨a3, rfl, w3⟩ := fld_int Try.underlying5 t3
    exact ⟨⟨a0, a1, a2, a3⟩, rfl, px_byte w0 w1 w2 w3⟩
set_option maxRecDepth 100000 in
/-- Two pixels in an array. -/
theorem open_px2 {v : Value} {d : DataW H} {p : List MemPlace} (hv : Value.okWide Try.prog w r b0 32 v) (h : DataW.Trod enc Try.prog w base spare held 32 v d p) : ∃ a b : Px, v = .agg (encP a ++ encP b).toArray ∧ a.byte ∧ b.byte := by
  obtain ⟨cs, rfl, hsz⟩ := okWide_array Try.underlying32 hv
  obtain ⟨fuel, hf⟩ := h
  obtain ⟨xs, m, _, _, hcl, hxl, hi⟩ := DataW.trod_array Try.underlying32 hf
  have k4 : Try.prog.cellsOf 29 = 4 := by kernel_rfl
  have k8 : Try.prog.cellsOf 32 = 8 := by kernel_rfl
  have hcs : (Value.agg cs).cells.toList = cs.toList := rfl
  have hlen : cs.toList.length = 8 := by simp; omega
  have h0 := hi 0 (by omega)
  have h1 := hi 1 (by omega)
  rw [k4, List.getElem?_eq_getElem (show 0 < xs.length by omega)] at h0
  rw [k4, List.getElem?_eq_getElem (show 1 < xs.length by omega)] at h1
  obtain ⟨a, ha, hab⟩ := dec_px _ _ _ (by rw [hcs]; simp [hlen] at *) h0
  obtain ⟨b, hb, hbb⟩ := dec_px _ _ _ (by rw [hcs]; simp [hlen] at *) h1
  refine ⟨a, b, ?_, hab, hbb⟩
  congr 1
  apply Array.ext'
  rw [← ha, ← hb, hcs]
  have h3 : (cs.toList.drop 4).take 4 = cs.toList.drop 4 := List.take_of_length_le (by simp [hlen])
  simp only [Nat.zero_mul, Nat.one_mul, List.drop_zero]
  rw [h3, List.take_append_drop]
end
end Go.Proofs.Ytlholebpfgjpdaa
