/-
  A pair of bitmaps and a mask among the arguments of a law.
-/
import Derived.Test.YtnefnnhnjmmebaaGreatOpenB
import Derived.Test.YtnefnnhnjmmebaaGreatMkB
namespace Go.Proofs.YtnefnnhnjmmebaaGreat
open Go.ChangeShapes Go.WideShapes Go.ChangeAt Go.RowKit Go.Deep
set_option linter.unusedSimpArgs false
set_option linter.unusedVariables false

section
variable {H : Type} {enc : TypeId × Value → H} {P : Program} {w : World} {base b0 : Nat} {spare : Nat → Bool} {held : Bool} {r : Reach}
theorem dec_three {t : TypeId} {f0 f1 f2 : Field} (ht : P.underlying t = some (.struct #[f0, f1, f2])) {fuel : Nat} {cs : List Value} {x : DataW H × List MemPlace} (h : DataW.trod enc P w base spare held fuel t cs = some x) {n0 n1 n2 : Nat} (k0 : P.cellsOf f0.type = n0) (k1 : P.cellsOf f1.type = n1) (k2 : P.cellsOf f2.type = n2) (h0 : f0.offset = 0) (h1 : f1.offset = n0) (h2 : f2.offset = n0 + n1) (hs : P.cellsOf t = n0 + n1 + n2) :
    ∃ (c0 c1 c2 : List Value) (n : Nat) (y0 y1 y2 : DataW H × List MemPlace), cs = c0 ++ c1 ++ c2 ∧ c0.length = n0 ∧ c1.length = n1 ∧ c2.length = n2 ∧ DataW.trod enc P w base spare held n f0.type c0 = some y0 ∧ DataW.trod enc P w base spare held n f1.type c1 = some y1 ∧ DataW.trod enc P w base spare held n f2.type c2 = some y2 := by
  obtain ⟨xs, n, _, _, hl, hlen, hf⟩ := DataW.trod_struct ht h
  have e0 := hf 0 f0 rfl
  have e1 := hf 1 f1 rfl
  have e2 := hf 2 f2 rfl
  have hlen' : xs.length = 3 := hlen
  rw [List.getElem?_eq_getElem (by omega), h0, List.drop_zero, k0] at e0
  rw [List.getElem?_eq_getElem (by omega), h1, k1] at e1
  rw [List.getElem?_eq_getElem (by omega), h2, k2] at e2
  refine ⟨cs.take n0, (cs.drop n0).take n1, (cs.drop (n0 + n1)).take n2, n, _, _, _, ?_, by simp; omega, by simp; omega, by simp; omega, e0, e1, e2⟩
  have h3 : (cs.drop (n0 + n1)).take n2 = cs.drop (n0 + n1) := List.take_of_length_le (by simp; omega)
  rw [h3, List.append_assoc, ← List.drop_drop, List.take_append_drop, List.take_append_drop]
set_option maxRecDepth 100000 in
/-- A pair of bitmaps and a mask, by value. -/
theorem openBoth {v : Value} {d : DataW H} {p : List MemPlace} (hv : Value.okWide Tryz.prog w r b0 31 v) (h : DataW.Trod enc Tryz.prog w base spare held 31 v d p) : ∃ (s t : Bm) (m : Mk), v = .agg (encBm s ++ encBm t ++ encMk m).toArray ∧ s.ok w ∧ t.ok w ∧ m.ok w := by
  obtain ⟨cs, rfl, hs⟩ := okWide_aggC Tryz.underlying31 hv
  obtain ⟨fuel, hf⟩ := h
  have k1 : Tryz.prog.cellsOf 26 = 5 := by kernel_rfl
  have k2 : Tryz.prog.cellsOf 29 = 5 := by kernel_rfl
  obtain ⟨c0, c1, c2, n, y0, y1, y2, hc, l0, l1, l2, t0, t1, t2⟩ := dec_three Tryz.underlying31 hf k1 k1 k2 rfl rfl rfl (by kernel_rfl)
  obtain ⟨s, rfl, hso⟩ := decBm n c0 _ l0 t0
  obtain ⟨t, rfl, hto⟩ := decBm n c1 _ l1 t1
  obtain ⟨m, rfl, hmo⟩ := decMk n c2 _ l2 t2
  exact ⟨s, t, m, by rw [← hc]; show Value.agg cs = Value.agg (cs.toList.toArray); rw [Array.toArray_toList], hso, hto, hmo⟩
end
end Go.Proofs.YtnefnnhnjmmebaaGreat
