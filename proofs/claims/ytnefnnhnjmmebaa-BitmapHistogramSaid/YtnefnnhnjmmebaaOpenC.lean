/-
  Cells opened: slices, structs with a struct in them. Plain theorems, no program.
-/
import Derived.Test.YtnefnnhnjmmebaaOpen
namespace Go.Proofs.Ytnefnnhnjmmebaa
open Go.ChangeShapes Go.WideShapes Go.ChangeAt Go.RowKit Go.Deep
set_option linter.unusedSimpArgs false
set_option linter.unusedVariables false

section
variable {H : Type} {enc : TypeId × Value → H} {P : Program} {w : World} {base b0 : Nat} {spare : Nat → Bool} {held : Bool} {r : Reach}

/-- A slice cell whose elements read as α's. -/
theorem open_rowsC {α : Type} [Inhabited α] {encA : α → List Value} {size : Nat} {Q : α → Prop} {t e : TypeId} {fuel : Nat} {cs : List Value} {x : DataW H × List MemPlace} (ht : P.underlying t = some (.slice e)) (hC : P.cellsOf e = size) (hpos : 0 < size)
    (hdec : ∀ n cs x, cs.length = size → DataW.trod enc P w base spare held n e cs = some x → ∃ a, cs = encA a ∧ Q a)
    (h : DataW.trod enc P w base spare held fuel t cs = some x) :
    ∃ (A : Option Addr) (n c : Nat) (l : List α), cs = [.slice A n c] ∧ l.length = n ∧ RdL encA size w A l ∧ (∀ x ∈ l, Q x) ∧ n ≤ c ∧ c ≤ maxLen := by
  rcases DataW.trod_slice ht h with ⟨h0, _⟩ | ⟨a, len, cap, elems, rest, n, _, hcs, _, _, hl, hm, hel, hi, _⟩
  · exact ⟨none, 0, 0, [], h0, rfl, RdL.nil, (fun x hx => absurd hx (by simp)), Nat.le_refl _, Nat.zero_le _⟩
  · have key : ∀ i, i < len → ∃ x : α, Q x ∧ ∃ cs', w.cells? base (a.add (i * size)) size = some cs' ∧ cs' = encA x := fun i hil => by
      have h1 := hi i hil
      rw [List.getElem?_eq_getElem (by omega), hC] at h1
      obtain ⟨cs', hc, ht'⟩ := Option.bind_eq_some_iff.1 h1
      obtain ⟨_, hcl, _⟩ := World.cells?_some hc
      obtain ⟨x, e1, hq⟩ := hdec _ _ _ hcl ht'
      exact ⟨x, hq, cs', hc, e1⟩
    have key2 : ∀ i, i < len → ∃ x : α, Q x ∧ ∀ j u, (encA x)[j]? = some u → w.cell? (a.add (i * size + j)) = some u := fun i hil => by
      obtain ⟨x, hq, cs', hc, e1⟩ := key i hil
      obtain ⟨_, hcl, hat⟩ := World.cells?_some hc
      subst e1
      refine ⟨x, hq, fun j u hu => ?_⟩
      have hj : j < size := by rw [← hcl]; exact (List.getElem?_eq_some_iff.1 hu).1
      rw [← add_add, hat j hj, hu]
    obtain ⟨f, hF⟩ := choose_lt key2
    refine ⟨some a, len, cap, (List.range len).map f, hcs, by simp, fun hne => ?_, fun x hx => ?_, hl, hm⟩
    · have hlen : 0 < len := by
        rcases Nat.eq_zero_or_pos len with e | e
        · subst e; simp at hne
        · exact e
      obtain ⟨x0, _, cs', hc, _⟩ := key 0 hlen
      obtain ⟨_, hcl, hat⟩ := World.cells?_some hc
      have h00 := hat 0 hpos
      rw [List.getElem?_eq_getElem (by omega)] at h00
      have hcell := h00
      obtain ⟨g, o, spot⟩ := a
      have hspot : spot = none := by simpa [Addr.add] using World.cell?_spot h00
      subst hspot
      refine ⟨g, o, rfl, ?_, fun i hil j u hu => ?_⟩
      · rw [add_plain, add_plain] at hcell
        exact World.block_lt_of_cell? w _ hcell
      · have hil' : i < len := by simpa using hil
        have := (hF i hil').2 j u (by simpa using hu)
        rw [add_plain] at this
        rw [Nat.add_assoc]
        exact this
    · obtain ⟨i, hi', rfl⟩ := List.mem_map.1 hx
      exact (hF i (List.mem_range.1 hi')).1

/-- Two cells lists, one behind the other. -/
theorem split_at {cs : List Value} (k : Nat) : cs = cs.take k ++ cs.drop k := (List.take_append_drop k cs).symm

/-- A rectangle's cells. -/
theorem dec_rect4 {e i3 : TypeId} {fs : Array Field} (he : P.underlying e = some (.struct fs)) (hone : oneCellFields P fs = true) (h4 : fs.size = 4) (hty : ∀ (j : Nat) (f : Field), fs[j]? = some f → f.type = i3) (h3 : P.underlying i3 = some (.int .i64)) {n : Nat} {cs : List Value} {x : DataW H × List MemPlace} (hlen : cs.length = 4) (h : DataW.trod enc P w base spare held n e cs = some x) :
    ∃ a b c d : Int, cs = [.int .i64 a, .int .i64 b, .int .i64 c, .int .i64 d] := by
  have hf := dec_fields he hone (by omega) h
  have key : ∀ j, j < 4 → ∃ v : Int, cs[j]? = some (.int .i64 v) := fun j hj => by
    obtain ⟨u, y, k, hu, hy⟩ := hf j _ (Array.getElem?_eq_getElem (by omega))
    rw [hty j _ (Array.getElem?_eq_getElem (by omega))] at hy
    obtain ⟨v, rfl, _⟩ := fld_int h3 hy
    exact ⟨v, hu⟩
  obtain ⟨a, b, c, d, rfl⟩ : ∃ a b c d, cs = [a, b, c, d] := by
    match cs, hlen with
    | [a, b, c, d], _ => exact ⟨_, _, _, _, rfl⟩
  · obtain ⟨a', ha⟩ := key 0 (by omega)
    obtain ⟨b', hb⟩ := key 1 (by omega)
    obtain ⟨c', hc⟩ := key 2 (by omega)
    obtain ⟨d', hd⟩ := key 3 (by omega)
    obtain rfl := Option.some.inj (show some a = _ from ha)
    obtain rfl := Option.some.inj (show some b = _ from hb)
    obtain rfl := Option.some.inj (show some c = _ from hc)
    obtain rfl := Option.some.inj (show some d = _ from hd)
    exact ⟨_, _, _, _, rfl⟩
/-- The cells of a struct of two fields. -/
theorem dec_two {t : TypeId} {f0 f1 : Field} (ht : P.underlying t = some (.struct #[f0, f1])) {fuel : Nat} {cs : List Value} {x : DataW H × List MemPlace} (h : DataW.trod enc P w base spare held fuel t cs = some x) (h0 : f0.offset = 0) (h1 : f1.offset = P.cellsOf f0.type) (hs : P.cellsOf t = P.cellsOf f0.type + P.cellsOf f1.type) :
    ∃ (c0 c1 : List Value) (n : Nat) (y0 y1 : DataW H × List MemPlace), cs = c0 ++ c1 ∧ c0.length = P.cellsOf f0.type ∧ c1.length = P.cellsOf f1.type ∧ DataW.trod enc P w base spare held n f0.type c0 = some y0 ∧ DataW.trod enc P w base spare held n f1.type c1 = some y1 := by
  obtain ⟨xs, n, _, _, hl, hlen, hf⟩ := DataW.trod_struct ht h
  have e0 := hf 0 f0 rfl
  have e1 := hf 1 f1 rfl
  have hlen' : xs.length = 2 := hlen
  rw [List.getElem?_eq_getElem (by omega), h0, List.drop_zero] at e0
  rw [List.getElem?_eq_getElem (by omega), h1] at e1
  have h2 : (cs.drop (P.cellsOf f0.type)).take (P.cellsOf f1.type) = cs.drop (P.cellsOf f0.type) := List.take_of_length_le (by simp; omega)
  rw [h2] at e1
  exact ⟨_, _, n, _, _, split_at _, by simp; omega, by simp; omega, e0, e1⟩
theorem okWide_aggC {t : TypeId} {fs : Array Field} {v : Value} (ht : P.underlying t = some (.struct fs)) (h : Value.okWide P w r b0 t v) : ∃ cs, v = .agg cs ∧ cs.size = P.cellsOf t := by
  simp only [Value.okWide, ht] at h
  obtain ⟨cs, h1, h2, _⟩ := h
  exact ⟨cs, h1, h2⟩
end
end Go.Proofs.Ytnefnnhnjmmebaa
