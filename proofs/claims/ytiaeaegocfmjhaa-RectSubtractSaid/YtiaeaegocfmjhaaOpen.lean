/-
  A law's arguments opened: slices as lists, arrays of numbers. Plain theorems, no program.
-/
import Derived.Test.YtiaeaegocfmjhaaLift
import Derived.Test.YtiaeaegocfmjhaaList
import Derived.Deep.Slices
import Derived.Deep.Fields
import Derived.ChangeSame
namespace Go.Proofs.Ytiaeaegocfmjhaa
open Go.ChangeShapes Go.WideShapes Go.ChangeAt Go.RowKit Go.Deep

theorem len2 {l : List Int} (h : l.length = 2) : ∃ a b, l = [a, b] := by
  match l, h with
  | [a, b], _ => exact ⟨a, b, rfl⟩
theorem len3 {l : List Int} (h : l.length = 3) : ∃ a b c, l = [a, b, c] := by
  match l, h with
  | [a, b, c], _ => exact ⟨a, b, c, rfl⟩
theorem len4 {l : List Int} (h : l.length = 4) : ∃ a b c d, l = [a, b, c, d] := by
  match l, h with
  | [a, b, c, d], _ => exact ⟨a, b, c, d, rfl⟩

section
variable {H : Type} {enc : TypeId × Value → H} {P : Program} {w : World} {base b0 : Nat} {spare : Nat → Bool} {held : Bool} {r : Reach}

/-- A slice whose elements read as α's. -/
theorem open_rows {α : Type} [Inhabited α] {encA : α → List Value} {size : Nat} {Q : α → Prop} {t e : TypeId} {v : Value} {d : DataW H} {p : List MemPlace} (ht : P.underlying t = some (.slice e)) (hC : P.cellsOf e = size) (hpos : 0 < size)
    (hdec : ∀ n cs x, cs.length = size → DataW.trod enc P w base spare held n e cs = some x → ∃ a, cs = encA a ∧ Q a)
    (hv : Value.okWide P w r b0 t v) (h : DataW.Trod enc P w base spare held t v d p) :
    ∃ (A : Option Addr) (n c : Nat) (l : List α), v = .slice A n c ∧ l.length = n ∧ RdL encA size w A l ∧ (∀ x ∈ l, Q x) ∧ n ≤ c ∧ c ≤ maxLen := by
  obtain ⟨a0, len, cap, rfl⟩ := okWide_slice ht hv
  obtain ⟨fuel, hf⟩ := h
  rcases open_slice ht hf with ⟨h0, _⟩ | ⟨a, len', cap', m, n, D, Pl, hcs, hb, hl, hm, hmm, _, hi⟩
  · have h0 : Value.slice a0 len cap = .slice none 0 0 := by simpa [Value.cells] using h0
    cases h0
    exact ⟨none, 0, 0, [], rfl, rfl, RdL.nil, (fun x hx => absurd hx (by simp)), Nat.le_refl _, Nat.zero_le _⟩
  · have h0 : Value.slice a0 len cap = .slice (some a) len' cap' := by simpa [Value.cells] using hcs
    cases h0
    have hlm : len ≤ m := by rw [hmm]; split <;> omega
    have key : ∀ i, i < len → ∃ x : α, Q x ∧ ∀ j u, (encA x)[j]? = some u → w.cell? (a.add (i * size + j)) = some u := fun i hil => by
      obtain ⟨cs', hc, ht'⟩ := hi i (by omega)
      rw [hC] at hc
      obtain ⟨_, hcl, hat⟩ := World.cells?_some hc
      obtain ⟨x, rfl, hq⟩ := hdec _ _ _ hcl ht'
      refine ⟨x, hq, fun j u hu => ?_⟩
      have hj : j < size := by rw [← hcl]; exact (List.getElem?_eq_some_iff.1 hu).1
      rw [← add_add, hat j hj, hu]
    obtain ⟨f, hF⟩ := choose_lt key
    refine ⟨some a, len, cap, (List.range len).map f, rfl, by simp, fun hne => ?_, fun x hx => ?_, hl, hm⟩
    · have hlen : 0 < len := by
        rcases Nat.eq_zero_or_pos len with e | e
        · subst e; simp at hne
        · exact e
      obtain ⟨cs', hc, ht'⟩ := hi 0 (by omega)
      rw [hC] at hc
      obtain ⟨_, hcl, hat⟩ := World.cells?_some hc
      have h00 := hat 0 hpos
      rw [List.getElem?_eq_getElem (by omega)] at h00
      have hcell := h00
      obtain ⟨g, o, spot⟩ := a
      have hspot : spot = none := by simpa [Addr.add] using World.cell?_spot h00
      subst hspot
      refine ⟨g, o, rfl, ?_, fun i hil j u hu => ?_⟩
      · rw [add_plain, add_plain] at hcell
        exact World.block_lt_of_cell? w _ hcell
      · have hil' : i < len := by simpa using hil
        have := (hF i hil').2 j u (by simpa using hu)
        rw [add_plain] at this
        rw [Nat.add_assoc]
        exact this
    · obtain ⟨i, hi', rfl⟩ := List.mem_map.1 hx
      exact (hF i (List.mem_range.1 hi')).1

/-- A cell list that is a struct of whole numbers. -/
theorem dec_fields {e : TypeId} {fs : Array Field} (he : P.underlying e = some (.struct fs)) (hone : oneCellFields P fs = true) {n : Nat} {cs : List Value} {x : DataW H × List MemPlace} (hlen : cs.length = fs.size) (h : DataW.trod enc P w base spare held n e cs = some x) :
    ∀ (j : Nat) (f : Field), fs[j]? = some f → ∃ (u : Value) (y : DataW H × List MemPlace) (k : Nat), cs[j]? = some u ∧ DataW.trod enc P w base spare held k f.type [u] = some y := by
  obtain ⟨ys, n', hn', hy, hl, hyl, hf⟩ := DataW.trod_struct he h
  intro j f hj
  obtain ⟨ho, hk⟩ := hone_of hone j f hj
  have hjl : j < fs.size := (Array.getElem?_eq_some_iff.1 hj).1
  have h1 := hf j f hj
  rw [ho, hk] at h1
  have hone' : (cs.drop j).take 1 = [cs[j]'(by omega)] := by
    rw [List.drop_eq_getElem_cons (by omega)]; rfl
  rw [hone'] at h1
  have hys : ys[j]? = some (ys[j]'(by omega)) := List.getElem?_eq_getElem (by omega)
  exact ⟨_, _, n', List.getElem?_eq_getElem (by omega), h1.trans hys⟩

theorem okWide_array {n : Nat} {e t : TypeId} {v : Value} (ht : P.underlying t = some (.array n e)) (h : Value.okWide P w r b0 t v) : ∃ cs, v = .agg cs ∧ cs.size = P.cellsOf t := by
  simp only [Value.okWide, ht] at h
  obtain ⟨cs, h1, h2, _⟩ := h
  exact ⟨cs, h1, h2⟩

/-- An array of whole numbers by value. -/
theorem open_arr {t e : TypeId} {k : IntKind} {n : Nat} {v : Value} {d : DataW H} {p : List MemPlace} (ht : P.underlying t = some (.array n e)) (he : P.underlying e = some (.int k)) (hC : P.cellsOf e = 1) (hCt : P.cellsOf t = n)
    (hv : Value.okWide P w r b0 t v) (h : DataW.Trod enc P w base spare held t v d p) :
    ∃ l : List Int, l.length = n ∧ v = .agg (l.map (fun x => Value.int k x)).toArray ∧ ∀ x ∈ l, (Lit.int k x).wf = true := by
  obtain ⟨cs, rfl, hsz⟩ := okWide_array ht hv
  obtain ⟨fuel, hf⟩ := h
  obtain ⟨xs, m, _, _, hcl, hxl, hi⟩ := DataW.trod_array ht hf
  have hcs : (Value.agg cs).cells.toList = cs.toList := rfl
  have key : ∀ i, i < n → ∃ x : Int, (Lit.int k x).wf = true ∧ cs.toList[i]? = some (Value.int k x) := fun i hin => by
    have h1 := hi i hin
    rw [hC, Nat.mul_one, List.getElem?_eq_getElem (show i < xs.length by omega)] at h1
    have hlt : i < cs.toList.length := by rw [hcs] at hcl; omega
    have hone' : (cs.toList.drop i).take 1 = [cs.toList[i]] := by
      rw [List.drop_eq_getElem_cons hlt]; rfl
    obtain ⟨a, e0, _, wa⟩ := DataW.trod_int he h1
    have e1 : (cs.toList.drop i).take 1 = [Value.int k a] := e0
    rw [hone'] at e1
    refine ⟨a, wa, ?_⟩
    rw [List.getElem?_eq_getElem hlt]
    injection e1 with e1 _
    rw [e1]
  obtain ⟨f, hF⟩ := choose_lt key
  refine ⟨(List.range n).map f, by simp, ?_, fun x hx => ?_⟩
  · congr 1
    apply Array.ext'
    apply List.ext_getElem?
    intro i
    by_cases hin : i < n
    · rw [(hF i hin).2]
      simp [hin]
    · rw [List.getElem?_eq_none (by rw [← hcs, hcl, hCt]; omega)]
      exact (List.getElem?_eq_none (by simp; omega)).symm
  · obtain ⟨i, hi', rfl⟩ := List.mem_map.1 hx
    exact (hF i (List.mem_range.1 hi')).1
end
end Go.Proofs.Ytiaeaegocfmjhaa
