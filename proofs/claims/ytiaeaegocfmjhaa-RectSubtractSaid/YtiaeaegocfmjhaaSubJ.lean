/-
  What the law on Subtract needs besides its walk: a list that survives stores into a fresh variable, the sums of the areas, the counts at one pixel. No program here.
-/
import Derived.Test.YtiaeaegocfmjhaaSubQ
import Derived.Test.YtiaeaegocfmjhaaContaining
namespace Go.Proofs.Ytiaeaegocfmjhaa
open Go.RowKit
set_option linter.unusedVariables false
set_option linter.unusedSimpArgs false

theorem RdL.far {α : Type} {enc : α → List Value} {size : Nat} {w : World} {A : Option Addr} {l : List α} (h : RdL enc size w A l) {p : Addr} (hp : ∀ g o, A = some ⟨g, o, none⟩ → g ≠ p.block) (u : Value) : RdL enc size (w.setCell p u) A l := fun hn => by
  obtain ⟨g, o, he, hlt, hc⟩ := h hn
  refine ⟨g, o, he, by simpa [World.setCell] using hlt, fun i hi j u' hu => ?_⟩
  exact (World.cell?_of_block (a := ⟨g, o + i * size + j, none⟩) (Below.heap_setCell w p u g (hp g o he))).trans (hc i hi j u' hu)
theorem sub_full (a b : Rc) : ∀ r ∈ subL a b, emptyB r = false := by
  intro r hr
  unfold subL at hr
  rw [List.mem_filter] at hr
  simpa [fullB] using hr.2
theorem four_zero (k : Nat) (x : Int) (h : (#[Value.int .i64 0, .int .i64 0, .int .i64 0, .int .i64 0] : Array Value)[k]? = some (.int .i64 x)) : x = 0 := by
  match k with
  | 0 => injection h with h; injection h with _ h; exact h.symm
  | 1 => injection h with h; injection h with _ h; exact h.symm
  | 2 => injection h with h; injection h with _ h; exact h.symm
  | 3 => injection h with h; injection h with _ h; exact h.symm
  | k + 4 => simp at h
/-- A block of four zeros holds no row of rectangles that are not empty. -/
theorem zero_apart {w : World} {A : Option Addr} {l : List Rc} (h : RdL encR 4 w A l) (hf : ∀ r ∈ l, emptyB r = false) {b : Nat} {t : TypeId} (hb : Bk w b t #[.int .i64 0, .int .i64 0, .int .i64 0, .int .i64 0]) :
    l = [] ∨ ∀ g o, A = some ⟨g, o, none⟩ → g ≠ b := by
  cases l with
  | nil => exact .inl rfl
  | cons r l =>
    refine .inr fun g o hA hg => ?_
    subst hg
    obtain ⟨g', o', hA', _, c0, c1, c2, c3⟩ := rd4 h (k := 0) (Nat.zero_lt_succ _)
    rw [hA] at hA'
    injection hA' with hA'
    injection hA' with h1 h2
    subst h1 h2
    have hc := hb.rules.1
    rw [hc] at c0 c1 c2 c3
    have e0 := four_zero _ _ c0
    have e1 := four_zero _ _ c1
    have e2 := four_zero _ _ c2
    have e3 := four_zero _ _ c3
    simp only [List.getElem_cons_zero] at e0 e1 e2 e3
    have he := hf r List.mem_cons_self
    have : r = ⟨0, 0, 0, 0⟩ := by cases r; simp_all
    rw [this] at he
    exact absurd he (by decide)
/-- The list survives that the variable is set. -/
theorem rd_keep {w : World} {A : Option Addr} {l : List Rc} (h : RdL encR 4 w A l) (hf : ∀ r ∈ l, emptyB r = false) {b : Nat} {t : TypeId} (hb : Bk w b t #[.int .i64 0, .int .i64 0, .int .i64 0, .int .i64 0]) (u0 u1 u2 u3 : Value) :
    RdL encR 4 ((((w.setCell ⟨b, 0, none⟩ u0).setCell ⟨b, 1, none⟩ u1).setCell ⟨b, 2, none⟩ u2).setCell ⟨b, 3, none⟩ u3) A l := by
  rcases zero_apart h hf hb with rfl | hne
  · exact RdL.nil
  · exact (((h.far (p := ⟨b, 0, none⟩) hne u0).far (p := ⟨b, 1, none⟩) hne u1).far (p := ⟨b, 2, none⟩) hne u2).far (p := ⟨b, 3, none⟩) hne u3

/-- The areas summed up so far. -/
def sumS (i : Rc) (L : List Rc) (k : Nat) : Int := areaR i + ((L.take k).map areaR).sum
theorem sumS_succ (i : Rc) (L : List Rc) {k : Nat} (hk : k < L.length) : sumS i L (k + 1) = sumS i L k + areaR L[k] := by
  unfold sumS
  rw [List.take_succ_eq_append_getElem hk, List.map_append, List.sum_append]
  simp [Int.add_assoc]
theorem sum_bd : ∀ (L : List Rc), 0 ≤ (L.map areaR).sum ∧ (L.map areaR).sum ≤ L.length * 67108864
  | [] => by simp
  | r :: L => by
    have h := sum_bd L
    have h1 := area_bd r
    rw [List.map_cons, List.sum_cons, List.length_cons]
    omega
theorem sumS_bd (i : Rc) (L : List Rc) (hL : L.length ≤ 4) (k : Nat) : 0 ≤ sumS i L k ∧ sumS i L k ≤ 335544320 := by
  unfold sumS
  have h := sum_bd (L.take k)
  have h1 := area_bd i
  have h2 : (L.take k).length ≤ 4 := Nat.le_trans (List.length_take_le' _ _) hL
  omega
theorem sumS_all (i : Rc) (L : List Rc) {k : Nat} (hk : L.length ≤ k) : sumS i L k = areaR i + (L.map areaR).sum := by
  unfold sumS
  rw [List.take_of_length_le hk]
theorem sub_at (a b : Rc) (x y : Int) {u v : Bool} (h1 : containsB a x y = u) (h2 : containsB b x y = v) :
    countC (subL a b) x y = (if (u && !v) = true then 1 else 0) ∧ containsB (interR a b) x y = (u && v) := by
  subst h1 h2
  exact ⟨sub_count a b x y, contains_inter a b x y⟩
theorem tiles_at {a : Rc} (ha : emptyB a = false) (p q x y : Int) {u v : Bool} (h1 : containsB a x y = u) (h2 : (decide (0 < p) && decide (0 < q)) = v) :
    countC (tilesL a p q) x y = (if (u && v) = true then 1 else 0) := by
  subst h1 h2
  exact tiles_one ha p q x y
end Go.Proofs.Ytiaeaegocfmjhaa
