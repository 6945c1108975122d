/-
  Slices as lists, for elements of any number of cells: what it means that a slice reads as a list (RdL), that the call owns it (OwnL), and append of one element.
-/
import Derived.Test.YtiaeaegocfmjhaaBase
import Derived.Maps.AppendAt
import Derived.Deep.Onto
import Derived.Deep.AppendLies
import Derived.RangeFuncBox
namespace Go.Proofs.Ytiaeaegocfmjhaa
open Go.RowKit

section
variable {α : Type} {enc : α → List Value} {size : Nat}

theorem flat_len (hk : ∀ x, (enc x).length = size) (l : List α) : (l.flatMap enc).length = l.length * size := by
  induction l with
  | nil => simp
  | cons r l ih => simp [ih, hk, Nat.succ_mul]; omega

theorem flat_at (hk : ∀ x, (enc x).length = size) (l : List α) : ∀ i (h : i < l.length) (j : Nat) (u : Value), (enc l[i])[j]? = some u → (l.flatMap enc)[i * size + j]? = some u := by
  induction l with
  | nil => intro i h; simp at h
  | cons r l ih =>
    intro i h j u hu
    have hj : j < size := by
      have := (List.getElem?_eq_some_iff.1 hu).1
      rw [hk] at this; exact this
    rw [List.flatMap_cons]
    cases i with
    | zero =>
      simp only [List.getElem_cons_zero] at hu
      rw [Nat.zero_mul, Nat.zero_add, List.getElem?_append_left (by rw [hk]; exact hj)]
      exact hu
    | succ i =>
      simp only [List.getElem_cons_succ] at hu
      have hlt : i < l.length := by simpa using h
      rw [List.getElem?_append_right (by rw [hk, Nat.succ_mul]; omega), hk]
      rw [show (i + 1) * size + j - size = i * size + j by rw [Nat.succ_mul]; omega]
      exact ih i hlt j u hu

/-- The slice at A reads as the list l. -/
def RdL (enc : α → List Value) (size : Nat) (w : World) (A : Option Addr) (l : List α) : Prop :=
  l ≠ [] → ∃ g o, A = some ⟨g, o, none⟩ ∧ g < w.heap.size ∧ ∀ i (h : i < l.length) (j : Nat) (u : Value), (enc l[i])[j]? = some u → w.cell? ⟨g, o + i * size + j, none⟩ = some u

theorem RdL.below {w w' : World} {A : Option Addr} {l : List α} (h : RdL enc size w A l) (hb : Below w.heap.size w w') : RdL enc size w' A l := fun hn => by
  obtain ⟨g, o, hA, hg, hc⟩ := h hn
  exact ⟨g, o, hA, Nat.lt_of_lt_of_le hg hb.size, fun i hi j u hu => (hb.cell (p := ⟨g, o + i * size + j, none⟩) hg).trans (hc i hi j u hu)⟩
theorem RdL.drew {w : World} {A : Option Addr} {l : List α} (h : RdL enc size w A l) : RdL enc size w.drew A l := h
theorem RdL.take {w : World} {A : Option Addr} {l : List α} (h : RdL enc size w A l) (n : Nat) : RdL enc size w A (l.take n) := fun hn => by
  obtain ⟨g, o, hA, hg, hc⟩ := h (by intro e; rw [e] at hn; simp at hn)
  refine ⟨g, o, hA, hg, fun i hi j u hu => hc i (by simp at hi; omega) j u ?_⟩
  rw [List.getElem_take] at hu
  exact hu
theorem RdL.nil {w : World} {A : Option Addr} : RdL enc size w A [] := fun h => absurd rfl h

/-- The call owns the slice v, and it holds the list l. -/
def OwnL (enc : α → List Value) (e : TypeId) (size : Nat) (w : World) (base : Nat) (v : Value) (l : List α) : Prop := w.ownsRow base e size v l.length (l.flatMap enc)

variable {e : TypeId}
theorem OwnL.nil (w : World) (base : Nat) : OwnL enc e size w base (.slice none 0 0) [] := World.ownsRow_nil _ _ _ _
theorem OwnL.alloc {w : World} {base : Nat} {v : Value} {l : List α} (h : OwnL enc e size w base v l) (o : Obj) : OwnL enc e size (w.alloc o) base v l := World.ownsRow.alloc h o
theorem OwnL.drew {w : World} {base : Nat} {v : Value} {l : List α} (h : OwnL enc e size w base v l) : OwnL enc e size w.drew base v l := h
theorem OwnL.mono {w : World} {base base' : Nat} {v : Value} {l : List α} (h : OwnL enc e size w base v l) (hb : base' ≤ base) : OwnL enc e size w base' v l := World.ownsRow.mono h hb
theorem OwnL.below {w w' : World} {base : Nat} {v : Value} {l : List α} (h : OwnL enc e size w base v l) (hb : Below w.heap.size w w') : OwnL enc e size w' base v l := by
  refine ⟨h.1, ?_⟩
  rcases h.2 with h2 | ⟨g, cap, cur, hv, hbg, hg, r⟩
  · exact Or.inl h2
  · exact Or.inr ⟨g, cap, cur, hv, hbg, (hb.block g (Array.getElem?_eq_some_iff.1 hg).1).trans hg, r⟩
theorem OwnL.form (hk : ∀ x, (enc x).length = size) {w : World} {base : Nat} {v : Value} {l : List α} (h : OwnL enc e size w base v l) : ∃ A c, v = .slice A l.length c ∧ RdL enc size w A l ∧ l.length ≤ c := by
  rcases h.2 with ⟨rfl, hn⟩ | ⟨g, cap, cur, rfl, hb, hg, hnc, hm, hs, ht⟩
  · exact ⟨none, 0, by rw [hn], fun hne => absurd (List.eq_nil_of_length_eq_zero hn) hne, by omega⟩
  · refine ⟨some ⟨g, 0, none⟩, cap, rfl, fun hne => ⟨g, 0, rfl, (Array.getElem?_eq_some_iff.1 hg).1, fun i hi j u hu => ?_⟩, hnc⟩
    have hj : j < size := by
      have := (List.getElem?_eq_some_iff.1 hu).1
      rw [hk] at this; exact this
    rw [Nat.zero_add]
    have hlt : i * size + j < l.length * size := by
      have : (i + 1) * size ≤ l.length * size := Nat.mul_le_mul_right _ hi
      rw [Nat.succ_mul] at this; omega
    exact (World.ownsRow.cellAt h _ hlt).trans (flat_at hk l i hi j u hu)
/-- A literal slice: a block that is just its cells. -/
theorem OwnL.lit {w : World} {base g : Nat} {cs : Array Value} {l : List α} (hk : ∀ x, (enc x).length = size) (hb : Bk w g e cs) (hg : base ≤ g) (hm : l.length ≤ maxLen) (hc : cs.toList = l.flatMap enc) :
    OwnL enc e size w base (.slice (some ⟨g, 0, none⟩) l.length l.length) l := by
  have hlen := flat_len hk l
  refine ⟨hlen, .inr ⟨g, l.length, cs, rfl, hg, hb, Nat.le_refl _, hm, ?_, ?_⟩⟩
  · rw [← Array.length_toList, hc, hlen]
  · rw [hc]; exact List.take_of_length_le (by rw [hlen]; exact Nat.le_refl _)

theorem rd_of_bk {w : World} {g : Nat} {cs : Array Value} {l : List α} (hk : ∀ x, (enc x).length = size) (hb : Bk w g e cs) (hc : cs.toList = l.flatMap enc) : RdL enc size w (some ⟨g, 0, none⟩) l := fun hn => by
  refine ⟨g, 0, rfl, hb.lt, fun i hi j u hu => ?_⟩
  rw [Nat.zero_add, hb.rules.1, ← Array.getElem?_toList, hc]
  exact flat_at hk l i hi j u hu
theorem Bk.grownRow {w w' : World} {g : Nat} {t : TypeId} {cs : Array Value} (h : Bk w g t cs) {base : Nat} {v : Value} {l : List α} (ho : OwnL enc e size w base v l) (hg : w.grownBy w' v.ownBlock) (hb : g < base) : Bk w' g t cs := h.grown hg (by
  intro he
  have := (World.ownsRow.lt ho g he.symm).1
  omega)
/-- What lay ahead of the rows is as it was. -/
theorem below_grown {w0 w w' : World} {base : Nat} {v : Value} {l : List α} (ho : OwnL enc e size w base v l) (hg : w.grownBy w' v.ownBlock) (hb : Below w0.heap.size w0 w) (hB : w0.heap.size ≤ base) : Below w0.heap.size w0 w' :=
  hb.grown hg hb.size (fun k hk => by have := (World.ownsRow.lt ho k hk).1; omega)

/-- Blocks of other element types, and blocks below the base, are no row of the slice's. -/
theorem OwnL.block_ne {w : World} {base : Nat} {v : Value} {l : List α} (h : OwnL enc e size w base v l) {g : Nat} (hg : g < base) : some g ≠ v.ownBlock := by
  intro he
  have := (World.ownsRow.lt h g he.symm).1
  omega

/-- append of one element to a slice that the call owns. -/
theorem wpList_append_one {P : Program} {ops : Array Oper} {rest : List Oper} {o : Oper} {a : Act} {w : World} {Q : Exit → Act → World → Prop} (hk : ∀ x, (enc x).length = size) (h1 : ∀ x, ∀ u ∈ enc x, u.oneCell' = true) {z : Value} {bytes : Nat} (t : TypeId)
    (hinfo : (P.info? e).map (fun i => (i.zero, i.size, i.bytes)) = some (some z, size, bytes)) (hzs : z.cells.size = size) (hsz : 0 < size) (hby : bytes ≤ 4096) (ht : P.underlying t = some (.slice e))
    (hgd : o.guard = none) (s x : Operand) (ho : o.op = .call { callee := .builtin .append, args := #[s, x], argTypes := #[t, t] })
    (base : Nat) (v : Value) (l : List α) (hs : a.eval s = v) (hown : OwnL enc e size w base v l) (g : Nat) (p : α) (hx : a.eval x = .slice (some ⟨g, 0, none⟩) 1 1) {cs : Array Value} (hb : Bk w g e cs) (hcs : cs.toList = enc p)
    (hlen : l.length ≤ 4294967296) (hbase : base ≤ w.heap.size)
    (h : ∀ v' w', OwnL enc e size w' base v' (l ++ [p]) → w.grownBy w' v.ownBlock → (∃ g' c', v' = .slice (some ⟨g', 0, none⟩) (l.length + 1) c' ∧ (some g' = v.ownBlock ∨ g' = w.heap.size)) → wpList P ops Q rest (a.put o.dst v') w') : wpList P ops Q (o :: rest) a w := by
  obtain ⟨i, hi, hz, hs1, hs2⟩ := info_parts hinfo
  refine wpList_append_own_at w hgd s x t ho base e i z size bytes ht hi hz hs1 hs2 hzs hsz v l.length (l.flatMap enc) hs hown ⟨g, 0, none⟩ 1 1 (enc p) hx (by rw [hk]; omega) ?_ (h1 p) (by unfold maxLen; omega) ?_ hbase ?_
  · intro j u hu
    rw [← hcs] at hu
    exact World.news_of_block (hb : w.heap[g]? = some (.cells cs e (0, 0))) j u hu
  · have : (l.length + 1) * bytes ≤ (4294967296 + 1) * 4096 := Nat.mul_le_mul (by omega) hby
    omega
  · intro v' w' h2 h3 _ h4
    have h5 : ∃ g' c', v' = .slice (some ⟨g', 0, none⟩) (l.length + 1) c' ∧ (some g' = v.ownBlock ∨ g' = w.heap.size) := by
      obtain ⟨g', c', rfl⟩ := ownsRow_succ h2
      refine ⟨g', c', rfl, ?_⟩
      rcases h4 with h4 | h4
      · exact .inl h4
      · exact .inr (by injection h4)
    refine h v' w' ?_ h3 h5
    show w'.ownsRow base e size v' (l ++ [p]).length _
    rw [List.flatMap_append, List.length_append]
    simpa using h2
end
end Go.Proofs.Ytiaeaegocfmjhaa
