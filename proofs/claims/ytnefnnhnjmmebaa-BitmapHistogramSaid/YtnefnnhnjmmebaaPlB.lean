/-
  Texts put together: List, Frame, List2, List3, List4.
-/
import Derived.Test.YtnefnnhnjmmebaaBase
import Derived.Maps.AppendAt
import Derived.Deep.Onto
import Derived.Deep.AppendLies
import Derived.RangeFuncBox
import Derived.Test.YtnefnnhnjmmebaaGo
import Derived.Deep.AppendSrc
import Derived.Deep.Upon
namespace Go.Proofs.Ytnefnnhnjmmebaa
open Go.RowKit

section
variable {α : Type} {enc : α → List Value} {size : Nat}

theorem flat_len (hk : ∀ x, (enc x).length = size) (l : List α) : (l.flatMap enc).length = l.length * size := by
  induction l with
  | nil => simp
  | cons r l ih => simp [ih, hk, Nat.succ_mul]; omega

theorem flat_at (hk : ∀ x, (enc x).length = size) (l : List α) : ∀ i (h : i < l.length) (j : Nat) (u : Value), (enc l[i])[j]? = some u → (l.flatMap enc)[i * size + j]? = some u := by
  induction l with
  | nil => intro i h; simp at h
  | cons r l ih =>
    intro i h j u hu
    have hj : j < size := by
      have := (List.getElem?_eq_some_iff.1 hu).1
      rw [hk] at this; exact this
    rw [List.flatMap_cons]
    cases i with
    | zero =>
      simp only [List.getElem_cons_zero] at hu
      rw [Nat.zero_mul, Nat.zero_add, List.getElem?_append_left (by rw [hk]; exact hj)]
      exact hu
    | succ i =>
      simp only [List.getElem_cons_succ] at hu
      have hlt : i < l.length := by simpa using h
      rw [List.getElem?_append_right (by rw [hk, Nat.succ_mul]; omega), hk]
      rw [show (i + 1) * size + j - size = i * size + j by rw [Nat.succ_mul]; omega]
      exact ih i hlt j u hu

/-- The slice at A reads as the list l. -/
def RdL (enc : α → List Value) (size : Nat) (w : World) (A : Option Addr) (l : List α) : Prop :=
  l ≠ [] → ∃ g o, A = some ⟨g, o, none⟩ ∧ g < w.heap.size ∧ ∀ i (h : i < l.length) (j : Nat) (u : Value), (enc l[i])[j]? = some u → w.cell? ⟨g, o + i * size + j, none⟩ = some u

theorem RdL.below {w w' : World} {A : Option Addr} {l : List α} (h : RdL enc size w A l) (hb : Below w.heap.size w w') : RdL enc size w' A l := fun hn => by
  obtain ⟨g, o, hA, hg, hc⟩ := h hn
  exact ⟨g, o, hA, Nat.lt_of_lt_of_le hg hb.size, fun i hi j u hu => (hb.cell (p := ⟨g, o + i * size + j, none⟩) hg).trans (hc i hi j u hu)⟩
theorem RdL.drew {w : World} {A : Option Addr} {l : List α} (h : RdL enc size w A l) : RdL enc size w.drew A l := h
theorem RdL.take {w : World} {A : Option Addr} {l : List α} (h : RdL enc size w A l) (n : Nat) : RdL enc size w A (l.take n) := fun hn => by
  obtain ⟨g, o, hA, hg, hc⟩ := h (by intro e; rw [e] at hn; simp at hn)
  refine ⟨g, o, hA, hg, fun i hi j u hu => hc i (by simp at hi; omega) j u ?_⟩
  rw [List.getElem_take] at hu
  exact hu
theorem RdL.nil {w : World} {A : Option Addr} : RdL enc size w A [] := fun h => absurd rfl h

/-- The call owns the slice v, and it holds the list l. -/
def OwnL (enc : α → List Value) (e : TypeId) (size : Nat) (w : World) (base : Nat) (v : Value) (l : List α) : Prop := w.ownsRow base e size v l.length (l.flatMap enc)

variable {e : TypeId}
theorem OwnL.nil (w : World) (base : Nat) : OwnL enc e size w base (.slice none 0 0) [] := World.ownsRow_nil _ _ _ _
theorem OwnL.alloc {w : World} {base : Nat} {v : Value} {l : List α} (h : OwnL enc e size w base v l) (o : Obj) : OwnL enc e size (w.alloc o) base v l := World.ownsRow.alloc h o
theorem OwnL.drew {w : World} {base : Nat} {v : Value} {l : List α} (h : OwnL enc e size w base v l) : OwnL enc e size w.drew base v l := h
theorem OwnL.mono {w : World} {base base' : Nat} {v : Value} {l : List α} (h : OwnL enc e size w base v l) (hb : base' ≤ base) : OwnL enc e size w base' v l := World.ownsRow.mono h hb
theorem OwnL.below {w w' : World} {base : Nat} {v : Value} {l : List α} (h : OwnL enc e size w base v l) (hb : Below w.heap.size w w') : OwnL enc e size w' base v l := by
  refine ⟨h.1, ?_⟩
  rcases h.2 with h2 | ⟨g, cap, cur, hv, hbg, hg, r⟩
  · exact Or.inl h2
  · exact Or.inr ⟨g, cap, cur, hv, hbg, (hb.block g (Array.getElem?_eq_some_iff.1 hg).1).trans hg, r⟩
theorem OwnL.form (hk : ∀ x, (enc x).length = size) {w : World} {base : Nat} {v : Value} {l : List α} (h : OwnL enc e size w base v l) : ∃ A c, v = .slice A l.length c ∧ RdL enc size w A l ∧ l.length ≤ c := by
  rcases h.2 with ⟨rfl, hn⟩ | ⟨g, cap, cur, rfl, hb, hg, hnc, hm, hs, ht⟩
  · exact ⟨none, 0, by rw [hn], fun hne => absurd (List.eq_nil_of_length_eq_zero hn) hne, by omega⟩
  · refine ⟨some ⟨g, 0, none⟩, cap, rfl, fun hne => ⟨g, 0, rfl, (Array.getElem?_eq_some_iff.1 hg).1, fun i hi j u hu => ?_⟩, hnc⟩
    have hj : j < size := by
      have := (List.getElem?_eq_some_iff.1 hu).1
      rw [hk] at this; exact this
    rw [Nat.zero_add]
    have hlt : i * size + j < l.length * size := by
      have : (i + 1) * size ≤ l.length * size := Nat.mul_le_mul_right _ hi
      rw [Nat.succ_mul] at this; omega
    exact (World.ownsRow.cellAt h _ hlt).trans (flat_at hk l i hi j u hu)
/-- A literal slice: a block that is just its cells. -/
theorem OwnL.lit {w : World} {base g : Nat} {cs : Array Value} {l : List α} (hk : ∀ x, (enc x).length = size) (hb : Bk w g e cs) (hg : base ≤ g) (hm : l.length ≤ maxLen) (hc : cs.toList = l.flatMap enc) :
    OwnL enc e size w base (.slice (some ⟨g, 0, none⟩) l.length l.length) l := by
  have hlen := flat_len hk l
  refine ⟨hlen, .inr ⟨g, l.length, cs, rfl, hg, hb, Nat.le_refl _, hm, ?_, ?_⟩⟩
  · rw [← Array.length_toList, hc, hlen]
  · rw [hc]; exact List.take_of_length_le (by rw [hlen]; exact Nat.le_refl _)

theorem rd_of_bk {w : World} {g : Nat} {cs : Array Value} {l : List α} (hk : ∀ x, (enc x).length = size) (hb : Bk w g e cs) (hc : cs.toList = l.flatMap enc) : RdL enc size w (some ⟨g, 0, none⟩) l := fun hn => by
  refine ⟨g, 0, rfl, hb.lt, fun i hi j u hu => ?_⟩
  rw [Nat.zero_add, hb.rules.1, ← Array.getElem?_toList, hc]
  exact flat_at hk l i hi j u hu
theorem Bk.grownRow {w w' : World} {g : Nat} {t : TypeId} {cs : Array Value} (h : Bk w g t cs) {base : Nat} {v : Value} {l : List α} (ho : OwnL enc e size w base v l) (hg : w.grownBy w' v.ownBlock) (hb : g < base) : Bk w' g t cs := h.grown hg (by
  intro he
  have := (World.ownsRow.lt ho g he.symm).1
  omega)
/-- What lay ahead of the rows is as it was. -/
theorem below_grown {w0 w w' : World} {base : Nat} {v : Value} {l : List α} (ho : OwnL enc e size w base v l) (hg : w.grownBy w' v.ownBlock) (hb : Below w0.heap.size w0 w) (hB : w0.heap.size ≤ base) : Below w0.heap.size w0 w' :=
  hb.grown hg hb.size (fun k hk => by have := (World.ownsRow.lt ho k hk).1; omega)

/-- Blocks of other element types, and blocks below the base, are no row of the slice's. -/
theorem OwnL.block_ne {w : World} {base : Nat} {v : Value} {l : List α} (h : OwnL enc e size w base v l) {g : Nat} (hg : g < base) : some g ≠ v.ownBlock := by
  intro he
  have := (World.ownsRow.lt h g he.symm).1
  omega

/-- append of one element to a slice that the call owns. -/
theorem wpList_append_one {P : Program} {ops : Array Oper} {rest : List Oper} {o : Oper} {a : Act} {w : World} {Q : Exit → Act → World → Prop} (hk : ∀ x, (enc x).length = size) (h1 : ∀ x, ∀ u ∈ enc x, u.oneCell' = true) {z : Value} {bytes : Nat} (t : TypeId)
    (hinfo : (P.info? e).map (fun i => (i.zero, i.size, i.bytes)) = some (some z, size, bytes)) (hzs : z.cells.size = size) (hsz : 0 < size) (hby : bytes ≤ 4096) (ht : P.underlying t = some (.slice e))
    (hgd : o.guard = none) (s x : Operand) (ho : o.op = .call { callee := .builtin .append, args := #[s, x], argTypes := #[t, t] })
    (base : Nat) (v : Value) (l : List α) (hs : a.eval s = v) (hown : OwnL enc e size w base v l) (g : Nat) (p : α) (hx : a.eval x = .slice (some ⟨g, 0, none⟩) 1 1) {cs : Array Value} (hb : Bk w g e cs) (hcs : cs.toList = enc p)
    (hlen : l.length ≤ 4294967296) (hbase : base ≤ w.heap.size)
    (h : ∀ v' w', OwnL enc e size w' base v' (l ++ [p]) → w.grownBy w' v.ownBlock → (∃ g' c', v' = .slice (some ⟨g', 0, none⟩) (l.length + 1) c' ∧ (some g' = v.ownBlock ∨ g' = w.heap.size)) → wpList P ops Q rest (a.put o.dst v') w') : wpList P ops Q (o :: rest) a w := by
  obtain ⟨i, hi, hz, hs1, hs2⟩ := info_parts hinfo
  refine wpList_append_own_at w hgd s x t ho base e i z size bytes ht hi hz hs1 hs2 hzs hsz v l.length (l.flatMap enc) hs hown ⟨g, 0, none⟩ 1 1 (enc p) hx (by rw [hk]; omega) ?_ (h1 p) (by unfold maxLen; omega) ?_ hbase ?_
  · intro j u hu
    rw [← hcs] at hu
    exact World.news_of_block (hb : w.heap[g]? = some (.cells cs e (0, 0))) j u hu
  · have : (l.length + 1) * bytes ≤ (4294967296 + 1) * 4096 := Nat.mul_le_mul (by omega) hby
    omega
  · intro v' w' h2 h3 _ h4
    have h5 : ∃ g' c', v' = .slice (some ⟨g', 0, none⟩) (l.length + 1) c' ∧ (some g' = v.ownBlock ∨ g' = w.heap.size) := by
      obtain ⟨g', c', rfl⟩ := ownsRow_succ h2
      refine ⟨g', c', rfl, ?_⟩
      rcases h4 with h4 | h4
      · exact .inl h4
      · exact .inr (by injection h4)
    refine h v' w' ?_ h3 h5
    show w'.ownsRow base e size v' (l ++ [p]).length _
    rw [List.flatMap_append, List.length_append]
    simpa using h2
end
end Go.Proofs.Ytnefnnhnjmmebaa

namespace Go.Proofs.Ytnefnnhnjmmebaa
open Go.RowKit

/-- From w to w' only blocks from base on whose element type is among T may have changed. -/
structure Fr (base : Nat) (T : List TypeId) (w w' : World) : Prop where
  os : w'.os = w.os
  tape : w'.tape = w.tape
  output : w'.output = w.output
  size : w.heap.size ≤ w'.heap.size
  block : ∀ k, k < w.heap.size → (k < base ∨ ∀ cs t fr, w.heap[k]? = some (.cells cs t fr) → t ∉ T) → w'.heap[k]? = w.heap[k]?

section
variable {base : Nat} {T : List TypeId} {a b c : World}
theorem Fr.refl (base : Nat) (T : List TypeId) (a : World) : Fr base T a a := ⟨rfl, rfl, rfl, Nat.le_refl _, fun _ _ _ => rfl⟩
theorem Fr.trans (h : Fr base T a b) (k : Fr base T b c) : Fr base T a c :=
  ⟨k.os.trans h.os, k.tape.trans h.tape, k.output.trans h.output, Nat.le_trans h.size k.size, fun i hi hx => by
    have e := h.block i hi hx
    refine (k.block i (Nat.lt_of_lt_of_le hi h.size) ?_).trans e
    rcases hx with hx | hx
    · exact .inl hx
    · exact .inr (fun cs t fr hc => hx cs t fr (by rw [← e]; exact hc))⟩
theorem Fr.ofBelow (h : Below a.heap.size a b) : Fr base T a b := ⟨h.os, h.tape, h.output, h.size, fun k hk _ => h.block k hk⟩
theorem Fr.drew (h : Fr base T a b) : Fr base T a b.drew := ⟨h.os, h.tape, h.output, h.size, h.block⟩
theorem Fr.alloc (h : Fr base T a b) (o : Obj) : Fr base T a (b.alloc o) := h.trans (Fr.ofBelow ((Below.refl _ _).alloc (Nat.le_refl _) _))
theorem Fr.step (h : Fr base T a b) (k : Below b.heap.size b c) : Fr base T a c := h.trans (Fr.ofBelow k)
theorem Fr.set {g : Nat} {t : TypeId} {cs : Array Value} (h : Fr base T a b) (hb : Bk b g t cs) (ht : t ∈ T) (hg : base ≤ g) (i : Nat) (u : Value) : Fr base T a (b.setCell ⟨g, i, none⟩ u) :=
  h.trans ⟨rfl, rfl, rfl, by simp [World.setCell], fun k hk hx => Below.heap_setCell _ _ _ _ (by
    intro e
    have e : k = g := e
    subst e
    rcases hx with hx | hx
    · omega
    · exact hx cs t (0, 0) hb ht)⟩
theorem Fr.grown {α : Type} {enc : α → List Value} {e : TypeId} {sz : Nat} {v : Value} {l : List α} (h : Fr base T a b) (ho : OwnL enc e sz b base v l) (hg : b.grownBy c v.ownBlock) (ht : e ∈ T) : Fr base T a c :=
  h.trans ⟨hg.os, hg.tape, hg.output, hg.size, fun k hk hx => hg.block k hk (fun he => by
    rcases ho.2 with ⟨rfl, _⟩ | ⟨g, cap, cur, rfl, hbg, hh, _⟩
    · simp [Value.ownBlock] at he
    · simp [Value.ownBlock] at he
      subst he
      rcases hx with hx | hx
      · omega
      · exact hx cur e (0, 0) hh ht)⟩
theorem Fr.below (h : Fr base T a b) {w0 : World} (hw : Below w0.heap.size w0 a) (hb : w0.heap.size ≤ base) : Below w0.heap.size w0 b :=
  hw.trans ⟨h.os, h.tape, h.output, h.size, fun k hk => h.block k (Nat.lt_of_lt_of_le hk hw.size) (.inl (by omega))⟩
theorem Bk.fr {g : Nat} {t : TypeId} {cs : Array Value} (hb : Bk a g t cs) (h : Fr base T a b) (ht : t ∉ T) : Bk b g t cs :=
  (h.block g hb.lt (.inr (fun cs' t' fr' hc => by unfold Bk at hb; rw [hb] at hc; injection hc with hc; injection hc with _ e; rw [← e]; exact ht))).trans hb
theorem Bk.frOld {g : Nat} {t : TypeId} {cs : Array Value} (hb : Bk a g t cs) (h : Fr base T a b) (hg : g < base) : Bk b g t cs := (h.block g hb.lt (.inl hg)).trans hb
theorem OwnL.fr {α : Type} {enc : α → List Value} {e : TypeId} {sz base' : Nat} {v : Value} {l : List α} (ho : OwnL enc e sz a base' v l) (h : Fr base T a b) (ht : e ∉ T) : OwnL enc e sz b base' v l := by
  refine ⟨ho.1, ?_⟩
  rcases ho.2 with h2 | ⟨g, cap, cur, hv, hbg, hg, r⟩
  · exact Or.inl h2
  · exact Or.inr ⟨g, cap, cur, hv, hbg, Bk.fr (t := e) hg h ht, r⟩
theorem RdL.frOld {α : Type} {enc : α → List Value} {sz : Nat} {A : Option Addr} {l : List α} (hr : RdL enc sz a A l) (h : Fr base T a b) (hA : ∀ g o, A = some ⟨g, o, none⟩ → g < base) : RdL enc sz b A l := fun hn => by
  obtain ⟨g, o, he, hg, hc⟩ := hr hn
  refine ⟨g, o, he, Nat.lt_of_lt_of_le hg h.size, fun i hi j u hu => ?_⟩
  exact (World.cell?_of_block (a := ⟨g, o + i * sz + j, none⟩) (w := a) (h.block g hg (.inl (hA g o he)))).trans (hc i hi j u hu)
end

/-- A block of another element type is no row of the slice's. -/
theorem OwnL.neBk {α : Type} {enc : α → List Value} {e : TypeId} {sz : Nat} {w : World} {base : Nat} {v : Value} {l : List α} (ho : OwnL enc e sz w base v l) {g : Nat} {t : TypeId} {cs : Array Value} (hb : Bk w g t cs) (hne : e ≠ t) : some g ≠ v.ownBlock := by
  rcases ho.2 with ⟨rfl, _⟩ | ⟨g', cap, cur, rfl, _, hh, _⟩
  · simp [Value.ownBlock]
  · intro he
    have he : g = g' := by simpa [Value.ownBlock] using he
    subst he
    unfold Bk at hb
    rw [hb] at hh
    injection hh with hh
    injection hh with _ e1
    exact hne e1.symm
theorem OwnL.setFar {α : Type} {enc : α → List Value} {e : TypeId} {sz : Nat} {w : World} {base : Nat} {v : Value} {l : List α} (ho : OwnL enc e sz w base v l) {g : Nat} {t : TypeId} {cs : Array Value} (hb : Bk w g t cs) (hne : e ≠ t) (i : Nat) (u : Value) : OwnL enc e sz (w.setCell ⟨g, i, none⟩ u) base v l :=
  ownsRow_setCell_other ho (fun h => ho.neBk hb hne h.symm) u

theorem flat_set {α : Type} {enc : α → List Value} {size : Nat} (hk : ∀ x, (enc x).length = size) : ∀ (l : List α) (i : Nat) (h : i < l.length) (j : Nat) (u : Value) (x : α), j < size → enc x = (enc l[i]).set j u → (l.flatMap enc).set (i * size + j) u = (l.set i x).flatMap enc
  | [], i, h, _, _, _, _, _ => by simp at h
  | r :: l, 0, _, j, u, x, hj, he => by
    simp only [List.getElem_cons_zero] at he
    rw [Nat.zero_mul, Nat.zero_add, List.flatMap_cons, List.set_append_left _ _ (by rw [hk]; exact hj), List.set_cons_zero, List.flatMap_cons, he]
  | r :: l, i + 1, h, j, u, x, hj, he => by
    simp only [List.getElem_cons_succ] at he
    rw [List.flatMap_cons, List.set_append_right _ _ (by rw [hk, Nat.succ_mul]; omega), hk, show (i + 1) * size + j - size = i * size + j by rw [Nat.succ_mul]; omega, List.set_cons_succ, List.flatMap_cons,
      flat_set hk l i (by simpa using h) j u x hj he]

/-- A store into one cell of an element. -/
theorem OwnL.storeAt {α : Type} {enc : α → List Value} {e : TypeId} {sz : Nat} (hk : ∀ x, (enc x).length = sz) {w : World} {base g cap n : Nat} {l : List α} (h : OwnL enc e sz w base (.slice (some ⟨g, 0, none⟩) n cap) l) {i : Nat} (hi : i < l.length) (j : Nat) (u : Value) (x : α) (hj : j < sz) (he : enc x = (enc l[i]).set j u) (hn : n = l.length) :
    OwnL enc e sz (w.setCell ⟨g, i * sz + j, none⟩ u) base (.slice (some ⟨g, 0, none⟩) n cap) (l.set i x) := by
  subst hn
  have h1 := World.ownsRow.stored h (i * sz + j) u
  show World.ownsRow _ base e sz _ (l.set i x).length _
  rw [List.length_set, ← flat_set hk l i hi j u x hj he]
  exact h1.1

/-- The block of an owned slice, known whole. -/
theorem OwnL.block {α : Type} {enc : α → List Value} {e : TypeId} {sz : Nat} {w : World} {base : Nat} {v : Value} {l : List α} (h : OwnL enc e sz w base v l) (hl : l ≠ []) : ∃ g cap cur, v = .slice (some ⟨g, 0, none⟩) l.length cap ∧ base ≤ g ∧ Bk w g e cur ∧ l.length ≤ cap ∧ cap ≤ maxLen ∧ cur.size = cap * sz ∧ cur.toList.take (l.length * sz) = l.flatMap enc := by
  rcases h.2 with ⟨_, hn⟩ | ⟨g, cap, cur, rfl, hb, hg, hnc, hm, hs, ht⟩
  · exact absurd (List.eq_nil_of_length_eq_zero hn) hl
  · exact ⟨g, cap, cur, rfl, hb, hg, hnc, hm, hs, ht⟩

/-- append of one element, as one operation. -/
theorem wp_append_one {α : Type} {enc : α → List Value} {size : Nat} {e : TypeId} {P : Program} {o : Oper} {a : Act} {w : World} {K : Act → World → Prop} {Q : Exit → Act → World → Prop} (hk : ∀ x, (enc x).length = size) (h1 : ∀ x, ∀ u ∈ enc x, u.oneCell' = true) {z : Value} {bytes : Nat} (t : TypeId)
    (hinfo : (P.info? e).map (fun i => (i.zero, i.size, i.bytes)) = some (some z, size, bytes)) (hzs : z.cells.size = size) (hsz : 0 < size) (hby : bytes ≤ 4096) (ht : P.underlying t = some (.slice e))
    (s x : Operand) (ho : o.op = .call { callee := .builtin .append, args := #[s, x], argTypes := #[t, t] })
    (base : Nat) (v : Value) (l : List α) (hs : a.eval s = v) (hown : OwnL enc e size w base v l) (g : Nat) (p : α) (hx : a.eval x = .slice (some ⟨g, 0, none⟩) 1 1) {cs : Array Value} (hb : Bk w g e cs) (hcs : cs.toList = enc p)
    (hlen : l.length ≤ 4294967296) (hbase : base ≤ w.heap.size)
    (h : ∀ v' w', OwnL enc e size w' base v' (l ++ [p]) → w.grownBy w' v.ownBlock → (∃ g' c', v' = .slice (some ⟨g', 0, none⟩) (l.length + 1) c' ∧ (some g' = v.ownBlock ∨ g' = w.heap.size)) → K (a.put o.dst v') w') : o.wp P a w K Q := by
  obtain ⟨i, hi, hz, hs1, hs2⟩ := info_parts hinfo
  have hbyt : (l.length + 1) * bytes ≤ 140737488355328 := by
    have : (l.length + 1) * bytes ≤ (4294967296 + 1) * 4096 := Nat.mul_le_mul (by omega) hby
    omega
  obtain ⟨v', w', hrun, h2, h3, _, h4⟩ := run_append_own_at (P := P) w base t o.type e i z size bytes ht hi hz hs1 hs2 hzs hsz v l.length (l.flatMap enc) hown ⟨g, 0, none⟩ 1 1 (enc p) (by rw [hk]; omega)
    (fun j u hu => World.news_of_block (hb : w.heap[g]? = some (.cells cs e (0, 0))) j u (by rw [hcs]; exact hu)) (h1 p) (by unfold maxLen; omega) hbyt hbase
  unfold Oper.wp execOp
  simp only [ho, resolve, invoke, builtin, Sem.run_bind, Sem.run_pure, Result.andThen_ok, List.map_toArray, List.map_cons, List.map_nil, hs, hx, hrun]
  refine h v' w' ?_ h3 ?_
  · show w'.ownsRow base e size v' (l ++ [p]).length _
    rw [List.flatMap_append, List.length_append]
    simpa using h2
  · obtain ⟨g', c', rfl⟩ := ownsRow_succ h2
    refine ⟨g', c', rfl, ?_⟩
    rcases h4 with h4 | h4
    · exact .inl h4
    · exact .inr (by injection h4)

/-- One operation without a guard that is carried out where it stands. -/
theorem wpGo_effp {P : Program} {ops : Array Oper} {Q : Exit → Act → World → Prop} {S : World → Prop} {T : Act → World → Prop} {i : Nat} {dst : Option Tmp} {op : Op} {ty : TypeId} {pos : String} {aft : Array Edge} {r : List (Nat × Bool)} {a : Act} {w : World} (ho : ops[i]? = some ⟨dst, op, ty, pos, aft, none⟩)
    (h : ∀ K : Act → World → Prop, Shut (∀ a w, S w → (S w → wpGo P ops Q S T r a w) → K a w) → Oper.wp P ⟨dst, op, ty, pos, aft, none⟩ a w K Q) : wpGo P ops Q S T ((i, false) :: r) a w :=
  wpGo_eff ho (fun K hK => by simp only [Region.wanted, if_true]; exact h K hK)
end Go.Proofs.Ytnefnnhnjmmebaa

namespace Go.Proofs.Ytnefnnhnjmmebaa
open Go.RowKit

section
variable {α : Type} {enc : α → List Value} {size : Nat} {e : TypeId}
theorem wpList_append_list {P : Program} {ops : Array Oper} {rest : List Oper} {o : Oper} {a : Act} {w : World} {Q : Exit → Act → World → Prop} (hk : ∀ x, (enc x).length = size) (h1 : ∀ x, ∀ u ∈ enc x, u.oneCell' = true) {z : Value} {bytes : Nat} (t : TypeId)
    (hinfo : (P.info? e).map (fun i => (i.zero, i.size, i.bytes)) = some (some z, size, bytes)) (hzs : z.cells.size = size) (hsz : 0 < size) (hby : bytes ≤ 4096) (ht : P.underlying t = some (.slice e))
    (hgd : o.guard = none) (s x : Operand) (ho : o.op = .call { callee := .builtin .append, args := #[s, x], argTypes := #[t, t] })
    (base : Nat) (v : Value) (l : List α) (hs : a.eval s = v) (hown : OwnL enc e size w base v l) (g m c : Nat) (ps : List α) (hx : a.eval x = .slice (some ⟨g, 0, none⟩) m c) (hm : ps.length = m) {cs : Array Value} (hb : Bk w g e cs) (hcs : cs.toList = ps.flatMap enc)
    (hlen : l.length + m ≤ 4294967296) (hbase : base ≤ w.heap.size)
    (h : ∀ v' w', OwnL enc e size w' base v' (l ++ ps) → w.grownBy w' v.ownBlock → wpList P ops Q rest (a.put o.dst v') w') : wpList P ops Q (o :: rest) a w := by
  obtain ⟨i, hi, hz, hs1, hs2⟩ := info_parts hinfo
  refine wpList_append_own_at w hgd s x t ho base e i z size bytes ht hi hz hs1 hs2 hzs hsz v l.length (l.flatMap enc) hs hown ⟨g, 0, none⟩ m c (ps.flatMap enc) hx (by rw [flat_len hk, hm]) ?_ ?_ (by unfold maxLen; omega) ?_ hbase ?_
  · intro j u hu
    rw [← hcs] at hu
    exact World.news_of_block (hb : w.heap[g]? = some (.cells cs e (0, 0))) j u hu
  · intro u hu
    obtain ⟨p, _, hp⟩ := List.mem_flatMap.1 hu
    exact h1 p u hp
  · have : (l.length + m) * bytes ≤ 4294967296 * 4096 := Nat.mul_le_mul hlen hby
    omega
  · intro v' w' h2 h3 _ _
    refine h v' w' ?_ h3
    show w'.ownsRow base e size v' (l ++ ps).length _
    rw [List.flatMap_append, List.length_append, hm]
    exact h2
end
def encB (x : Int) : List Value := [.int .u8 x]
theorem encB_len (x : Int) : (encB x).length = 1 := rfl
theorem encB_one (x : Int) : ∀ u ∈ encB x, u.oneCell' = true := by intro u hu; simp [encB] at hu; subst hu; rfl
end Go.Proofs.Ytnefnnhnjmmebaa

namespace Go.Proofs.Ytnefnnhnjmmebaa
open Go.RowKit

theorem grefl' (w : World) (row : Option Nat) : w.grownBy w row := ⟨rfl, rfl, rfl, Nat.le_refl _, fun _ _ _ => rfl⟩
section
variable {α : Type} {enc : α → List Value} {size : Nat} {e : TypeId}
theorem run_append_rd {P : Program} (w : World) (hk : ∀ x, (enc x).length = size) (h1 : ∀ x, ∀ u ∈ enc x, u.oneCell' = true) {z : Value} {bytes : Nat} (t ty : TypeId)
    (hinfo : (P.info? e).map (fun i => (i.zero, i.size, i.bytes)) = some (some z, size, bytes)) (hzs : z.cells.size = size) (hsz : 0 < size) (hby : bytes ≤ 4096) (ht : P.underlying t = some (.slice e))
    (base : Nat) (v : Value) (l : List α) (hown : OwnL enc e size w base v l) (A : Option Addr) (m c : Nat) (ps : List α) (hm : ps.length = m) (hrd : RdL enc size w A ps)
    (hlen : l.length + m ≤ 4294967296) (hbase : base ≤ w.heap.size) :
    ∃ v' w', (Builtin.append_ #[t, t] ty #[v, .slice A m c]).run P w = .ok v' w' ∧ OwnL enc e size w' base v' (l ++ ps) ∧ w.grownBy w' v.ownBlock := by
  obtain ⟨i, hi, hz, hs1, hs2⟩ := info_parts hinfo
  by_cases hp : ps = []
  · subst hp
    have hm0 : m = 0 := by simpa using hm.symm
    subst hm0
    have hsrc : Src P i.size t (.slice A 0 c) 0 [] w := by
      cases A with
      | none => exact Src.ofNil w ht c
      | some a => exact Src.ofSlice w ht a 0 c [] (by simp) (by intro j u hu; simp at hu) (by intro u hu; simp at hu)
    rw [List.append_nil]
    rcases hown.2 with ⟨rfl, _⟩ | ⟨g, cap, cur, rfl, _, _, hnc, _⟩
    · exact ⟨_, w, run_append_nothing w t t ty e i ht hi none 0 0 (Nat.le_refl _) _ hsrc, hown, grefl' _ _⟩
    · exact ⟨_, w, run_append_nothing w t t ty e i ht hi _ _ _ hnc _ hsrc, hown, grefl' _ _⟩
  · obtain ⟨g, o, rfl, hg, hc⟩ := hrd hp
    have hbyt : (l.length + m) * bytes ≤ 140737488355328 := by
      have : (l.length + m) * bytes ≤ 4294967296 * 4096 := Nat.mul_le_mul hlen hby
      omega
    obtain ⟨v', w', hrun, h2, h3, _, h4⟩ := run_append_own_at (P := P) w base t ty e i z size bytes ht hi hz hs1 hs2 hzs hsz v l.length (l.flatMap enc) hown ⟨g, o, none⟩ m c (ps.flatMap enc) (by rw [flat_len hk, hm])
      (fun j u hu => by
        have hj : j < ps.length * size := by rw [← flat_len hk]; exact (List.getElem?_eq_some_iff.1 hu).1
        have hd := Nat.div_add_mod j size
        have hmd := Nat.mod_lt j hsz
        have hq : j / size < ps.length := (Nat.div_lt_iff_lt_mul hsz).2 hj
        have hex : ∃ u', (enc ps[j / size])[j % size]? = some u' := ⟨_, List.getElem?_eq_getElem (by rw [hk]; exact hmd)⟩
        obtain ⟨u', hu'⟩ := hex
        have h5 := flat_at hk ps (j / size) hq (j % size) u' hu'
        rw [Nat.mul_comm, hd, hu] at h5
        injection h5 with h5
        subst h5
        have h6 := hc (j / size) hq (j % size) u hu'
        have h7 : (⟨g, o, none⟩ : Addr).add j = ⟨g, o + j, none⟩ := by unfold Addr.add; split <;> simp_all
        rw [h7, ← h6]
        congr 2
        rw [Nat.mul_comm] at hd
        omega)
      (fun u hu => by obtain ⟨p, _, hp'⟩ := List.mem_flatMap.1 hu; exact h1 p u hp') (by unfold maxLen; omega) hbyt hbase
    refine ⟨v', w', hrun, ?_, h3⟩
    show w'.ownsRow base e size v' (l ++ ps).length _
    rw [List.flatMap_append, List.length_append, hm]
    exact h2
theorem wpList_append_rd {P : Program} {ops : Array Oper} {rest : List Oper} {o : Oper} {a : Act} {w : World} {Q : Exit → Act → World → Prop} (hk : ∀ x, (enc x).length = size) (h1 : ∀ x, ∀ u ∈ enc x, u.oneCell' = true) {z : Value} {bytes : Nat} (t : TypeId)
    (hinfo : (P.info? e).map (fun i => (i.zero, i.size, i.bytes)) = some (some z, size, bytes)) (hzs : z.cells.size = size) (hsz : 0 < size) (hby : bytes ≤ 4096) (ht : P.underlying t = some (.slice e))
    (hgd : o.guard = none) (s x : Operand) (ho : o.op = .call { callee := .builtin .append, args := #[s, x], argTypes := #[t, t] })
    (base : Nat) (v : Value) (l : List α) (hs : a.eval s = v) (hown : OwnL enc e size w base v l) (A : Option Addr) (m c : Nat) (ps : List α) (hx : a.eval x = .slice A m c) (hm : ps.length = m) (hrd : RdL enc size w A ps)
    (hlen : l.length + m ≤ 4294967296) (hbase : base ≤ w.heap.size)
    (h : ∀ v' w', OwnL enc e size w' base v' (l ++ ps) → w.grownBy w' v.ownBlock → wpList P ops Q rest (a.put o.dst v') w') : wpList P ops Q (o :: rest) a w := by
  refine wpList_plain hgd fun K hK => ?_
  obtain ⟨v', w', hrun, h2, h3⟩ := run_append_rd (P := P) w hk h1 t o.type hinfo hzs hsz hby ht base v l hown A m c ps hm hrd hlen hbase
  unfold Oper.wp execOp
  simp only [ho, resolve, invoke, builtin, Sem.run_bind, Sem.run_pure, Result.andThen_ok, List.map_toArray, List.map_cons, List.map_nil, hs, hx, hrun]
  exact hK _ _ (h v' w' h2 h3)
theorem wp_append_rd {P : Program} {o : Oper} {a : Act} {w : World} {K : Act → World → Prop} {Q : Exit → Act → World → Prop} (hk : ∀ x, (enc x).length = size) (h1 : ∀ x, ∀ u ∈ enc x, u.oneCell' = true) {z : Value} {bytes : Nat} (t : TypeId)
    (hinfo : (P.info? e).map (fun i => (i.zero, i.size, i.bytes)) = some (some z, size, bytes)) (hzs : z.cells.size = size) (hsz : 0 < size) (hby : bytes ≤ 4096) (ht : P.underlying t = some (.slice e))
    (s x : Operand) (ho : o.op = .call { callee := .builtin .append, args := #[s, x], argTypes := #[t, t] })
    (base : Nat) (v : Value) (l : List α) (hs : a.eval s = v) (hown : OwnL enc e size w base v l) (A : Option Addr) (m c : Nat) (ps : List α) (hx : a.eval x = .slice A m c) (hm : ps.length = m) (hrd : RdL enc size w A ps)
    (hlen : l.length + m ≤ 4294967296) (hbase : base ≤ w.heap.size)
    (h : ∀ v' w', OwnL enc e size w' base v' (l ++ ps) → w.grownBy w' v.ownBlock → K (a.put o.dst v') w') : o.wp P a w K Q := by
  obtain ⟨v', w', hrun, h2, h3⟩ := run_append_rd (P := P) w hk h1 t o.type hinfo hzs hsz hby ht base v l hown A m c ps hm hrd hlen hbase
  unfold Oper.wp execOp
  simp only [ho, resolve, invoke, builtin, Sem.run_bind, Sem.run_pure, Result.andThen_ok, List.map_toArray, List.map_cons, List.map_nil, hs, hx, hrun]
  exact h v' w' h2 h3
/-- What a slice reads as lies as it lay where another block has grown. -/
theorem RdL.grown {w w' : World} {A : Option Addr} {l : List α} (h : RdL enc size w A l) {row : Option Nat} (hg : w.grownBy w' row) (hA : ∀ g o, A = some ⟨g, o, none⟩ → some g ≠ row) : RdL enc size w' A l := fun hn => by
  obtain ⟨g, o, he, hlt, hc⟩ := h hn
  refine ⟨g, o, he, Nat.lt_of_lt_of_le hlt hg.size, fun i hi j u hu => ?_⟩
  exact (World.cell?_of_block (a := ⟨g, o + i * size + j, none⟩) (w := w) (hg.block g hlt (hA g o he))).trans (hc i hi j u hu)
end
end Go.Proofs.Ytnefnnhnjmmebaa

namespace Go.Proofs.Ytnefnnhnjmmebaa
open Go.RowKit
theorem OwnL.form2 {α : Type} {enc : α → List Value} {size : Nat} {e : TypeId} (hk : ∀ x, (enc x).length = size) {w : World} {base : Nat} {v : Value} {l : List α} (h : OwnL enc e size w base v l) : ∃ A c, v = .slice A l.length c ∧ RdL enc size w A l ∧ l.length ≤ c ∧ c ≤ maxLen := by
  rcases h.2 with ⟨rfl, hn⟩ | ⟨g, cap, cur, rfl, hb, hg, hnc, hm, hs, ht⟩
  · exact ⟨none, 0, by rw [hn], fun hne => absurd (List.eq_nil_of_length_eq_zero hn) hne, by omega, by unfold maxLen; omega⟩
  · obtain ⟨A, c, hv, hr, hc⟩ := h.form hk
    injection hv with h1 h2 h3
    subst h1 h3
    exact ⟨_, _, rfl, hr, hc, hm⟩
end Go.Proofs.Ytnefnnhnjmmebaa
