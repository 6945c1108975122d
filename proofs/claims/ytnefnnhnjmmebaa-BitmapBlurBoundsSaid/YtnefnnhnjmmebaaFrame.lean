/-
  What a call that writes into blocks of certain element types alone leaves as it was.
-/
import Derived.Test.YtnefnnhnjmmebaaList
import Derived.Test.YtnefnnhnjmmebaaGo
namespace Go.Proofs.Ytnefnnhnjmmebaa
open Go.RowKit

/-- From w to w' only blocks from base on whose element type is among T may have changed. -/
structure Fr (base : Nat) (T : List TypeId) (w w' : World) : Prop where
  os : w'.os = w.os
  tape : w'.tape = w.tape
  output : w'.output = w.output
  size : w.heap.size ≤ w'.heap.size
  block : ∀ k, k < w.heap.size → (k < base ∨ ∀ cs t fr, w.heap[k]? = some (.cells cs t fr) → t ∉ T) → w'.heap[k]? = w.heap[k]?

section
variable {base : Nat} {T : List TypeId} {a b c : World}
theorem Fr.refl (base : Nat) (T : List TypeId) (a : World) : Fr base T a a := ⟨rfl, rfl, rfl, Nat.le_refl _, fun _ _ _ => rfl⟩
theorem Fr.trans (h : Fr base T a b) (k : Fr base T b c) : Fr base T a c :=
  ⟨k.os.trans h.os, k.tape.trans h.tape, k.output.trans h.output, Nat.le_trans h.size k.size, fun i hi hx => by
    have e := h.block i hi hx
    refine (k.block i (Nat.lt_of_lt_of_le hi h.size) ?_).trans e
    rcases hx with hx | hx
    · exact .inl hx
    · exact .inr (fun cs t fr hc => hx cs t fr (by rw [← e]; exact hc))⟩
theorem Fr.ofBelow (h : Below a.heap.size a b) : Fr base T a b := ⟨h.os, h.tape, h.output, h.size, fun k hk _ => h.block k hk⟩
theorem Fr.drew (h : Fr base T a b) : Fr base T a b.drew := ⟨h.os, h.tape, h.output, h.size, h.block⟩
theorem Fr.alloc (h : Fr base T a b) (o : Obj) : Fr base T a (b.alloc o) := h.trans (Fr.ofBelow ((Below.refl _ _).alloc (Nat.le_refl _) _))
theorem Fr.step (h : Fr base T a b) (k : Below b.heap.size b c) : Fr base T a c := h.trans (Fr.ofBelow k)
theorem Fr.set {g : Nat} {t : TypeId} {cs : Array Value} (h : Fr base T a b) (hb : Bk b g t cs) (ht : t ∈ T) (hg : base ≤ g) (i : Nat) (u : Value) : Fr base T a (b.setCell ⟨g, i, none⟩ u) :=
  h.trans ⟨rfl, rfl, rfl, by simp [World.setCell], fun k hk hx => Below.heap_setCell _ _ _ _ (by
    intro e
    have e : k = g := e
    subst e
    rcases hx with hx | hx
    · omega
    · exact hx cs t (0, 0) hb ht)⟩
theorem Fr.grown {α : Type} {enc : α → List Value} {e : TypeId} {sz : Nat} {v : Value} {l : List α} (h : Fr base T a b) (ho : OwnL enc e sz b base v l) (hg : b.grownBy c v.ownBlock) (ht : e ∈ T) : Fr base T a c :=
  h.trans ⟨hg.os, hg.tape, hg.output, hg.size, fun k hk hx => hg.block k hk (fun he => by
    rcases ho.2 with ⟨rfl, _⟩ | ⟨g, cap, cur, rfl, hbg, hh, _⟩
    · simp [Value.ownBlock] at he
    · simp [Value.ownBlock] at he
      subst he
      rcases hx with hx | hx
      · omega
      · exact hx cur e (0, 0) hh ht)⟩
theorem Fr.below (h : Fr base T a b) {w0 : World} (hw : Below w0.heap.size w0 a) (hb : w0.heap.size ≤ base) : Below w0.heap.size w0 b :=
  hw.trans ⟨h.os, h.tape, h.output, h.size, fun k hk => h.block k (Nat.lt_of_lt_of_le hk hw.size) (.inl (by omega))⟩
theorem Bk.fr {g : Nat} {t : TypeId} {cs : Array Value} (hb : Bk a g t cs) (h : Fr base T a b) (ht : t ∉ T) : Bk b g t cs :=
  (h.block g hb.lt (.inr (fun cs' t' fr' hc => by unfold Bk at hb; rw [hb] at hc; injection hc with hc; injection hc with _ e; rw [← e]; exact ht))).trans hb
theorem Bk.frOld {g : Nat} {t : TypeId} {cs : Array Value} (hb : Bk a g t cs) (h : Fr base T a b) (hg : g < base) : Bk b g t cs := (h.block g hb.lt (.inl hg)).trans hb
theorem OwnL.fr {α : Type} {enc : α → List Value} {e : TypeId} {sz base' : Nat} {v : Value} {l : List α} (ho : OwnL enc e sz a base' v l) (h : Fr base T a b) (ht : e ∉ T) : OwnL enc e sz b base' v l := by
  refine ⟨ho.1, ?_⟩
  rcases ho.2 with h2 | ⟨g, cap, cur, hv, hbg, hg, r⟩
  · exact Or.inl h2
  · exact Or.inr ⟨g, cap, cur, hv, hbg, Bk.fr (t := e) hg h ht, r⟩
theorem RdL.frOld {α : Type} {enc : α → List Value} {sz : Nat} {A : Option Addr} {l : List α} (hr : RdL enc sz a A l) (h : Fr base T a b) (hA : ∀ g o, A = some ⟨g, o, none⟩ → g < base) : RdL enc sz b A l := fun hn => by
  obtain ⟨g, o, he, hg, hc⟩ := hr hn
  refine ⟨g, o, he, Nat.lt_of_lt_of_le hg h.size, fun i hi j u hu => ?_⟩
  exact (World.cell?_of_block (a := ⟨g, o + i * sz + j, none⟩) (w := a) (h.block g hg (.inl (hA g o he)))).trans (hc i hi j u hu)
end

/-- A block of another element type is no row of the slice's. -/
theorem OwnL.neBk {α : Type} {enc : α → List Value} {e : TypeId} {sz : Nat} {w : World} {base : Nat} {v : Value} {l : List α} (ho : OwnL enc e sz w base v l) {g : Nat} {t : TypeId} {cs : Array Value} (hb : Bk w g t cs) (hne : e ≠ t) : some g ≠ v.ownBlock := by
  rcases ho.2 with ⟨rfl, _⟩ | ⟨g', cap, cur, rfl, _, hh, _⟩
  · simp [Value.ownBlock]
  · intro he
    have he : g = g' := by simpa [Value.ownBlock] using he
    subst he
    unfold Bk at hb
    rw [hb] at hh
    injection hh with hh
    injection hh with _ e1
    exact hne e1.symm
theorem OwnL.setFar {α : Type} {enc : α → List Value} {e : TypeId} {sz : Nat} {w : World} {base : Nat} {v : Value} {l : List α} (ho : OwnL enc e sz w base v l) {g : Nat} {t : TypeId} {cs : Array Value} (hb : Bk w g t cs) (hne : e ≠ t) (i : Nat) (u : Value) : OwnL enc e sz (w.setCell ⟨g, i, none⟩ u) base v l :=
  ownsRow_setCell_other ho (fun h => ho.neBk hb hne h.symm) u

theorem flat_set {α : Type} {enc : α → List Value} {size : Nat} (hk : ∀ x, (enc x).length = size) : ∀ (l : List α) (i : Nat) (h : i < l.length) (j : Nat) (u : Value) (x : α), j < size → enc x = (enc l[i]).set j u → (l.flatMap enc).set (i * size + j) u = (l.set i x).flatMap enc
  | [], i, h, _, _, _, _, _ => by simp at h
  | r :: l, 0, _, j, u, x, hj, he => by
    simp only [List.getElem_cons_zero] at he
    rw [Nat.zero_mul, Nat.zero_add, List.flatMap_cons, List.set_append_left _ _ (by rw [hk]; exact hj), List.set_cons_zero, List.flatMap_cons, he]
  | r :: l, i + 1, h, j, u, x, hj, he => by
    simp only [List.getElem_cons_succ] at he
    rw [List.flatMap_cons, List.set_append_right _ _ (by rw [hk, Nat.succ_mul]; omega), hk, show (i + 1) * size + j - size = i * size + j by rw [Nat.succ_mul]; omega, List.set_cons_succ, List.flatMap_cons,
      flat_set hk l i (by simpa using h) j u x hj he]

/-- A store into one cell of an element. -/
theorem OwnL.storeAt {α : Type} {enc : α → List Value} {e : TypeId} {sz : Nat} (hk : ∀ x, (enc x).length = sz) {w : World} {base g cap n : Nat} {l : List α} (h : OwnL enc e sz w base (.slice (some ⟨g, 0, none⟩) n cap) l) {i : Nat} (hi : i < l.length) (j : Nat) (u : Value) (x : α) (hj : j < sz) (he : enc x = (enc l[i]).set j u) (hn : n = l.length) :
    OwnL enc e sz (w.setCell ⟨g, i * sz + j, none⟩ u) base (.slice (some ⟨g, 0, none⟩) n cap) (l.set i x) := by
  subst hn
  have h1 := World.ownsRow.stored h (i * sz + j) u
  show World.ownsRow _ base e sz _ (l.set i x).length _
  rw [List.length_set, ← flat_set hk l i hi j u x hj he]
  exact h1.1

/-- The block of an owned slice, known whole. -/
theorem OwnL.block {α : Type} {enc : α → List Value} {e : TypeId} {sz : Nat} {w : World} {base : Nat} {v : Value} {l : List α} (h : OwnL enc e sz w base v l) (hl : l ≠ []) : ∃ g cap cur, v = .slice (some ⟨g, 0, none⟩) l.length cap ∧ base ≤ g ∧ Bk w g e cur ∧ l.length ≤ cap ∧ cap ≤ maxLen ∧ cur.size = cap * sz ∧ cur.toList.take (l.length * sz) = l.flatMap enc := by
  rcases h.2 with ⟨_, hn⟩ | ⟨g, cap, cur, rfl, hb, hg, hnc, hm, hs, ht⟩
  · exact absurd (List.eq_nil_of_length_eq_zero hn) hl
  · exact ⟨g, cap, cur, rfl, hb, hg, hnc, hm, hs, ht⟩

/-- append of one element, as one operation. -/
theorem wp_append_one {α : Type} {enc : α → List Value} {size : Nat} {e : TypeId} {P : Program} {o : Oper} {a : Act} {w : World} {K : Act → World → Prop} {Q : Exit → Act → World → Prop} (hk : ∀ x, (enc x).length = size) (h1 : ∀ x, ∀ u ∈ enc x, u.oneCell' = true) {z : Value} {bytes : Nat} (t : TypeId)
    (hinfo : (P.info? e).map (fun i => (i.zero, i.size, i.bytes)) = some (some z, size, bytes)) (hzs : z.cells.size = size) (hsz : 0 < size) (hby : bytes ≤ 4096) (ht : P.underlying t = some (.slice e))
    (s x : Operand) (ho : o.op = .call { callee := .builtin .append, args := #[s, x], argTypes := #[t, t] })
    (base : Nat) (v : Value) (l : List α) (hs : a.eval s = v) (hown : OwnL enc e size w base v l) (g : Nat) (p : α) (hx : a.eval x = .slice (some ⟨g, 0, none⟩) 1 1) {cs : Array Value} (hb : Bk w g e cs) (hcs : cs.toList = enc p)
    (hlen : l.length ≤ 4294967296) (hbase : base ≤ w.heap.size)
    (h : ∀ v' w', OwnL enc e size w' base v' (l ++ [p]) → w.grownBy w' v.ownBlock → (∃ g' c', v' = .slice (some ⟨g', 0, none⟩) (l.length + 1) c' ∧ (some g' = v.ownBlock ∨ g' = w.heap.size)) → K (a.put o.dst v') w') : o.wp P a w K Q := by
  obtain ⟨i, hi, hz, hs1, hs2⟩ := info_parts hinfo
  have hbyt : (l.length + 1) * bytes ≤ 140737488355328 := by
    have : (l.length + 1) * bytes ≤ (4294967296 + 1) * 4096 := Nat.mul_le_mul (by omega) hby
    omega
  obtain ⟨v', w', hrun, h2, h3, _, h4⟩ := run_append_own_at (P := P) w base t o.type e i z size bytes ht hi hz hs1 hs2 hzs hsz v l.length (l.flatMap enc) hown ⟨g, 0, none⟩ 1 1 (enc p) (by rw [hk]; omega)
    (fun j u hu => World.news_of_block (hb : w.heap[g]? = some (.cells cs e (0, 0))) j u (by rw [hcs]; exact hu)) (h1 p) (by unfold maxLen; omega) hbyt hbase
  unfold Oper.wp execOp
  simp only [ho, resolve, invoke, builtin, Sem.run_bind, Sem.run_pure, Result.andThen_ok, List.map_toArray, List.map_cons, List.map_nil, hs, hx, hrun]
  refine h v' w' ?_ h3 ?_
  · show w'.ownsRow base e size v' (l ++ [p]).length _
    rw [List.flatMap_append, List.length_append]
    simpa using h2
  · obtain ⟨g', c', rfl⟩ := ownsRow_succ h2
    refine ⟨g', c', rfl, ?_⟩
    rcases h4 with h4 | h4
    · exact .inl h4
    · exact .inr (by injection h4)

/-- One operation without a guard that is carried out where it stands. -/
theorem wpGo_effp {P : Program} {ops : Array Oper} {Q : Exit → Act → World → Prop} {S : World → Prop} {T : Act → World → Prop} {i : Nat} {dst : Option Tmp} {op : Op} {ty : TypeId} {pos : String} {aft : Array Edge} {r : List (Nat × Bool)} {a : Act} {w : World} (ho : ops[i]? = some ⟨dst, op, ty, pos, aft, none⟩)
    (h : ∀ K : Act → World → Prop, Shut (∀ a w, S w → (S w → wpGo P ops Q S T r a w) → K a w) → Oper.wp P ⟨dst, op, ty, pos, aft, none⟩ a w K Q) : wpGo P ops Q S T ((i, false) :: r) a w :=
  wpGo_eff ho (fun K hK => by simp only [Region.wanted, if_true]; exact h K hK)
end Go.Proofs.Ytnefnnhnjmmebaa
