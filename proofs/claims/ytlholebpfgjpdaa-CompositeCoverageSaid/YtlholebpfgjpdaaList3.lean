/-
  append of a slice that reads as a list to a slice that the call owns; what a slice reads as behind a growth elsewhere.
-/
import Derived.Test.YtlholebpfgjpdaaList2
import Derived.Deep.AppendSrc
import Derived.Deep.Upon
namespace Go.Proofs.Ytlholebpfgjpdaa
open Go.RowKit

theorem grefl' (w : World) (row : Option Nat) : w.grownBy w row := ⟨rfl, rfl, rfl, Nat.le_refl _, fun _ _ _ => rfl⟩
section
variable {α : Type} {enc : α → List Value} {size : Nat} {e : TypeId}
theorem run_append_rd {P : Program} (w : World) (hk : ∀ x, (enc x).length = size) (h1 : ∀ x, ∀ u ∈ enc x, u.oneCell' = true) {z : Value} {bytes : Nat} (t ty : TypeId)
    (hinfo : (P.info? e).map (fun i => (i.zero, i.size, i.bytes)) = some (some z, size, bytes)) (hzs : z.cells.size = size) (hsz : 0 < size) (hby : bytes ≤ 4096) (ht : P.underlying t = some (.slice e))
    (base : Nat) (v : Value) (l : List α) (hown : OwnL enc e size w base v l) (A : Option Addr) (m c : Nat) (ps : List α) (hm : ps.length = m) (hrd : RdL enc size w A ps)
    (hlen : l.length + m ≤ 4294967296) (hbase : base ≤ w.heap.size) :
    ∃ v' w', (Builtin.append_ #[t, t] ty #[v, .slice A m c]).run P w = .ok v' w' ∧ OwnL enc e size w' base v' (l ++ ps) ∧ w.grownBy w' v.ownBlock := by
  obtain ⟨i, hi, hz, hs1, hs2⟩ := info_parts hinfo
  by_cases hp : ps = []
  · subst hp
    have hm0 : m = 0 := by simpa using hm.symm
    subst hm0
    have hsrc : Src P i.size t (.slice A 0 c) 0 [] w := by
      cases A with
      | none => exact Src.ofNil w ht c
      | some a => exact Src.ofSlice w ht a 0 c [] (by simp) (by intro j u hu; simp at hu) (by intro u hu; simp at hu)
    rw [List.append_nil]
    rcases hown.2 with ⟨rfl, _⟩ | ⟨g, cap, cur, rfl, _, _, hnc, _⟩
    · exact ⟨_, w, run_append_nothing w t t ty e i ht hi none 0 0 (Nat.le_refl _) _ hsrc, hown, grefl' _ _⟩
    · exact ⟨_, w, run_append_nothing w t t ty e i ht hi _ _ _ hnc _ hsrc, hown, grefl' _ _⟩
  · obtain ⟨g, o, rfl, hg, hc⟩ := hrd hp
    have hbyt : (l.length + m) * bytes ≤ 140737488355328 := by
      have : (l.length + m) * bytes ≤ 4294967296 * 4096 := Nat.mul_le_mul hlen hby
      omega
    obtain ⟨v', w', hrun, h2, h3, _, h4⟩ := run_append_own_at (P := P) w base t ty e i z size bytes ht hi hz hs1 hs2 hzs hsz v l.length (l.flatMap enc) hown ⟨g, o, none⟩ m c (ps.flatMap enc) (by rw [flat_len hk, hm])
      (fun j u hu => by
        have hj : j < ps.length * size := by rw [← flat_len hk]; exact (List.getElem?_eq_some_iff.1 hu).1
        have hd := Nat.div_add_mod j size
        have hmd := Nat.mod_lt j hsz
        have hq : j / size < ps.length := (Nat.div_lt_iff_lt_mul hsz).2 hj
        have hex : ∃ u', (enc ps[j / size])[j % size]? = some u' := ⟨_, List.getElem?_eq_getElem (by rw [hk]; exact hmd)⟩
        obtain ⟨u', hu'⟩ := hex
        have h5 := flat_at hk ps (j / size) hq (j % size) u' hu'
        rw [Nat.mul_comm, hd, hu] at h5
        injection h5 with h5
        subst h5
        have h6 := hc (j / size) hq (j % size) u hu'
        have h7 : (⟨g, o, none⟩ : Addr).add j = ⟨g, o + j, none⟩ := by unfold Addr.add; split <;> simp_all
        rw [h7, ← h6]
        congr 2
        rw [Nat.mul_comm] at hd
        omega)
      (fun u hu => by obtain ⟨p, _, hp'⟩ := List.mem_flatMap.1 hu; exact h1 p u hp') (by unfold maxLen; omega) hbyt hbase
    refine ⟨v', w', hrun, ?_, h3⟩
    show w'.ownsRow base e size v' (l ++ ps).length _
    rw [List.flatMap_append, List.length_append, hm]
    exact h2
theorem wpList_append_rd {P : Program} {ops : Array Oper} {rest : List Oper} {o : Oper} {a : Act} {w : World} {Q : Exit → Act → World → Prop} (hk : ∀ x, (enc x).length = size) (h1 : ∀ x, ∀ u ∈ enc x, u.oneCell' = true) {z : Value} {bytes : Nat} (t : TypeId)
    (hinfo : (P.info? e).map (fun i => (i.zero, i.size, i.bytes)) = some (some z, size, bytes)) (hzs : z.cells.size = size) (hsz : 0 < size) (hby : bytes ≤ 4096) (ht : P.underlying t = some (.slice e))
    (hgd : o.guard = none) (s x : Operand) (ho : o.op = .call { callee := .builtin .append, args := #[s, x], argTypes := #[t, t] })
    (base : Nat) (v : Value) (l : List α) (hs : a.eval s = v) (hown : OwnL enc e size w base v l) (A : Option Addr) (m c : Nat) (ps : List α) (hx : a.eval x = .slice A m c) (hm : ps.length = m) (hrd : RdL enc size w A ps)
    (hlen : l.length + m ≤ 4294967296) (hbase : base ≤ w.heap.size)
    (h : ∀ v' w', OwnL enc e size w' base v' (l ++ ps) → w.grownBy w' v.ownBlock → wpList P ops Q rest (a.put o.dst v') w') : wpList P ops Q (o :: rest) a w := by
  refine wpList_plain hgd fun K hK => ?_
  obtain ⟨v', w', hrun, h2, h3⟩ := run_append_rd (P := P) w hk h1 t o.type hinfo hzs hsz hby ht base v l hown A m c ps hm hrd hlen hbase
  unfold Oper.wp execOp
  simp only [ho, resolve, invoke, builtin, Sem.run_bind, Sem.run_pure, Result.andThen_ok, List.map_toArray, List.map_cons, List.map_nil, hs, hx, hrun]
  exact hK _ _ (h v' w' h2 h3)
theorem wp_append_rd {P : Program} {o : Oper} {a : Act} {w : World} {K : Act → World → Prop} {Q : Exit → Act → World → Prop} (hk : ∀ x, (enc x).length = size) (h1 : ∀ x, ∀ u ∈ enc x, u.oneCell' = true) {z : Value} {bytes : Nat} (t : TypeId)
    (hinfo : (P.info? e).map (fun i => (i.zero, i.size, i.bytes)) = some (some z, size, bytes)) (hzs : z.cells.size = size) (hsz : 0 < size) (hby : bytes ≤ 4096) (ht : P.underlying t = some (.slice e))
    (s x : Operand) (ho : o.op = .call { callee := .builtin .append, args := #[s, x], argTypes := #[t, t] })
    (base : Nat) (v : Value) (l : List α) (hs : a.eval s = v) (hown : OwnL enc e size w base v l) (A : Option Addr) (m c : Nat) (ps : List α) (hx : a.eval x = .slice A m c) (hm : ps.length = m) (hrd : RdL enc size w A ps)
    (hlen : l.length + m ≤ 4294967296) (hbase : base ≤ w.heap.size)
    (h : ∀ v' w', OwnL enc e size w' base v' (l ++ ps) → w.grownBy w' v.ownBlock → K (a.put o.dst v') w') : o.wp P a w K Q := by
  obtain ⟨v', w', hrun, h2, h3⟩ := run_append_rd (P := P) w hk h1 t o.type hinfo hzs hsz hby ht base v l hown A m c ps hm hrd hlen hbase
  unfold Oper.wp execOp
  simp only [ho, resolve, invoke, builtin, Sem.run_bind, Sem.run_pure, Result.andThen_ok, List.map_toArray, List.map_cons, List.map_nil, hs, hx, hrun]
  exact h v' w' h2 h3
/-- What a slice reads as lies as it lay where another block has grown. -/
theorem RdL.grown {w w' : World} {A : Option Addr} {l : List α} (h : RdL enc size w A l) {row : Option Nat} (hg : w.grownBy w' row) (hA : ∀ g o, A = some ⟨g, o, none⟩ → some g ≠ row) : RdL enc size w' A l := fun hn => by
  obtain ⟨g, o, he, hlt, hc⟩ := h hn
  refine ⟨g, o, he, Nat.lt_of_lt_of_le hlt hg.size, fun i hi j u hu => ?_⟩
  exact (World.cell?_of_block (a := ⟨g, o + i * size + j, none⟩) (w := w) (hg.block g hlt (hA g o he))).trans (hc i hi j u hu)
end
end Go.Proofs.Ytlholebpfgjpdaa
