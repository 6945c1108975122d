/-
  append of several elements to a slice that the call owns; slices of bytes.
-/
import Derived.Test.YtnefnnhnjmmebaaList
namespace Go.Proofs.Ytnefnnhnjmmebaa
open Go.RowKit

section
variable {α : Type} {enc : α → List Value} {size : Nat} {e : TypeId}
theorem wpList_append_list {P : Program} {ops : Array Oper} {rest : List Oper} {o : Oper} {a : Act} {w : World} {Q : Exit → Act → World → Prop} (hk : ∀ x, (enc x).length = size) (h1 : ∀ x, ∀ u ∈ enc x, u.oneCell' = true) {z : Value} {bytes : Nat} (t : TypeId)
    (hinfo : (P.info? e).map (fun i => (i.zero, i.size, i.bytes)) = some (some z, size, bytes)) (hzs : z.cells.size = size) (hsz : 0 < size) (hby : bytes ≤ 4096) (ht : P.underlying t = some (.slice e))
    (hgd : o.guard = none) (s x : Operand) (ho : o.op = .call { callee := .builtin .append, args := #[s, x], argTypes := #[t, t] })
    (base : Nat) (v : Value) (l : List α) (hs : a.eval s = v) (hown : OwnL enc e size w base v l) (g m c : Nat) (ps : List α) (hx : a.eval x = .slice (some ⟨g, 0, none⟩) m c) (hm : ps.length = m) {cs : Array Value} (hb : Bk w g e cs) (hcs : cs.toList = ps.flatMap enc)
    (hlen : l.length + m ≤ 4294967296) (hbase : base ≤ w.heap.size)
    (h : ∀ v' w', OwnL enc e size w' base v' (l ++ ps) → w.grownBy w' v.ownBlock → wpList P ops Q rest (a.put o.dst v') w') : wpList P ops Q (o :: rest) a w := by
  obtain ⟨i, hi, hz, hs1, hs2⟩ := info_parts hinfo
  refine wpList_append_own_at w hgd s x t ho base e i z size bytes ht hi hz hs1 hs2 hzs hsz v l.length (l.flatMap enc) hs hown ⟨g, 0, none⟩ m c (ps.flatMap enc) hx (by rw [flat_len hk, hm]) ?_ ?_ (by unfold maxLen; omega) ?_ hbase ?_
  · intro j u hu
    rw [← hcs] at hu
    exact World.news_of_block (hb : w.heap[g]? = some (.cells cs e (0, 0))) j u hu
  · intro u hu
    obtain ⟨p, _, hp⟩ := List.mem_flatMap.1 hu
    exact h1 p u hp
  · have : (l.length + m) * bytes ≤ 4294967296 * 4096 := Nat.mul_le_mul hlen hby
    omega
  · intro v' w' h2 h3 _ _
    refine h v' w' ?_ h3
    show w'.ownsRow base e size v' (l ++ ps).length _
    rw [List.flatMap_append, List.length_append, hm]
    exact h2
end
def encB (x : Int) : List Value := [.int .u8 x]
theorem encB_len (x : Int) : (encB x).length = 1 := rfl
theorem encB_one (x : Int) : ∀ u ∈ encB x, u.oneCell' = true := by intro u hu; simp [encB] at hu; subst hu; rfl
end Go.Proofs.Ytnefnnhnjmmebaa
