/-
  Slices of digits (grisailleref01): what a call gets and what it hands back.
-/
import Derived.Test.YtlholebpfgjpdaaBigP
import Derived.Test.YtlholebpfgjpdaaList3
import Derived.Test.YtlholebpfgjpdaaList4
import Derived.Test.YtlholebpfgjpdaaGo
import Derived.Test.YtlholebpfgjpdaaRows
namespace Go.Proofs.Ytlholebpfgjpdaa
open Go.RowKit
set_option linter.unusedSimpArgs false
set_option linter.unusedVariables false

def encD (x : Nat) : List Value := [.int .u32 (x : Int)]
theorem encD_len (x : Nat) : (encD x).length = 1 := rfl
theorem encD_one (x : Nat) : ∀ u ∈ encD x, u.oneCell' = true := by intro u hu; simp [encD] at hu; subst hu; rfl
theorem Try.infoU32 : (Try.prog.info? 108).map (fun i => (i.zero, i.size, i.bytes)) = some (some (.int .u32 0), 1, 4) := by kernel_rfl
/-- A slice of digits among the arguments. -/
structure Dg where
  A : Option Addr
  n : Nat
  c : Nat
  l : List Nat
structure Dg.ok (d : Dg) (w : World) : Prop where
  rd : RdL encD 1 w d.A d.l
  ln : d.l.length = d.n
  dg : okD d.l
theorem Dg.ok.below {d : Dg} {w w' : World} (h : d.ok w) (hb : Below w.heap.size w w') : d.ok w' := ⟨h.rd.below hb, h.ln, h.dg⟩
theorem Dg.ok.drew {d : Dg} {w : World} (h : d.ok w) : d.ok w.drew := ⟨h.rd.drew, h.ln, h.dg⟩
/-- The cell of a digit. -/
theorem rdD {w : World} {A : Option Addr} {l : List Nat} (h : RdL encD 1 w A l) {k : Nat} (hk : k < l.length) : ∃ g o, A = some ⟨g, o, none⟩ ∧ g < w.heap.size ∧ w.cell? ⟨g, o + k, none⟩ = some (.int .u32 (l.getD k 0 : Nat)) := by
  obtain ⟨g, o, hA, hg, hc⟩ := h (by intro e; rw [e] at hk; simp at hk)
  refine ⟨g, o, hA, hg, ?_⟩
  have := hc k hk 0 (.int .u32 (l[k] : Nat)) rfl
  rw [Nat.mul_one, Nat.add_zero] at this
  rw [this, List.getD_eq_getElem?_getD, List.getElem?_eq_getElem hk]; rfl
/-- What a call hands back: the digits of n. -/
def RetD (n : Nat) (w : World) (e : Ending) (w' : World) : Prop := ∃ d : Dg, e = .returned (.slice d.A d.n d.c) ∧ d.ok w' ∧ d.l = dig n ∧ Below w.heap.size w w'
/-- A slice that the call owns is one that may be handed on. -/
theorem dg_of_own {w : World} {base : Nat} {v : Value} {l : List Nat} (h : OwnL encD 108 1 w base v l) (hd : okD l) : ∃ d : Dg, v = .slice d.A d.n d.c ∧ d.ok w ∧ d.l = l := by
  obtain ⟨A, c, hv, hr, _⟩ := h.form encD_len
  exact ⟨⟨A, l.length, c, l⟩, hv, ⟨hr, rfl, hd⟩, rfl⟩
/-- d's memory lies from block b on. -/
def Frs (b : Nat) (d : Dg) : Prop := ∀ g o, d.A = some ⟨g, o, none⟩ → b ≤ g
theorem Frs.mono {a b : Nat} {d : Dg} (h : Frs b d) (hab : a ≤ b) : Frs a d := fun g o e => Nat.le_trans hab (h g o e)
/-- What a call hands back in new memory: the digits of n. -/
def RetF (n : Nat) (w : World) (e : Ending) (w' : World) : Prop := ∃ d : Dg, e = .returned (.slice d.A d.n d.c) ∧ d.ok w' ∧ d.l = dig n ∧ Frs w.heap.size d ∧ Below w.heap.size w w'
theorem dg_of_own2 {w : World} {base : Nat} {v : Value} {l : List Nat} (h : OwnL encD 108 1 w base v l) (hd : okD l) : ∃ d : Dg, v = .slice d.A d.n d.c ∧ d.ok w ∧ d.l = l ∧ Frs base d := by
  obtain ⟨A, c, hv, hr, _⟩ := h.form encD_len
  refine ⟨⟨A, l.length, c, l⟩, hv, ⟨hr, rfl, hd⟩, rfl, fun g o e => ?_⟩
  have e : A = some ⟨g, o, none⟩ := e
  rw [hv, e] at h
  exact (World.ownsRow.lt h g rfl).1
theorem RdL.far {α : Type} {enc : α → List Value} {size : Nat} {w : World} {A : Option Addr} {l : List α} (h : RdL enc size w A l) {p : Addr} (hp : ∀ g o, A = some ⟨g, o, none⟩ → g ≠ p.block) (u : Value) : RdL enc size (w.setCell p u) A l := fun hn => by
  obtain ⟨g, o, he, hlt, hc⟩ := h hn
  refine ⟨g, o, he, by simpa [World.setCell] using hlt, fun i hi j u' hu => ?_⟩
  exact (World.cell?_of_block (a := ⟨g, o + i * size + j, none⟩) (Below.heap_setCell w p u g (hp g o he))).trans (hc i hi j u' hu)
theorem dig_len_le : ∀ (k n : Nat), n < 4294967296 ^ k → (dig n).length ≤ k
  | 0, n, h => by
    have : n = 0 := by simpa using h
    subst this; rw [dig_zero]; exact Nat.le_refl _
  | k + 1, n, h => by
    by_cases h0 : n = 0
    · subst h0; rw [dig_zero]; simp
    · rw [dig_pos h0, List.length_cons]
      have := dig_len_le k (n / 4294967296) (by rw [Nat.div_lt_iff_lt_mul (by decide)]; rw [Nat.pow_succ] at h; exact h)
      omega
/-- The length of what is handed back. -/
theorem Dg.ok.le {d : Dg} {w : World} (h : d.ok w) {n : Nat} (e : d.l = dig n) {k : Nat} (hn : n < 4294967296 ^ k) : d.n ≤ k := by
  rw [← h.ln, e]; exact dig_len_le k n hn
theorem dig_val_len {l : List Nat} (h : okD l) : (dig (valD l)).length ≤ l.length := dig_len_le _ _ (val_lt h)
/-- The last of a number's digits is not 0. -/
theorem dig_top {n : Nat} (h : n ≠ 0) : dig n ≠ [] ∧ (dig n).getD ((dig n).length - 1) 0 ≠ 0 := by
  induction n using Nat.strongRecOn with
  | ind n ih =>
    rw [dig_pos h]
    refine ⟨by simp, ?_⟩
    by_cases h2 : n / 4294967296 = 0
    · rw [h2, dig_zero]; simp; omega
    · obtain ⟨hn, ht⟩ := ih (n / 4294967296) (by omega) h2
      have hl : 0 < (dig (n / 4294967296)).length := List.length_pos_iff.2 hn
      rw [List.length_cons, Nat.add_sub_cancel]
      rw [show (dig (n / 4294967296)).length = (dig (n / 4294967296)).length - 1 + 1 by omega, List.getD_cons_succ]
      exact ht
end Go.Proofs.Ytlholebpfgjpdaa
