/-
  copy onto a part of a slice that the call owns, where the part is at least as long as what is copied.
-/
import Derived.Test.YtndablijjkchjaaPlB
namespace Go.Proofs.Ytndablijjkchjaa
open Go.RowKit
set_option linter.unusedSimpArgs false
set_option linter.unusedVariables false

section
variable {α : Type} {enc : α → List Value} {size : Nat} {e : TypeId}
theorem run_copy_len {P : Program} (w : World) (hk : ∀ x, (enc x).length = size) (h1 : ∀ x, ∀ u ∈ enc x, u.oneCell' = true) (dT sT ty : TypeId) (hu : P.underlying dT = some (.slice e)) (hs : (P.info? e).map (·.size) = some size)
    (base g k n cap dCap sCap dLen : Nat)  (m ps : List α) (ho : OwnL enc e size w base (.slice (some ⟨g, 0, none⟩) n cap) m) (hm : m.length = n) (hn : m ≠ []) (gs os : Nat) (hrd : RdL enc size w (some ⟨gs, os, none⟩) ps) (hfit : k + ps.length ≤ n) (hdl : ps.length ≤ dLen) :
    ∃ v w', (Builtin.copy_ #[dT, sT] ty #[.slice (some ⟨g, k * size, none⟩) dLen dCap, .slice (some ⟨gs, os, none⟩) ps.length sCap]).run P w = .ok v w' ∧
      OwnL enc e size w' base (.slice (some ⟨g, 0, none⟩) n cap) (splL m k ps) ∧ w.grownBy w' (some g) := by
  obtain ⟨g', cap', cur, hv, hbg, hbk, hlc, hmx, hsz, htk⟩ := ho.block hn
  injection hv with hv1 hv2 hv3
  injection hv1 with hv1
  injection hv1 with hv1
  subst hv1 hv3
  have hcs : (ps.flatMap enc).length = ps.length * size := flat_len hk ps
  have hmin : Nat.min ps.length dLen = ps.length := by
    show min ps.length dLen = ps.length
    omega
  have hsrc : ∀ (j : Nat) (u : Value), (ps.flatMap enc)[j]? = some u → w.cell? ((⟨gs, os, none⟩ : Addr).add j) = some u := fun j u hj => by
    have hjl := (List.getElem?_eq_some_iff.1 hj).1
    rw [hcs] at hjl
    have hsp : 0 < size := by
      rcases Nat.eq_zero_or_pos size with h | h
      · rw [h] at hjl; simp at hjl
      · exact h
    have hq : j / size < ps.length := (Nat.div_lt_iff_lt_mul hsp).2 hjl
    have hmd := Nat.mod_lt j hsp
    have hd := Nat.div_add_mod j size
    obtain ⟨u', hu'⟩ : ∃ u', (enc ps[j / size])[j % size]? = some u' := ⟨_, List.getElem?_eq_getElem (by rw [hk (ps[j / size])]; exact hmd)⟩
    have h5 := flat_at hk ps (j / size) hq (j % size) u' hu'
    rw [Nat.mul_comm, hd, hj] at h5
    injection h5 with h5
    subst h5
    obtain ⟨g2, o2, hA, _, hc⟩ := hrd (by intro h; rw [h] at hq; simp at hq)
    injection hA with hA
    injection hA with a1 a2
    subst a1 a2
    have h6 := hc (j / size) hq (j % size) u hu'
    rw [addr_add, ← h6]
    congr 2
    rw [Nat.mul_comm] at hd
    omega
  have hfit2 : k * size + (ps.flatMap enc).length ≤ cur.size := by
    rw [hcs, hsz, ← Nat.add_mul]
    exact Nat.mul_le_mul_right _ (by omega)
  have hl := run_loadCells_list (P := P) w ⟨gs, os, none⟩ (ps.flatMap enc) hsrc
  have hst := run_storeCells_at P g (k * size) e (ps.flatMap enc) 0 cur w hbk (by simpa using hfit2) (fun u hu => by obtain ⟨p, _, hp⟩ := List.mem_flatMap.1 hu; exact h1 p u hp)
  rw [Nat.add_zero] at hst
  refine ⟨goInt ps.length, w.setRow g (cur.toList.take (k * size) ++ ps.flatMap enc ++ cur.toList.drop (k * size + (ps.flatMap enc).length)).toArray, ?_, ?_, ?_⟩
  · clear hsrc
    generalize ps.flatMap enc = cs at *
    cases hq : P.info? e with
    | none => simp [hq] at hs
    | some i =>
      have hi : i.size = size := by simpa [hq] using hs
      simp [Builtin.copy_, run_underlying hu, Builtin.lenOf, Builtin.firstCells, sizeOf, typeInfo, hq, hi, hmin, ← hcs, hl, hst]
  · have hbk' := setRow_heap w g cur (cur.toList.take (k * size) ++ ps.flatMap enc ++ cur.toList.drop (k * size + (ps.flatMap enc).length)).toArray e (0, 0) hbk
    refine ⟨by rw [flat_len hk], .inr ⟨g, cap, _, ?_, hbg, hbk', ?_, hmx, ?_, ?_⟩⟩
    · rw [spl_len (by omega), hm]
    · rw [spl_len (by omega)]; exact hlc
    · have h9 : cur.toList.length = cap * size := by simpa using hsz
      rw [List.size_toArray]
      show (splL cur.toList (k * size) (ps.flatMap enc)).length = cap * size
      rw [spl_len (by rw [h9, ← hsz]; exact hfit2), h9]
    · rw [flat_spl hk, spl_len (by omega), ← htk]
      show ((cur.toList.take (k * size) ++ ps.flatMap enc ++ cur.toList.drop (k * size + (ps.flatMap enc).length)).toArray).toList.take (m.length * size) = _
      have hle : (m.length * size) ≤ cur.toList.length := by
        have h9 : cur.toList.length = cap * size := by simpa using hsz
        rw [h9]; exact Nat.mul_le_mul_right _ hlc
      have hfl : k * size + (ps.flatMap enc).length ≤ m.length * size := by rw [hcs, ← Nat.add_mul]; exact Nat.mul_le_mul_right _ (by omega)
      generalize cur.toList = cl at *
      generalize ps.flatMap enc = cs at *
      generalize m.length * size = N at *
      generalize k * size = K at *
      apply List.ext_getElem?
      intro i
      have e1 : cl.take K ++ cs ++ cl.drop (K + cs.length) = splL cl K cs := rfl
      rw [e1, spl_get (by rw [List.length_take]; omega), List.getElem?_take]
      show (if i < N then (splL cl K cs)[i]? else none) = _
      rw [spl_get (by omega), List.getElem?_take]
      by_cases hi : i < N
      · rw [if_pos hi, if_pos hi]
      · rw [if_neg hi, if_neg (by omega), if_neg hi]
  · refine ⟨rfl, rfl, rfl, by simp [World.setRow], fun q hq hne => ?_⟩
    unfold World.setRow
    simp only [Array.getElem?_modify]
    rw [if_neg (fun h => hne (by rw [h]))]
theorem wp_copy_len {P : Program} {o : Oper} {a : Act} {w : World} {K : Act → World → Prop} {Q : Exit → Act → World → Prop} (hk : ∀ x, (enc x).length = size) (h1 : ∀ x, ∀ u ∈ enc x, u.oneCell' = true) (dT sT : TypeId) (hu : P.underlying dT = some (.slice e)) (hs : (P.info? e).map (·.size) = some size)
    (d s : Operand) (hop : o.op = .call { callee := .builtin .copy, args := #[d, s], argTypes := #[dT, sT] })
    (base g k n cap dCap sCap dLen sLen : Nat) (m ps : List α) (ho : OwnL enc e size w base (.slice (some ⟨g, 0, none⟩) n cap) m) (hm : m.length = n) (hn : m ≠ []) (gs os : Nat) (hrd : RdL enc size w (some ⟨gs, os, none⟩) ps) (hfit : k + ps.length ≤ n) (hdl : ps.length ≤ dLen)
    (hd : a.eval d = .slice (some ⟨g, k * size, none⟩) dLen dCap) (hsv : a.eval s = .slice (some ⟨gs, os, none⟩) sLen sCap) (hsl : sLen = ps.length)
    (h : ∀ v w', OwnL enc e size w' base (.slice (some ⟨g, 0, none⟩) n cap) (splL m k ps) → w.grownBy w' (some g) → K (a.put o.dst v) w') : o.wp P a w K Q := by
  subst hsl
  obtain ⟨v', w', hrun, h2, h3⟩ := run_copy_len (P := P) w hk h1 dT sT o.type hu hs base g k n cap dCap sCap dLen m ps ho hm hn gs os hrd hfit hdl
  unfold Oper.wp execOp
  simp only [hop, resolve, invoke, builtin, Sem.run_bind, Sem.run_pure, Result.andThen_ok, List.map_toArray, List.map_cons, List.map_nil, hd, hsv, hrun]
  exact h v' w' h2 h3
theorem wpList_copy_len {P : Program} {ops : Array Oper} {rest : List Oper} {o : Oper} {a : Act} {w : World} {Q : Exit → Act → World → Prop} (hk : ∀ x, (enc x).length = size) (h1 : ∀ x, ∀ u ∈ enc x, u.oneCell' = true) (dT sT : TypeId) (hu : P.underlying dT = some (.slice e)) (hs : (P.info? e).map (·.size) = some size)
    (hgd : o.guard = none) (d s : Operand) (hop : o.op = .call { callee := .builtin .copy, args := #[d, s], argTypes := #[dT, sT] })
    (base g k n cap dCap sCap dLen sLen : Nat) (m ps : List α) (ho : OwnL enc e size w base (.slice (some ⟨g, 0, none⟩) n cap) m) (hm : m.length = n) (hn : m ≠ []) (gs os : Nat) (hrd : RdL enc size w (some ⟨gs, os, none⟩) ps) (hfit : k + ps.length ≤ n) (hdl : ps.length ≤ dLen)
    (hd : a.eval d = .slice (some ⟨g, k * size, none⟩) dLen dCap) (hsv : a.eval s = .slice (some ⟨gs, os, none⟩) sLen sCap) (hsl : sLen = ps.length)
    (h : ∀ v w', OwnL enc e size w' base (.slice (some ⟨g, 0, none⟩) n cap) (splL m k ps) → w.grownBy w' (some g) → wpList P ops Q rest (a.put o.dst v) w') : wpList P ops Q (o :: rest) a w := by
  subst hsl
  refine wpList_plain hgd fun K hK => ?_
  obtain ⟨v', w', hrun, h2, h3⟩ := run_copy_len (P := P) w hk h1 dT sT o.type hu hs base g k n cap dCap sCap dLen m ps ho hm hn gs os hrd hfit hdl
  unfold Oper.wp execOp
  simp only [hop, resolve, invoke, builtin, Sem.run_bind, Sem.run_pure, Result.andThen_ok, List.map_toArray, List.map_cons, List.map_nil, hd, hsv, hrun]
  exact hK _ _ (h v' w' h2 h3)
end
end Go.Proofs.Ytndablijjkchjaa
