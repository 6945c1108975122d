/-
  A table of 1024 numbers, kept whole; counts of the components of pixels: plain Lean.
-/
import Derived.Test.YtnefnnhnjmmebaaBmV
import Derived.Test.YtnefnnhnjmmebaaBlurP
import Derived.Laws.Rows
import Derived.Deep.WholeRow
import Derived.ChangeKeysEq
namespace Go.Proofs.Ytnefnnhnjmmebaa
open Go.RowKit
set_option linter.unusedSimpArgs false
set_option linter.unusedVariables false

/-- The table of these numbers. -/
@[irreducible] def tabH (F : Nat → Int) : Array Value := ((List.range 1024).map fun i => Value.int .i64 (F i)).toArray
theorem tab_def (F : Nat → Int) : tabH F = ((List.range 1024).map fun i => Value.int .i64 (F i)).toArray := by unfold tabH; rfl
theorem tab_size (F : Nat → Int) : (tabH F).size = 1024 := by rw [tab_def]; simp
theorem tab_get (F : Nat → Int) {i : Nat} (h : i < 1024) : (tabH F)[i]? = some (.int .i64 (F i)) := by
  rw [tab_def, List.getElem?_toArray, List.getElem?_map, List.getElem?_range h]; rfl
/-- One more at place i. -/
def incH (F : Nat → Int) (i : Nat) : Nat → Int := fun j => if j = i then F j + 1 else F j
theorem tab_set (F : Nat → Int) {i : Nat} (h : i < 1024) : (tabH F).setIfInBounds i (.int .i64 (F i + 1)) = tabH (incH F i) := by
  apply Array.ext'
  apply List.ext_getElem?
  intro j
  rw [Array.getElem?_toList, Array.getElem?_toList, Array.getElem?_setIfInBounds]
  by_cases hj : j < 1024
  · have hr := tab_get (incH F i) hj
    rw [hr]
    by_cases e : i = j
    · subst e
      rw [if_pos rfl, if_pos (by rw [tab_size]; exact h)]
      unfold incH; rw [if_pos rfl]
    · rw [if_neg e, tab_get F hj]
      unfold incH; rw [if_neg (fun h => e h.symm)]
  · rw [if_neg (by omega), Array.getElem?_eq_none (by rw [tab_size]; omega), Array.getElem?_eq_none (by rw [tab_size]; omega)]
def zF : Nat → Int := fun _ => 0
theorem Try.infoH : (Try.prog.info? 37).map (fun i => (i.zero, i.size)) = some (some (.agg (tabH zF)), 1024) := by rw [tab_def]; kernel_rfl
theorem h_zero : Try.zeroCells37 = tabH zF := by rw [tab_def]; kernel_rfl
theorem h_size : (Try.prog.info? 37).map (·.size) = some 1024 := by kernel_rfl
theorem h_run_alloc (w : World) : (Instr.alloc 37 true (.tuple #[])).run Try.prog w = .ok (.pointer (some ⟨w.heap.size, 0, none⟩)) (w.alloc (.cells (tabH zF) 37)) := by
  have h := Try.infoH
  cases hq : Try.prog.info? 37 with
  | none => rw [hq] at h; simp at h
  | some i =>
    rw [hq] at h
    have h1 : i.zero = some (.agg (tabH zF)) := by
      have h2 : (i.zero, i.size) = (some (Value.agg (tabH zF)), 1024) := by injection h
      exact (Prod.mk.inj h2).1
    have hz : (zeroValue 37).run Try.prog w = .ok (.agg (tabH zF)) w := by simp [zeroValue, typeInfo, hq, h1]
    unfold Instr.alloc
    rw [Sem.run_bind, hz]
    go_simp
theorem h_run_load {w : World} {g : Nat} {F : Nat → Int} (h : Bk w g 37 (tabH F)) : (Instr.loadAt 37 (.pointer (some ⟨g, 0, none⟩))).run Try.prog w = .ok (.agg (tabH F)) w := by
  simp only [Instr.loadAt, Instr.sureAddr, Sem.run_bind, Sem.run_pure, Result.andThen_ok]
  exact run_loadVar_row w g _ _ _ _ _ h Try.underlying37 rfl (h_size.trans (congrArg some (tab_size F).symm))
theorem tab_list (F : Nat → Int) : (tabH F).toList = (List.range 1024).map fun i => Value.int .i64 (F i) := by rw [tab_def]
theorem tab_one (F : Nat → Int) (v : Value) (hv : v ∈ (tabH F).toList) : v.oneCell' = true := by
  rw [tab_list] at hv
  generalize List.range 1024 = L at hv
  obtain ⟨i, _, rfl⟩ := List.mem_map.1 hv
  rfl
theorem tab_all (F : Nat → Int) : (tabH F).all (·.oneCell') = true := by rw [Array.all_eq_true']; intro v hv; exact tab_one F v (by simpa using hv)
theorem h_run_store {w : World} {g : Nat} {F G : Nat → Int} (h : Bk w g 37 (tabH G)) : (Instr.storeAt 37 (.pointer (some ⟨g, 0, none⟩)) (.agg (tabH F))).run Try.prog w = .ok () (w.setRow g (tabH F)) := by
  simp only [Instr.storeAt, Instr.sureAddr, Sem.run_bind, Sem.run_pure, Result.andThen_ok]
  exact run_storeVar_row w g _ _ _ _ h (h_size.trans (congrArg some (tab_size F).symm)) (by rw [tab_size, tab_size]) (by rw [Array.all_eq_true']; intro v hv; exact tab_one F v (by simpa using hv))
theorem h_run_cells {w : World} {g : Nat} {F G : Nat → Int} (h : Bk w g 37 (tabH G)) : (storeCells ⟨g, 0, none⟩ (tabH F).toList 0).run Try.prog w = .ok () (w.setRow g (tabH F)) := by
  have h2 := run_storeCells_from (P := Try.prog) g _ (tabH F).toList 0 (tabH G) w h (by rw [Array.length_toList, tab_size, tab_size]) (tab_one F)
  rw [List.take_zero, List.nil_append, Array.toArray_toList] at h2
  exact h2
theorem h_run_loads {w : World} {g : Nat} {F : Nat → Int} (h : Bk w g 37 (tabH F)) : (loadCells ⟨g, 0, none⟩ 1024).run Try.prog w = .ok (tabH F) w := by
  have h2 := run_loadCells_list (P := Try.prog) w ⟨g, 0, none⟩ (tabH F).toList (fun j v hv => by
    rw [show (⟨g, 0, none⟩ : Addr).add j = ⟨g, j, none⟩ by unfold Addr.add; split <;> simp_all, cell_of_row w g j _ _ _ h, ← Array.getElem?_toList]; exact hv)
  rw [Array.length_toList, tab_size, Array.toArray_toList] at h2
  exact h2
theorem Bk.row {w : World} {g : Nat} {t : TypeId} {cs : Array Value} (h : Bk w g t cs) (cs' : Array Value) : Bk (w.setRow g cs') g t cs' := setRow_heap w g cs cs' t (0, 0) h
theorem Bk.rowFar {w : World} {g g' : Nat} {t : TypeId} {cs : Array Value} (h : Bk w g t cs) (hne : g ≠ g') (cs' : Array Value) : Bk (w.setRow g' cs') g t cs := (setRow_other w g' g cs' hne).trans h
theorem brow {a w : World} (h : Below a.heap.size a w) {g : Nat} (hg : a.heap.size ≤ g) (cs : Array Value) : Below a.heap.size a (w.setRow g cs) :=
  ⟨h.os, h.tape, h.output, by simpa using h.size, fun k hk => (setRow_other w g k cs (by omega)).trans (h.block k hk)⟩
/-- A table equals itself. -/
theorem eqItems_refl {P : Program} (w : World) (d : Nat) (e : TypeId) (c : Nat) (xs : Array Value) : ∀ is : List Nat, (∀ i ∈ is, ∃ a, (part e xs (i * c)).run P w = .ok a w ∧ (Op.equalIn d e a a).run P w = .ok true w) → (Op.eqItems d e c xs xs is).run P w = .ok true w
  | [], _ => by simp [Op.eqItems]
  | i :: is, h => by
    obtain ⟨a, h1, h2⟩ := h i (by simp)
    have h3 := eqItems_refl w d e c xs is (fun j hj => h j (List.mem_cons_of_mem _ hj))
    simp only [Op.eqItems, Sem.run_bind, h1, h2, Result.andThen_ok]
    simpa using h3
theorem info_some {P : Program} {t : TypeId} {n : Nat} (h : (P.info? t).map (·.size) = some n) : ∃ i, P.info? t = some i ∧ i.size = n := by
  cases hq : P.info? t with
  | none => rw [hq] at h; cases h
  | some i => rw [hq] at h; injection h with h; exact ⟨i, rfl, h⟩
theorem h_neq (F : Nat → Int) (w : World) : (binOp .neq 37 (.agg (tabH F)) (.agg (tabH F))).run Try.prog w = .ok (.bool false) w := by
  obtain ⟨i1, hi1, hs1⟩ := info_some (P := Try.prog) (t := 36) (n := 256) (by kernel_rfl)
  obtain ⟨i2, hi2, hs2⟩ := info_some (P := Try.prog) (t := 3) (n := 1) (by kernel_rfl)
  have c1 : Try.prog.cellsOf 36 = 256 := by kernel_rfl
  have c2 : Try.prog.cellsOf 3 = 1 := by kernel_rfl
  have key : (Op.equalIn 10000 37 (.agg (tabH F)) (.agg (tabH F))).run Try.prog w = .ok true w := by
    rw [show (10000 : Nat) = 9999 + 1 from rfl, run_equalIn_array w 9999 _ _ Try.underlying37 hi1]
    refine eqItems_refl w _ _ _ _ _ fun i hi => ?_
    have hi4 : i < 4 := List.mem_range.1 hi
    refine ⟨.agg ((tabH F).extract (i * 256) (i * 256 + 256)), ?_, ?_⟩
    · rw [c1]
      simp [part, isAgg, run_underlying Try.underlying36, sizeOf, typeInfo, hi1, hs1]
    · rw [show (9999 : Nat) = 9998 + 1 from rfl, run_equalIn_array w 9998 _ _ Try.underlying36 hi2]
      refine eqItems_refl w _ _ _ _ _ fun j hj => ?_
      have hj2 : j < 256 := List.mem_range.1 hj
      have hcell : ((tabH F).extract (i * 256) (i * 256 + 256))[j * Try.prog.cellsOf 3]? = some (.int .i64 (F (i * 256 + j))) := by
        rw [c2, Nat.mul_one, Array.getElem?_extract, if_pos (by rw [tab_size]; omega), tab_get _ (by omega)]
      refine ⟨.int .i64 (F (i * 256 + j)), ?_, ?_⟩
      · simp [part, isAgg, run_underlying Try.underlying3, hcell]
      · rw [show (9998 : Nat) = 9997 + 1 from rfl, run_equalIn_int w 9997 3 .i64 .i64 _ _ Try.underlying3]
        simp
  rw [run_neq_struct, key]
  rfl
theorem h_guard : Try.prog.eqGuardType Try.prog.depth 37 = false := by kernel_rfl

/-- The first c components of a pixel counted. -/
def stepC (F : Nat → Int) (p : Px) : Nat → Nat → Int
  | 0 => F
  | c + 1 => incH (stepC F p c) (c * 256 + (pxc p c).toNat)
theorem stepC_same {p : Px} (hp : p.byte) (F : Nat → Int) (c m : Nat) : ∀ n, n ≤ c → stepC F p n (c * 256 + m) = F (c * 256 + m)
  | 0, _ => rfl
  | n + 1, h => by
    have hb := pxc_byte hp n
    simp only [stepC, incH]
    rw [if_neg (by omega)]
    exact stepC_same hp F c m n (by omega)
def histF (l : List Px) : Nat → Int := l.foldl (fun F p => stepC F p 4) zF
theorem hist_snoc (l : List Px) (p : Px) : histF (l ++ [p]) = stepC (histF l) p 4 := by unfold histF; rw [List.foldl_append]; rfl
theorem hist_take {l : List Px} {k : Nat} (h : k < l.length) : histF (l.take (k + 1)) = stepC (histF (l.take k)) l[k] 4 := by rw [List.take_succ_eq_append_getElem h, hist_snoc]
def rowT (F : Nat → Int) (c : Nat) : Nat → Int
  | 0 => 0
  | m + 1 => rowT F c m + F (c * 256 + m)
theorem rowT_inc (F : Nat → Int) (i c : Nat) : ∀ m, rowT (incH F i) c m = rowT F c m + if c * 256 ≤ i ∧ i < c * 256 + m then 1 else 0
  | 0 => by rw [if_neg (by omega)]; rfl
  | m + 1 => by
    simp only [rowT]
    rw [rowT_inc F i c m]
    unfold incH
    by_cases h : c * 256 + m = i
    · rw [if_pos h, if_neg (by omega), if_pos (by omega)]; omega
    · rw [if_neg h]
      by_cases h2 : c * 256 ≤ i ∧ i < c * 256 + m
      · rw [if_pos h2, if_pos (by omega)]; omega
      · rw [if_neg h2, if_neg (by omega)]; omega
theorem stepC_row {p : Px} (hp : p.byte) (F : Nat → Int) (c : Nat) : ∀ n, rowT (stepC F p n) c 256 = rowT F c 256 + if c < n then 1 else 0
  | 0 => by rw [if_neg (by omega)]; simp [stepC]
  | n + 1 => by
    have hb := pxc_byte hp n
    simp only [stepC]
    rw [rowT_inc, stepC_row hp F c n]
    by_cases h : c = n
    · subst h
      rw [if_neg (by omega), if_pos (by omega), if_pos (by omega)]; omega
    · rw [if_neg (show ¬ (c * 256 ≤ n * 256 + (pxc p n).toNat ∧ n * 256 + (pxc p n).toNat < c * 256 + 256) by omega)]
      by_cases h2 : c < n
      · rw [if_pos h2, if_pos (by omega)]; omega
      · rw [if_neg h2, if_neg (by omega)]; omega
theorem hist_row {c : Nat} (hc : c < 4) : ∀ (l : List Px), pxsB l → ∀ (F : Nat → Int), rowT (l.foldl (fun F p => stepC F p 4) F) c 256 = rowT F c 256 + l.length
  | [], _, F => by simp
  | p :: l, h, F => by
    rw [List.foldl_cons, hist_row hc l (fun q hq => h q (List.mem_cons_of_mem _ hq)), stepC_row (h p (by simp)), if_pos hc, List.length_cons]
    omega
theorem rowT_zero (c : Nat) : ∀ m, rowT zF c m = 0
  | 0 => rfl
  | m + 1 => by simp only [rowT]; rw [rowT_zero c m]; rfl
theorem hist_sum {l : List Px} (h : pxsB l) {c : Nat} (hc : c < 4) : rowT (histF l) c 256 = l.length := by
  unfold histF; rw [hist_row hc l h, rowT_zero]; omega
/-- Counts lie between 0 and a bound. -/
def inH (F : Nat → Int) (n : Nat) : Prop := ∀ i, 0 ≤ F i ∧ F i ≤ n
theorem inH_inc {F : Nat → Int} {n : Nat} (h : inH F n) (i : Nat) : inH (incH F i) (n + 1) := fun j => by
  have := h j
  unfold incH; split <;> omega
theorem inH_step {F : Nat → Int} {n : Nat} (h : inH F n) (p : Px) : ∀ c, inH (stepC F p c) (n + c)
  | 0 => h
  | c + 1 => inH_inc (inH_step h p c) _
theorem inH_hist : ∀ (l : List Px) {F : Nat → Int} {n : Nat}, inH F n → inH (l.foldl (fun F p => stepC F p 4) F) (n + 4 * l.length)
  | [], F, n, h => h
  | p :: l, F, n, h => by
    have h2 := inH_hist l (inH_step h p 4)
    rw [List.foldl_cons, List.length_cons, show n + 4 * (l.length + 1) = n + 4 + 4 * l.length by omega]
    exact h2
theorem hist_in (l : List Px) : inH (histF l) (4 * l.length) := by
  have h := inH_hist l (F := zF) (n := 0) (fun i => by unfold zF; omega)
  rw [Nat.zero_add] at h
  exact h
theorem rowT_in {F : Nat → Int} {n : Nat} (h : inH F n) (c : Nat) : ∀ m, 0 ≤ rowT F c m ∧ rowT F c m ≤ m * n
  | 0 => by simp [rowT]
  | m + 1 => by
    have h1 := rowT_in h c m
    have h2 := h (c * 256 + m)
    simp only [rowT]
    have h3 : ((m + 1 : Nat) : Int) * (n : Int) = (m : Int) * n + n := by rw [Int.natCast_add, Int.add_mul]; simp
    rw [h3]; omega
/-- What Histogram returns. -/
def hiL (r : Rc) (l : List Px) : Nat → Int := if bmValid r l then histF l else zF
def hiF (b : Bm) : Nat → Int := hiL b.r b.l
end Go.Proofs.Ytnefnnhnjmmebaa
