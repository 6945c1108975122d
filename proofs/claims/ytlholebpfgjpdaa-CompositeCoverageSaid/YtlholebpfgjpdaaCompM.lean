/-
  The map of compositing operators: what it holds, how it is asked.
-/
import Derived.Test.YtlholebpfgjpdaaCompP
import Derived.Test.YtlholebpfgjpdaaBase
import Derived.Test.YtlholebpfgjpdaaGo
import Derived.Test.YtlholebpfgjpdaaRows
import Derived.MapKept
import Derived.Maps.Own
namespace Go.Proofs.Ytlholebpfgjpdaa
open Go.RowKit
set_option linter.unusedSimpArgs false
set_option linter.unusedVariables false

section
variable {P : Program} {ops : Array Oper} {rest : List Oper} {o : Oper} {a : Act} {Q : Exit → Act → World → Prop}

/-- An entry with a new key goes into a map (keys: int). -/
theorem wpList_insert (w : World) (hg : o.guard = none) (m x v : Operand) (t : TypeId) (hop : o.op = Op.insert t m x v) {k e : TypeId} (ht : P.underlying t = some (.map k e)) (hk : P.underlying k = some (.int .i64)) (b : Nat) (es : Array MapEntry) (clock : Nat)
    (hm : a.eval m = .map (some b)) (hb : w.heap[b]? = some (.map es clock)) (n : Int) (val : Value) (hx : a.eval x = .int .i64 n) (hv : a.eval v = val) (hnew : Instr.findNow (.int .i64) (.int .i64 n) es.toList 0 = some none)
    (hK : ∀ w', w'.heap[b]? = some (.map (es.push ⟨.int .i64 n, val, clock⟩) (clock + 1)) → Below b w w' → wpList P ops Q rest (a.put o.dst undef) w') : wpList P ops Q (o :: rest) a w := by
  refine wpList_plain hg fun K' hK' => ?_
  have hlt : b < w.heap.size := (Array.getElem?_eq_some_iff.1 hb).1
  have hrun : (Instr.mapUpdate t (.map (some b)) (.int .i64 n) val).run P w = .ok () { w with heap := w.heap.setIfInBounds b (.map (es.push ⟨.int .i64 n, val, clock⟩) (clock + 1)) } := by
    simp [Instr.mapUpdate, run_underlying ht, MapKept.run_getObj_map hb, MapKept.run_checkKey (k := .int .i64 n) hk rfl, MapKept.run_findKey hk hnew, MapKept.run_setObj_map _ hb, Result.andThen]
  unfold Oper.wp
  simp [execOp, hop, hm, hx, hv, hrun, Result.andThen]
  refine hK' _ _ (hK _ (by simp [hlt]) ⟨rfl, rfl, rfl, by simp, fun j hj => ?_⟩)
  show (w.heap.setIfInBounds b _)[j]? = w.heap[j]?
  rw [Array.getElem?_setIfInBounds_ne (by omega)]
end

/-- The terms of an operator's factors. -/
def codeP (op : Int) : Int × Int :=
  if op = 1 then (0, 0) else if op = 2 then (1, 0) else if op = 3 then (1, 3) else if op = 4 then (4, 0) else if op = 5 then (5, 0) else
  if op = 6 then (4, 3) else if op = 7 then (5, 3) else if op = 8 then (1, 1) else if op = 9 then (0, 2) else if op = 10 then (0, 3) else (0, 0)
def entP (k a b : Int) (c : Nat) : MapEntry := ⟨.int .i64 k, .agg #[.int .i64 a, .int .i64 b], c⟩
def opsE : Array MapEntry := #[entP 1 0 0 0, entP 2 1 0 1, entP 3 1 3 2, entP 4 4 0 3, entP 5 5 0 4, entP 6 4 3 5, entP 7 5 3 6, entP 8 1 1 7, entP 9 0 2 8, entP 10 0 3 9]
theorem op_cases {op : Int} (h : validOpB op = true) : op = 1 ∨ op = 2 ∨ op = 3 ∨ op = 4 ∨ op = 5 ∨ op = 6 ∨ op = 7 ∨ op = 8 ∨ op = 9 ∨ op = 10 := by
  simp only [validOpB, Bool.and_eq_true, decide_eq_true_eq] at h; omega
theorem find_ops (op : Int) : ∃ r, Instr.findNow (.int .i64) (.int .i64 op) opsE.toList 0 = some r ∧ r.isSome = validOpB op ∧ ∀ i v, r = some (i, v) → v = .agg #[.int .i64 (codeP op).1, .int .i64 (codeP op).2] := by
  cases h : validOpB op with
  | true =>
    rcases op_cases h with rfl | rfl | rfl | rfl | rfl | rfl | rfl | rfl | rfl | rfl
    all_goals exact ⟨_, rfl, rfl, fun i v hv => by cases hv; rfl⟩
  | false =>
    refine ⟨none, ?_, rfl, fun i v hv => by cases hv⟩
    simp only [validOpB, Bool.and_eq_false_iff, decide_eq_false_iff_not] at h
    have h1 : (op == 1) = false := by simp; omega
    have h2 : (op == 2) = false := by simp; omega
    have h3 : (op == 3) = false := by simp; omega
    have h4 : (op == 4) = false := by simp; omega
    have h5 : (op == 5) = false := by simp; omega
    have h6 : (op == 6) = false := by simp; omega
    have h7 : (op == 7) = false := by simp; omega
    have h8 : (op == 8) = false := by simp; omega
    have h9 : (op == 9) = false := by simp; omega
    have h10 : (op == 10) = false := by simp; omega
    simp [opsE, entP, Instr.findNow, Instr.sameNow, h1, h2, h3, h4, h5, h6, h7, h8, h9, h10]
theorem code_invalid {op : Int} (h : validOpB op = false) : codeP op = (0, 0) := by
  simp only [validOpB, Bool.and_eq_false_iff, decide_eq_false_iff_not] at h
  unfold codeP
  rw [if_neg (by omega), if_neg (by omega), if_neg (by omega), if_neg (by omega), if_neg (by omega), if_neg (by omega), if_neg (by omega), if_neg (by omega), if_neg (by omega), if_neg (by omega)]
theorem look_ops (op : Int) {w : World} {b : Nat} (hb : w.heap[b]? = some (.map opsE 10)) :
    (Instr.lookup 46 (.map (some b)) (.int .i64 op) true).run Try.prog w = .ok (.tuple #[.agg #[.int .i64 (codeP op).1, .int .i64 (codeP op).2], .bool (validOpB op)]) w := by
  obtain ⟨r, hr, h1, h2⟩ := find_ops op
  have hz : (zeroValue 44).run Try.prog w = .ok (.agg #[.int .i64 0, .int .i64 0]) w := by kernel_rfl
  cases r with
  | none =>
    have hv : validOpB op = false := by rw [← h1]; rfl
    simp [Instr.lookup, run_underlying Try.underlying46, MapKept.run_getObj_map hb, MapKept.run_checkKey (k := .int .i64 op) Try.underlying3 rfl, MapKept.run_findKey Try.underlying3 hr, Result.andThen, hz, hv, code_invalid hv]
  | some q =>
    obtain ⟨i, v⟩ := q
    have hv : validOpB op = true := by rw [← h1]; rfl
    rw [h2 i v rfl] at hr
    simp [Instr.lookup, run_underlying Try.underlying46, MapKept.run_getObj_map hb, MapKept.run_checkKey (k := .int .i64 op) Try.underlying3 rfl, MapKept.run_findKey Try.underlying3 hr, Result.andThen, hv]

/-- A block that holds the operators. -/
def OpsAt (w : World) (b : Nat) : Prop := w.heap[b]? = some (.map opsE 10)

set_option maxRecDepth 10000 in
set_option maxHeartbeats 1600000 in
theorem operators_any (w : World) :
    Calls Try.prog 24 #[] w fun e w' => e = .returned (.map (some w.heap.size)) ∧ OpsAt w' w.heap.size ∧ Below w.heap.size w w' := by
  have h0 : (w.alloc (.map #[] 0)).heap[w.heap.size]? = some (.map #[] 0) := (MapKept.heap_alloc w _).1
  have hmm := fun w => @run_makeMap Try.prog 46 w
  have B0 : Below w.heap.size w (w.alloc (.map #[] 0)) := (Below.refl _ _).alloc (Nat.le_refl _) _
  go_enter Try.func24, Try.ntmps24
  go_wp2_with (refine wpList_insert _ rfl _ _ _ 46 rfl Try.underlying46 Try.underlying3 w.heap.size _ _ rfl (by assumption) _ _ rfl rfl (by rfl) ?_; intro w1 hh bb; replace B0 := B0.trans bb; clear bb)
  go_ret
  exact ⟨rfl, hh, B0⟩
end Go.Proofs.Ytlholebpfgjpdaa
