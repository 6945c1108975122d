/-
  The iterator that rect.starts returns.
-/
import Derived.RangeFuncNested
import Derived.RangeFuncBound
import Derived.RangeFuncCalls
import Derived.RangeFuncLeaves
import Derived.Shelf.Abstract
import Derived.Shelf.RegionOpen
import Derived.WalkKit
import Derived.OwnWalkIn
import Derived.TacticsInMore
import Derived.LoopNIn
import Derived.LoopIn
import Derived.Test.YtiaeaegocfmjhaaTileP
import Derived.Test.YtiaeaegocfmjhaaProg
namespace Go.Proofs.Ytiaeaegocfmjhaa
open Go.RowKit Go.Shelf
set_option linter.unusedSimpArgs false
set_option linter.unusedVariables false
attribute [local go_sem] Oper.semAt_some

/-- The first k starts. -/
def firstS (a s : Int) (k : Nat) : List Int := (List.range k).map fun k : Nat => a + (k : Int) * s
theorem firstS_succ (a s : Int) (k : Nat) : firstS a s (k + 1) = firstS a s k ++ [a + (k : Int) * s] := by simp [firstS, List.range_succ]
theorem firstS_len (a s : Int) (k : Nat) : (firstS a s k).length = k := by simp [firstS]
theorem firstS_all (a b s : Int) : firstS a s (cntP a b s) = startP a b s := rfl
theorem firstS_pre (a b s : Int) {k : Nat} (h : k ≤ cntP a b s) : firstS a s k <+: startP a b s := by
  rw [← firstS_all]
  refine ⟨(firstS a s (cntP a b s)).drop k, ?_⟩
  have e : firstS a s k = (firstS a s (cntP a b s)).take k := by
    unfold firstS
    rw [← List.map_take, List.take_range, Nat.min_eq_left h]
  rw [e, List.take_append_drop]
set_option maxRecDepth 100000 in
set_option maxHeartbeats 2000000 in
/-- For every loop body that keeps the cells in which the end and the step lie. -/
theorem starts1_in (F : Fence) (n : Nat) (hf : F.fn 55) (hro : F.round = none) (hn : 1 ≤ n) (l B1 B2 B3 : Nat) (a b s : Int) (hs : 1 ≤ s) (ha : -4096 ≤ a ∧ a ≤ 4096) (hb : -4096 ≤ b ∧ b ≤ 4096) (hs2 : s ≤ 9223372036854775807) (Kp : World → World → Prop)
    (hK2 : ∀ X Y v, Kp X Y → X.cell? ⟨B2, 0, none⟩ = some v → Y.cell? ⟨B2, 0, none⟩ = some v) (hK3 : ∀ X Y v, Kp X Y → X.cell? ⟨B3, 0, none⟩ = some v → Y.cell? ⟨B3, 0, none⟩ = some v) (J Jx : List Int → World → Prop)
    (hY : ∀ pre x W, J pre W → pre.length < cntP a b s → x ∈ startP a b s → YieldAt F (n - 1) Try.prog l #[.int .i64 x] W fun e W' =>
      (e = .returned (.bool true) ∧ J (pre ++ [x]) W' ∧ Kp W W') ∨ (e = .returned (.bool false) ∧ Jx (pre ++ [x]) W'))
    (W : World) (hc1 : W.cell? ⟨B1, 0, none⟩ = some (.int .i64 a)) (hc2 : W.cell? ⟨B2, 0, none⟩ = some (.int .i64 b)) (hc3 : W.cell? ⟨B3, 0, none⟩ = some (.int .i64 s)) (h0 : J [] W) :
    CallsIn F n Try.prog 55 #[.func (.yield l) #[] #[], .pointer (some ⟨B1, 0, none⟩), .pointer (some ⟨B2, 0, none⟩), .pointer (some ⟨B3, 0, none⟩)] W fun e W' => (∃ v, e = .returned v) ∧
      ((∃ ys, ys = startP a b s ∧ J ys W') ∨ (∃ pre, pre <+: startP a b s ∧ Jx pre W')) := by
  refine callsIn_of_wp Try.func55 rfl hf ?_ hro
  simp only [Try.ntmps55, List.size_toArray, List.length_cons, List.length_nil, Nat.reduceAdd, Nat.reduceSub, Array.replicate_succ, Array.replicate_zero, List.push_toArray, List.append_toArray, List.nil_append, List.cons_append]
  gi_wp2
  gi_loopw [5] (fun i wr => ∃ k : Nat, k ≤ cntP a b s ∧ i = .int .i64 (a + (k : Int) * s) ∧ J (firstS a s k) wr ∧ wr.cell? ⟨B2, 0, none⟩ = some (.int .i64 b) ∧ wr.cell? ⟨B3, 0, none⟩ = some (.int .i64 s))
    (fun i _ => (b - intOf i).toNat)
  case atStart => exact ⟨0, Nat.zero_le _, by simp, h0, hc2, hc3⟩
  case round =>
    obtain ⟨k, hk, rfl, hJs, d2, d3⟩ := hrel
    have hci := cnt_iff hs (a := a) (b := b) k
    have hci1 := cnt_iff hs (a := a) (b := b) (k + 1)
    have hks : 0 ≤ (k : Int) * s := Int.mul_nonneg (by omega) (by omega)
    have hk1 : ((k + 1 : Nat) : Int) * s = (k : Int) * s + s := by rw [Int.natCast_add, Int.add_mul]; simp
    rw [hk1] at hci1
    obtain ⟨x, hx⟩ : ∃ x, a + (k : Int) * s = x := ⟨_, rfl⟩
    have hx1 : a + ((k : Int) * s + s) = x + s := by omega
    rw [hx1] at hci1
    rw [hx] at hci
    have hxa : a ≤ x := by omega
    have HX := Lib.hid hx
    rw [hx]
    by_cases hlt : x < b
    · have hkc : k < cntP a b s := hci.2 hlt
      obtain ⟨fn, tmps, assign, body, hy, hR⟩ := hY _ x wr hJs (by rw [firstS_len]; exact hkc) (List.mem_map.2 ⟨k, List.mem_range.2 hkc, hx⟩)
      have HS : Hid (firstS a s k ++ [x] = firstS a s (k + 1)) := by unfold Hid; rw [firstS_succ, hx]
      clear hx hk1 hks hx1
      gi_wp2
      refine hR.mono ?_
      rintro e W3 (⟨rfl, hJ3, hk3⟩ | ⟨rfl, hJx3⟩)
      · have f2 : W3.cell? ⟨B2, 0, none⟩ = some (.int .i64 b) := hK2 _ _ _ hk3 d2
        have f3 : W3.cell? ⟨B3, 0, none⟩ = some (.int .i64 s) := hK3 _ _ _ hk3 d3
        rw [HS.out] at hJ3
        by_cases hby : b - x < s
        · have hke : k + 1 = cntP a b s := by
            have : ¬ (k + 1 < cntP a b s) := fun h => by have := hci1.1 h; omega
            omega
          gi_wp2
          refine bodyPost_ret (results_none rfl _ _ _) rfl ?_
          exact ⟨⟨_, rfl⟩, .inl ⟨_, by rw [hke]; exact firstS_all _ _ _, hJ3⟩⟩
        · gi_wp2
          go_roundw
          case rel => exact ⟨k + 1, by omega, by rw [show a + ((k + 1 : Nat) : Int) * s = x + s by rw [← HX.out, Int.natCast_add, Int.add_mul]; simp; omega], hJ3, f2, f3⟩
          case measure => simp [intOf]; omega
      · gi_wp2
        go_end0
        exact ⟨⟨_, rfl⟩, .inr ⟨_, by rw [HS.out]; exact firstS_pre _ _ _ (by omega), hJx3⟩⟩
    · have hke : k = cntP a b s := by
        have : ¬ (k < cntP a b s) := fun h => hlt (hci.1 h)
        omega
      gi_wp2
      refine ⟨fun _ h => (by cases h), ?_⟩
      gi_wp2
      go_end0
      exact ⟨⟨_, rfl⟩, .inl ⟨_, by rw [hke]; exact firstS_all _ _ _, hJs⟩⟩
/-- The elements: the starts, each with the word that it is one. -/
abbrev StP (a b s : Int) : Type := { x : Int // x ∈ startP a b s }
def raw {a b s : Int} (l : List (StP a b s)) : List Int := l.map (·.1)
theorem raw_len {a b s : Int} (l : List (StP a b s)) : (raw l).length = l.length := List.length_map _
theorem raw_snoc {a b s : Int} (l : List (StP a b s)) (x : StP a b s) : raw (l ++ [x]) = raw l ++ [x.1] := by simp [raw]
theorem starts_stops (F : Fence) (n : Nat) (hf : F.fn 55) (hro : F.round = none) (hn : 1 ≤ n) (B1 B2 B3 : Nat) (a b s : Int) (hs : 1 ≤ s) (ha : -4096 ≤ a ∧ a ≤ 4096) (hb : -4096 ≤ b ∧ b ≤ 4096) (hs2 : s ≤ 9223372036854775807) (Kp : World → World → Prop)
    (hK2 : ∀ X Y v, Kp X Y → X.cell? ⟨B2, 0, none⟩ = some v → Y.cell? ⟨B2, 0, none⟩ = some v) (hK3 : ∀ X Y v, Kp X Y → X.cell? ⟨B3, 0, none⟩ = some v → Y.cell? ⟨B3, 0, none⟩ = some v) (w : World)
    (hB1 : B1 < w.heap.size) (hB2 : B2 < w.heap.size) (hB3 : B3 < w.heap.size) (hc1 : w.cell? ⟨B1, 0, none⟩ = some (.int .i64 a)) (hc2 : w.cell? ⟨B2, 0, none⟩ = some (.int .i64 b)) (hc3 : w.cell? ⟨B3, 0, none⟩ = some (.int .i64 s)) :
    SeqStopsK F n Try.prog 55 #[.pointer (some ⟨B1, 0, none⟩), .pointer (some ⟨B2, 0, none⟩), .pointer (some ⟨B3, 0, none⟩)] (fun x : StP a b s => #[Value.int .i64 x.1]) Kp (fun ys => raw ys = startP a b s) (fun pre => raw pre <+: startP a b s) (cntP a b s) w := fun l J Jx W hW _ _ hY h0 =>
  (starts1_in F n hf hro hn l B1 B2 B3 a b s hs ha hb hs2 Kp hK2 hK3 (fun pre X => ∃ q, raw q = pre ∧ J q X) (fun pre X => ∃ q, raw q = pre ∧ Jx q X)
    (fun pre x X ⟨q, hq, hj⟩ hl hx => (hY q ⟨x, hx⟩ X hj (by rw [← raw_len, hq]; exact hl)).mono (fun e Y h => h.imp (fun h => ⟨h.1, ⟨_, by rw [raw_snoc, hq], h.2.1⟩, h.2.2⟩) (fun h => ⟨h.1, ⟨_, by rw [raw_snoc, hq], h.2⟩⟩)))
    W ((hW.cell (p := ⟨B1, 0, none⟩) hB1).trans hc1) ((hW.cell (p := ⟨B2, 0, none⟩) hB2).trans hc2) ((hW.cell (p := ⟨B3, 0, none⟩) hB3).trans hc3) ⟨[], rfl, h0⟩).mono
  fun e Y h => ⟨h.1, h.2.imp (fun ⟨ys, e, q, hq, hj⟩ => ⟨q, hq.trans e, hj⟩) (fun ⟨ys, e, q, hq, hj⟩ => ⟨q, by show raw q <+: _; rw [hq]; exact e, hj⟩)⟩
set_option maxHeartbeats 1000000 in
theorem starts_in (F : Fence) (n : Nat) (hf : F.fn 52) (hro : F.round = none) (a b s : Int) (w : World) :
    CallsIn F n Try.prog 52 #[.int .i64 a, .int .i64 b, .int .i64 s] w fun e w' => e = .returned (.func (.func 55) #[] #[.pointer (some ⟨w.heap.size, 0, none⟩), .pointer (some ⟨w.heap.size + 1, 0, none⟩), .pointer (some ⟨w.heap.size + 1 + 1, 0, none⟩)]) ∧
      w' = ((w.alloc (.cells #[.int .i64 a] 3)).alloc (.cells #[.int .i64 b] 3)).alloc (.cells #[.int .i64 s] 3) := by
  refine callsIn_of_wp Try.func52 rfl hf ?_ hro
  simp only [Try.ntmps52, List.size_toArray, List.length_cons, List.length_nil, Nat.reduceAdd, Nat.reduceSub, Array.replicate_succ, Array.replicate_zero, List.push_toArray, List.append_toArray, List.nil_append, List.cons_append]
  gi_wp2
  go_ret
  exact ⟨rfl, rfl⟩
end Go.Proofs.Ytiaeaegocfmjhaa
