/-
  Slices of rectangles: what it means that one reads as a list, and the walk of grisailleref09.Same.
-/
import Derived.Test.YtiaeaegocfmjhaaRect3
import Derived.Test.YtiaeaegocfmjhaaList
namespace Go.Proofs.Ytiaeaegocfmjhaa
open Go.RowKit
set_option linter.unusedSimpArgs false
set_option linter.unusedVariables false

/-- The cells of a rectangle. -/
def encR (r : Rc) : List Value := [.int .i64 r.x0, .int .i64 r.y0, .int .i64 r.x1, .int .i64 r.y1]
theorem encR_len (r : Rc) : (encR r).length = 4 := rfl
theorem encR_one (r : Rc) : ∀ u ∈ encR r, u.oneCell' = true := by intro u hu; simp [encR] at hu; rcases hu with rfl | rfl | rfl | rfl <;> rfl
theorem Try.infoRect : (Try.prog.info? 23).map (fun i => (i.zero, i.size, i.bytes)) = some (some (.agg #[.int .i64 0, .int .i64 0, .int .i64 0, .int .i64 0]), 4, 32) := by kernel_rfl

/-- The cells of element k. -/
theorem rd4 {w : World} {A : Option Addr} {l : List Rc} (h : RdL encR 4 w A l) {k : Nat} (hk : k < l.length) : ∃ g o, A = some ⟨g, o, none⟩ ∧ g < w.heap.size ∧
    w.cell? ⟨g, o + k * 4, none⟩ = some (.int .i64 (l[k]).x0) ∧ w.cell? ⟨g, o + k * 4 + 1, none⟩ = some (.int .i64 (l[k]).y0) ∧ w.cell? ⟨g, o + k * 4 + 2, none⟩ = some (.int .i64 (l[k]).x1) ∧ w.cell? ⟨g, o + k * 4 + 3, none⟩ = some (.int .i64 (l[k]).y1) := by
  obtain ⟨g, o, hA, hg, hc⟩ := h (by intro e; rw [e] at hk; simp at hk)
  exact ⟨g, o, hA, hg, hc k hk 0 _ rfl, hc k hk 1 _ rfl, hc k hk 2 _ rfl, hc k hk 3 _ rfl⟩

/-- Two lists of rectangles are the same. -/
def sameB : List Rc → List Rc → Bool
  | [], [] => true
  | p :: l, q :: m => eqB p q && sameB l m
  | _, _ => false
theorem sameB_iff : ∀ (l m : List Rc), sameB l m = true ↔ l = m
  | [], [] => by simp [sameB]
  | [], _ :: _ => by simp [sameB]
  | _ :: _, [] => by simp [sameB]
  | p :: l, q :: m => by simp [sameB, eqB_iff, sameB_iff l m]
theorem sameB_false {l m : List Rc} (h : l ≠ m) : sameB l m = false := by
  cases hs : sameB l m with
  | false => rfl
  | true => exact absurd ((sameB_iff l m).1 hs) h

/-- '!=' on two rectangles. -/
theorem neq_rect (p0 p1 p2 p3 q0 q1 q2 q3 : Int) (w : World) : (binOp .neq 23 (.agg #[.int .i64 p0, .int .i64 p1, .int .i64 p2, .int .i64 p3]) (.agg #[.int .i64 q0, .int .i64 q1, .int .i64 q2, .int .i64 q3])).run Try.prog w = .ok (.bool (!eqB ⟨p0, p1, p2, p3⟩ ⟨q0, q1, q2, q3⟩)) w := by
  have u3 := Try.underlying3
  have a3 := Try.isAgg3
  have z3 := Try.sizeOf3
  have hS : Try.prog.underlying 23 = some (.struct (Try.prog.fieldsOf 23)) := by kernel_rfl
  have hp : Try.prog.stoodInHeld 23 = false := by kernel_rfl
  rw [run_neq_struct, show (10000 : Nat) = 9999 + 1 from rfl, run_equalIn_agg w 9999 23 _ _ hS hp]
  simp only [Program.fieldsOf, Try.underlying23]
  go_simp
  unfold eqB
  by_cases h0 : p0 = q0 <;> by_cases h1 : p1 = q1 <;> by_cases h2 : p2 = q2 <;> by_cases h3 : p3 = q3 <;> simp [h0, h1, h2, h3]

set_option maxHeartbeats 400000 in
theorem same_ne (A B : Option Addr) (a b c c' : Nat) (w : World) (ha : a ≤ 4000000000) (hb : b ≤ 4000000000) (hne : a ≠ b) :
    Calls Try.prog 13 #[.slice A a c, .slice B b c'] w fun e w' => e = .returned (.bool false) ∧ Below w.heap.size w w' := by
  have h1 : ((a : Int) != (b : Int)) = true := by rw [bne_iff_ne]; omega
  clear hne
  go_enter Try.func13, Try.ntmps13
  go_wp2
  go_ret
  exact ⟨rfl, Below.refl _ _⟩

set_option maxHeartbeats 800000 in
theorem same_eq (A B : Option Addr) (a c c' : Nat) (l m : List Rc) (w : World) (hA : RdL encR 4 w A l) (hB : RdL encR 4 w B m) (hl : l.length = a) (hm : m.length = a) (ha : a ≤ 4000000000) :
    Calls Try.prog 13 #[.slice A a c, .slice B a c'] w fun e w' => e = .returned (.bool (sameB l m)) ∧ Below w.heap.size w w' := by
  have HA := Lib.hid hA
  have HB := Lib.hid hB
  have HL := Lib.hid hl
  have HM := Lib.hid hm
  have hne : ((a : Int) != (a : Int)) = false := by simp
  clear hA hB hl hm
  go_enter Try.func13, Try.ntmps13
  go_wp2
  go_loopw [5] (fun i wr => ∃ k : Nat, k ≤ a ∧ i = .int .i64 k ∧ Below w.heap.size w wr ∧ Hid (l.take k = m.take k)) (fun i _ => a - (intOf i).toNat)
  case atStart => exact ⟨0, Nat.zero_le _, rfl, Below.refl _ _, rfl⟩
  case round =>
    obtain ⟨k, hk, rfl, hbw, HT⟩ := hrel
    by_cases hlt : k < a
    · have hkl : k < l.length := by have := HL.out; omega
      have hkm : k < m.length := by have := HM.out; omega
      obtain ⟨g, o, rfl, hg, hcA⟩ := rd4 (HA.out.below hbw) hkl
      obtain ⟨g', o', rfl, hg', hcB⟩ := rd4 (HB.out.below hbw) hkm
      have QA := Lib.hid hcA
      have QB := Lib.hid hcB
      obtain ⟨p, Hp⟩ : ∃ p, Hid (l[k] = p) := ⟨l[k], rfl⟩
      obtain ⟨q, Hq⟩ : ∃ q, Hid (m[k] = q) := ⟨m[k], rfl⟩
      rw [Hp.out] at QA
      rw [Hq.out] at QB
      have HS : Hid (eqB p q = true → l.take (k + 1) = m.take (k + 1)) := fun h => by
        rw [List.take_succ_eq_append_getElem hkl, List.take_succ_eq_append_getElem hkm, HT.out, Hp.out, Hq.out, (eqB_iff p q).1 h]
      have HF : Hid (eqB p q = false → sameB l m = false) := fun h => sameB_false (fun e => by
        subst e
        have : p = q := Hp.out.symm.trans Hq.out
        rw [(eqB_iff p q).2 this] at h; cases h)
      have heq := neq_rect p.x0 p.y0 p.x1 p.y1 q.x0 q.y0 q.x1 q.y1
      have i0 : (0 : Int) ≤ (k : Int) := by omega
      have i1 : (k : Int) < (a : Int) := by omega
      clear hcA hcB Hp Hq hkl hkm
      go_wp2
      refine wp_region_gob 9 [(0, true), (1, true), (2, true), (3, true), (4, true), (5, true), (6, true), (7, true), (8, true)] (by kernel_rfl) (by kernel_rfl) (fun c a d v w h => by cases d <;> exact h) ?_
      repeat (refine wpGo_pure (v := ?_) rfl rfl (fun w' hS => ?_) ?_; rotate_left; (· obtain ⟨q0, q1, q2, q3⟩ := QA.out; obtain ⟨q4, q5, q6, q7⟩ := QB.out; have r0 := (hS.cell (p := ⟨g, o + k * 4, none⟩) hg).trans q0; have r1 := (hS.cell (p := ⟨g, o + k * 4 + 1, none⟩) hg).trans q1; have r2 := (hS.cell (p := ⟨g, o + k * 4 + 2, none⟩) hg).trans q2; have r3 := (hS.cell (p := ⟨g, o + k * 4 + 3, none⟩) hg).trans q3; have r4 := (hS.cell (p := ⟨g', o' + k * 4, none⟩) hg').trans q4; have r5 := (hS.cell (p := ⟨g', o' + k * 4 + 1, none⟩) hg').trans q5; have r6 := (hS.cell (p := ⟨g', o' + k * 4 + 2, none⟩) hg').trans q6; have r7 := (hS.cell (p := ⟨g', o' + k * 4 + 3, none⟩) hg').trans q7; go_simp; exact rfl); (try simp only [Act.put, List.setIfInBounds_toArray, List.set_cons_zero, List.set_cons_succ]))
      refine wpGo_nil ?_
      simp only [List.drop_succ_cons, List.drop_zero]
      clear heq
      cases hE : eqB p q with
      | true =>
        have HS' := Lib.hid (HS.out hE)
        clear HS HF hE QA QB
        go_wp2
        go_roundw
        case rel => exact ⟨k + 1, by omega, by go_num, hbw.drew, HS'⟩
        case measure => simp [intOf]; omega
      | false =>
        have HF' := Lib.hid (HF.out hE)
        clear HS HF hE QA QB
        go_wp2
        go_ret
        exact ⟨ret_bool (by rw [HF'.out]), hbw.drew⟩
    · have HE : Hid (sameB l m = true) := (sameB_iff l m).2 (by
        have h := HT.out
        rw [List.take_of_length_le (by have := HL.out; omega), List.take_of_length_le (by have := HM.out; omega)] at h
        exact h)
      go_wp2
      go_ret
      exact ⟨ret_bool (by rw [HE.out]), hbw⟩

/-- grisailleref09.Same on two slices that read as lists. -/
theorem same_any (A B : Option Addr) (c c' : Nat) (l m : List Rc) (w : World) (hA : RdL encR 4 w A l) (hB : RdL encR 4 w B m) (hl : l.length ≤ 4000000000) (hm : m.length ≤ 4000000000) :
    Calls Try.prog 13 #[.slice A l.length c, .slice B m.length c'] w fun e w' => e = .returned (.bool (sameB l m)) ∧ Below w.heap.size w w' := by
  by_cases h : l.length = m.length
  · rw [← h]; exact same_eq A B l.length c c' l m w hA hB rfl h.symm hl
  · have : sameB l m = false := sameB_false (fun e => h (by rw [e]))
    rw [this]; exact same_ne A B _ _ c c' w hl hm h
end Go.Proofs.Ytiaeaegocfmjhaa
