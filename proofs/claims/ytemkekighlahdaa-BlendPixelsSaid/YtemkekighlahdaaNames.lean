/-
  The names of the blend modes: plain facts, and the walks of names, ModeName and ModeByName.
-/
import Derived.Test.YtemkekighlahdaaBlendT
namespace Go.Proofs.Ytemkekighlahdaa
open Go.RowKit
set_option linter.unusedSimpArgs false
set_option linter.unusedVariables false

/-- The name of a mode. -/
def nmB : Nat → ByteArray
  | 1 => ⟨#[110, 111, 114, 109, 97, 108]⟩
  | 2 => ⟨#[109, 117, 108, 116, 105, 112, 108, 121]⟩
  | 3 => ⟨#[115, 99, 114, 101, 101, 110]⟩
  | 4 => ⟨#[111, 118, 101, 114, 108, 97, 121]⟩
  | 5 => ⟨#[100, 97, 114, 107, 101, 110]⟩
  | 6 => ⟨#[108, 105, 103, 104, 116, 101, 110]⟩
  | 7 => ⟨#[100, 105, 102, 102, 101, 114, 101, 110, 99, 101]⟩
  | 8 => ⟨#[101, 120, 99, 108, 117, 115, 105, 111, 110]⟩
  | 9 => ⟨#[104, 97, 114, 100, 108, 105, 103, 104, 116]⟩
  | 10 => ⟨#[104, 117, 101]⟩
  | 11 => ⟨#[115, 97, 116, 117, 114, 97, 116, 105, 111, 110]⟩
  | 12 => ⟨#[99, 111, 108, 111, 114]⟩
  | 13 => ⟨#[108, 117, 109, 105, 110, 111, 115, 105, 116, 121]⟩
  | _ => ⟨#[]⟩
def namesV : Value := .agg #[.string ⟨#[]⟩, .string ⟨#[110, 111, 114, 109, 97, 108]⟩, .string ⟨#[109, 117, 108, 116, 105, 112, 108, 121]⟩, .string ⟨#[115, 99, 114, 101, 101, 110]⟩, .string ⟨#[111, 118, 101, 114, 108, 97, 121]⟩, .string ⟨#[100, 97, 114, 107, 101, 110]⟩, .string ⟨#[108, 105, 103, 104, 116, 101, 110]⟩, .string ⟨#[100, 105, 102, 102, 101, 114, 101, 110, 99, 101]⟩, .string ⟨#[101, 120, 99, 108, 117, 115, 105, 111, 110]⟩, .string ⟨#[104, 97, 114, 100, 108, 105, 103, 104, 116]⟩, .string ⟨#[104, 117, 101]⟩, .string ⟨#[115, 97, 116, 117, 114, 97, 116, 105, 111, 110]⟩, .string ⟨#[99, 111, 108, 111, 114]⟩, .string ⟨#[108, 117, 109, 105, 110, 111, 115, 105, 116, 121]⟩]
def namesC : Array Value := #[.string ⟨#[110, 111, 114, 109, 97, 108]⟩, .string ⟨#[109, 117, 108, 116, 105, 112, 108, 121]⟩, .string ⟨#[115, 99, 114, 101, 101, 110]⟩, .string ⟨#[111, 118, 101, 114, 108, 97, 121]⟩, .string ⟨#[100, 97, 114, 107, 101, 110]⟩, .string ⟨#[108, 105, 103, 104, 116, 101, 110]⟩, .string ⟨#[100, 105, 102, 102, 101, 114, 101, 110, 99, 101]⟩, .string ⟨#[101, 120, 99, 108, 117, 115, 105, 111, 110]⟩, .string ⟨#[104, 97, 114, 100, 108, 105, 103, 104, 116]⟩, .string ⟨#[104, 117, 101]⟩, .string ⟨#[115, 97, 116, 117, 114, 97, 116, 105, 111, 110]⟩, .string ⟨#[99, 111, 108, 111, 114]⟩, .string ⟨#[108, 117, 109, 105, 110, 111, 115, 105, 116, 121]⟩]
/-- The mode of a name, 0 if there is none. -/
def modeN (name : ByteArray) : Nat := (([1, 2, 3, 4, 5, 6, 7, 8, 9, 10, 11, 12, 13] : List Nat).find? (fun j => (nmB j).data.toList == name.data.toList)).getD 0

theorem streq {a b : ByteArray} : (a.toList == b.toList) = true ↔ a = b := by
  rw [beq_iff_eq, ByteArray.toList_eq, ByteArray.toList_eq]
  exact ⟨WideShapes.bytes_inj, fun h => by rw [h]⟩
theorem streq_true {a b : ByteArray} (h : a = b) : (a.toList == b.toList) = true := streq.2 h
theorem streq_false {a b : ByteArray} (h : a ≠ b) : (a.toList == b.toList) = false := by
  cases hb : (a.toList == b.toList) with
  | false => rfl
  | true => exact absurd (streq.1 hb) h
theorem cases13 {P : Nat → Prop} (h1 : P 1) (h2 : P 2) (h3 : P 3) (h4 : P 4) (h5 : P 5) (h6 : P 6) (h7 : P 7) (h8 : P 8) (h9 : P 9) (h10 : P 10) (h11 : P 11) (h12 : P 12) (h13 : P 13) (k : Nat) (a : 1 ≤ k) (b : k ≤ 13) : P k := by
  have : k = 1 ∨ k = 2 ∨ k = 3 ∨ k = 4 ∨ k = 5 ∨ k = 6 ∨ k = 7 ∨ k = 8 ∨ k = 9 ∨ k = 10 ∨ k = 11 ∨ k = 12 ∨ k = 13 := by omega
  rcases this with rfl | rfl | rfl | rfl | rfl | rfl | rfl | rfl | rfl | rfl | rfl | rfl | rfl <;> assumption
theorem modeN_name (k : Nat) (a : 1 ≤ k) (b : k ≤ 13) : modeN (nmB k) = k :=
  cases13 (P := fun k => modeN (nmB k) = k) (by decide) (by decide) (by decide) (by decide) (by decide) (by decide) (by decide) (by decide) (by decide) (by decide) (by decide) (by decide) (by decide) k a b
theorem modeN_none {name : ByteArray} (h : ∀ j, 1 ≤ j → j < 14 → nmB j ≠ name) : modeN name = 0 := by
  unfold modeN
  rw [List.find?_eq_none.2]
  · rfl
  · intro j hj hb
    have hj' : 1 ≤ j ∧ j < 14 := by simp at hj; omega
    exact h j hj'.1 hj'.2 (WideShapes.bytes_inj (beq_iff_eq.1 hb))
theorem modeN_some {name : ByteArray} (h : modeN name ≠ 0) : 1 ≤ modeN name ∧ modeN name ≤ 13 ∧ nmB (modeN name) = name := by
  unfold modeN at h ⊢
  cases hf : ([1, 2, 3, 4, 5, 6, 7, 8, 9, 10, 11, 12, 13] : List Nat).find? (fun j => (nmB j).data.toList == name.data.toList) with
  | none => rw [hf] at h; simp at h
  | some j =>
    have h1 := List.find?_some hf
    have h2 := List.mem_of_find?_eq_some hf
    simp at h2
    refine ⟨by simp; omega, by simp; omega, WideShapes.bytes_inj (beq_iff_eq.1 h1)⟩

theorem idx_names (k : Nat) (h : k < 14) (w : World) : (Instr.index 41 namesV (.int .i64 (k : Int))).run Try.prog w = .ok (.string (nmB k)) w := by
  rcases Nat.eq_zero_or_pos k with rfl | hp
  · kernel_rfl
  · exact cases13 (P := fun k => (Instr.index 41 namesV (.int .i64 (k : Int))).run Try.prog w = .ok (.string (nmB k)) w) (by kernel_rfl) (by kernel_rfl) (by kernel_rfl) (by kernel_rfl) (by kernel_rfl) (by kernel_rfl) (by kernel_rfl) (by kernel_rfl) (by kernel_rfl) (by kernel_rfl) (by kernel_rfl) (by kernel_rfl) (by kernel_rfl) k hp (by omega)
theorem namesC_at (k : Nat) (h : k < 13) : namesC[k]? = some (.string (nmB (k + 1))) := by
  have := cases13 (P := fun j => namesC[j - 1]? = some (.string (nmB j))) rfl rfl rfl rfl rfl rfl rfl rfl rfl rfl rfl rfl rfl (k + 1) (by omega) (by omega)
  simpa using this

set_option maxHeartbeats 400000 in
theorem names_any (w : World) :
    Calls Try.prog 28 #[] w fun e w' => e = .returned namesV ∧ Below w.heap.size w w' := by
  go_enter Try.func28, Try.ntmps28
  go_wp2
  unfold namesV
  refine bodyPost_ret (v := _) ?_ rfl ⟨rfl, (by repeat (first | (with_reducible exact Below.refl _ _) | (with_reducible refine balloc ?_ _) | (with_reducible refine Below.drew ?_) | (with_reducible refine bdrewN ?_ _) | ((with_reducible refine bset ?_ ?_ _); rotate_left; focus (first | (with_reducible exact Nat.le_refl _) | (simp; done) | (simp; omega) | omega)) | (with_reducible refine bstep (by with_reducible assumption) ?_)))⟩
  simp [results, Try.results28, go_sem, List.getElem?_cons_zero]

set_option maxHeartbeats 400000 in
theorem rnames_any (w : World) :
    Calls Try.prog 29 #[] w fun e w' => e = .returned (.slice (some ⟨w.heap.size, 0, none⟩) 13 13) ∧ Bk w' w.heap.size 9 namesC ∧ w' = w.alloc (.cells namesC 9) := by
  go_enter Try.func29, Try.ntmps29
  go_wp2
  go_ret
  exact ⟨rfl, Bk.new _ _ _ rfl, rfl⟩

set_option maxHeartbeats 800000 in
theorem byname_any (name : ByteArray) (w : World) :
    Calls Try.prog 14 #[.string name] w fun e w' => e = .returned (.tuple #[.int .i64 (modeN name : Nat), .bool (modeN name != 0)]) ∧ Below w.heap.size w w' := by
  obtain ⟨m, Hm⟩ : ∃ m, Hid (modeN name = m) := ⟨_, rfl⟩
  rw [Hm.out]
  go_enter Try.func14, Try.ntmps14
  go_wp2_with fail
  refine (names_any _).mono ?_
  rintro e w1 ⟨rfl, hb1⟩
  go_wp2_with fail
  go_loopw [7] (fun i wr => ∃ k : Nat, k ≤ 14 ∧ i = .int .i64 k ∧ Below w.heap.size w wr ∧ Hid (∀ j, 1 ≤ j → j < k → nmB j ≠ name)) (fun i _ => 14 - (intOf i).toNat)
  case atStart => exact ⟨0, Nat.zero_le _, rfl, (by repeat (first | (with_reducible exact Below.refl _ _) | (with_reducible refine balloc ?_ _) | (with_reducible refine Below.drew ?_) | (with_reducible refine bdrewN ?_ _) | ((with_reducible refine bset ?_ ?_ _); rotate_left; focus (first | (with_reducible exact Nat.le_refl _) | (simp; done) | (simp; omega) | omega)) | (with_reducible refine bstep (by with_reducible assumption) ?_))), fun j h1 h2 => by omega⟩
  case round =>
    obtain ⟨k, hk, rfl, hbw, HN⟩ := hrel
    by_cases hlt : k < 14
    · have hidx := idx_names k hlt
      by_cases h0 : k = 0
      · have hk1 : decide ((0 : Int) < (k : Int)) = false := by simp; omega
        have hk0 : k ≤ 0 := by omega
        clear h0
        go_wp2
        go_roundw
        case rel => exact ⟨k + 1, by omega, by go_num, (by repeat (first | (with_reducible exact Below.refl _ _) | (with_reducible refine balloc ?_ _) | (with_reducible refine Below.drew ?_) | (with_reducible refine bdrewN ?_ _) | ((with_reducible refine bset ?_ ?_ _); rotate_left; focus (first | (with_reducible exact Nat.le_refl _) | (simp; done) | (simp; omega) | omega)) | (with_reducible refine bstep (by with_reducible assumption) ?_))), fun j h1 h2 => by omega⟩
        case measure => simp [intOf]; omega
      · have hk1 : decide (0 < k) = true := by simp; omega
        have hk2 : (0 : Int) < (k : Int) := by omega
        clear h0
        by_cases he : nmB k = name
        · have hs := streq_true he
          have HM : Hid (m = k) := by rw [← Hm.out, ← he]; exact modeN_name k (by omega) (by omega)
          have HB : Hid ((m != 0) = true) := by unfold Hid; rw [HM.out]; simp; omega
          clear he
          go_wp2
          go_ret2
          rw [HB.out, HM.out]
          exact ⟨rfl, (by repeat (first | (with_reducible exact Below.refl _ _) | (with_reducible refine balloc ?_ _) | (with_reducible refine Below.drew ?_) | (with_reducible refine bdrewN ?_ _) | ((with_reducible refine bset ?_ ?_ _); rotate_left; focus (first | (with_reducible exact Nat.le_refl _) | (simp; done) | (simp; omega) | omega)) | (with_reducible refine bstep (by with_reducible assumption) ?_)))⟩
        · have hs := streq_false he
          have HN' : Hid (∀ j, 1 ≤ j → j < k + 1 → nmB j ≠ name) := fun j h1 h2 => by
            by_cases e : j = k
            · subst e; exact he
            · exact HN.out j h1 (by omega)
          clear he HN
          go_wp2
          go_roundw
          case rel => exact ⟨k + 1, by omega, by go_num, (by repeat (first | (with_reducible exact Below.refl _ _) | (with_reducible refine balloc ?_ _) | (with_reducible refine Below.drew ?_) | (with_reducible refine bdrewN ?_ _) | ((with_reducible refine bset ?_ ?_ _); rotate_left; focus (first | (with_reducible exact Nat.le_refl _) | (simp; done) | (simp; omega) | omega)) | (with_reducible refine bstep (by with_reducible assumption) ?_))), HN'⟩
          case measure => simp [intOf]; omega
    · have HM : Hid (m = 0) := by rw [← Hm.out]; exact modeN_none (fun j h1 h2 => HN.out j h1 (by omega))
      go_wp2
      go_ret2
      rw [HM.out]
      exact ⟨rfl, (by repeat (first | (with_reducible exact Below.refl _ _) | (with_reducible refine balloc ?_ _) | (with_reducible refine Below.drew ?_) | (with_reducible refine bdrewN ?_ _) | ((with_reducible refine bset ?_ ?_ _); rotate_left; focus (first | (with_reducible exact Nat.le_refl _) | (simp; done) | (simp; omega) | omega)) | (with_reducible refine bstep (by with_reducible assumption) ?_)))⟩

theorem nm_of (mode : Int) (h : validModeB mode = true) : 1 ≤ mode.toNat ∧ mode.toNat ≤ 13 ∧ mode = ((mode.toNat : Nat) : Int) := by
  simp only [validModeB, Bool.and_eq_true, decide_eq_true_eq] at h; omega
/-- The name of a mode, the empty string if there is none. -/
def nameP (mode : Int) : ByteArray := if validModeB mode then nmB mode.toNat else ⟨#[]⟩

set_option maxHeartbeats 800000 in
theorem name_any (mode : Int) (w : World) :
    Calls Try.prog 16 #[.int .i64 mode] w fun e w' => e = .returned (.string (nameP mode)) ∧ Below w.heap.size w w' := by
  obtain ⟨v, Hv⟩ : ∃ v, Hid (validModeB mode = v) := ⟨_, rfl⟩
  have HV : Hid (∀ w, Calls Try.prog 17 #[.int .i64 mode] w fun e w' => e = .returned (.bool v) ∧ w = w') := fun w => by rw [← Hv.out]; exact vmode_any mode w
  unfold nameP
  rw [Hv.out]
  cases v with
  | false =>
    go_enter Try.func16, Try.ntmps16
    go_wp2_with fail
    refine (HV.out _).mono ?_
    rintro e w' ⟨rfl, rfl⟩
    go_wp2
    go_ret
    exact ⟨rfl, (by repeat (first | (with_reducible exact Below.refl _ _) | (with_reducible refine balloc ?_ _) | (with_reducible refine Below.drew ?_) | (with_reducible refine bdrewN ?_ _) | ((with_reducible refine bset ?_ ?_ _); rotate_left; focus (first | (with_reducible exact Nat.le_refl _) | (simp; done) | (simp; omega) | omega)) | (with_reducible refine bstep (by with_reducible assumption) ?_)))⟩
  | true =>
    obtain ⟨k, a, b, hk⟩ : ∃ k : Nat, 1 ≤ k ∧ k ≤ 13 ∧ mode = (k : Int) := ⟨_, nm_of mode Hv.out⟩
    subst hk
    rw [if_pos rfl, Int.toNat_natCast]
    have hidx := idx_names k (by omega)
    clear Hv
    go_enter Try.func16, Try.ntmps16
    go_wp2_with fail
    refine (HV.out _).mono ?_
    rintro e w' ⟨rfl, rfl⟩
    go_wp2_with fail
    refine (names_any _).mono ?_
    rintro e w1 ⟨rfl, hb1⟩
    go_wp2
    go_ret
    exact ⟨rfl, (by repeat (first | (with_reducible exact Below.refl _ _) | (with_reducible refine balloc ?_ _) | (with_reducible refine Below.drew ?_) | (with_reducible refine bdrewN ?_ _) | ((with_reducible refine bset ?_ ?_ _); rotate_left; focus (first | (with_reducible exact Nat.le_refl _) | (simp; done) | (simp; omega) | omega)) | (with_reducible refine bstep (by with_reducible assumption) ?_)))⟩

set_option maxHeartbeats 800000 in
theorem rname_any (mode : Int) (w : World) :
    Calls Try.prog 19 #[.int .i64 mode] w fun e w' => e = .returned (.string (nameP mode)) ∧ Below w.heap.size w w' := by
  obtain ⟨v, Hv⟩ : ∃ v, Hid (validModeB mode = v) := ⟨_, rfl⟩
  have HV : Hid (∀ w, Calls Try.prog 18 #[.int .i64 mode] w fun e w' => e = .returned (.bool v) ∧ w = w') := fun w => by rw [← Hv.out]; exact rvmode_any mode w
  unfold nameP
  rw [Hv.out]
  cases v with
  | false =>
    go_enter Try.func19, Try.ntmps19
    go_wp2_with fail
    refine (HV.out _).mono ?_
    rintro e w' ⟨rfl, rfl⟩
    go_wp2
    go_ret
    exact ⟨rfl, (by repeat (first | (with_reducible exact Below.refl _ _) | (with_reducible refine balloc ?_ _) | (with_reducible refine Below.drew ?_) | (with_reducible refine bdrewN ?_ _) | ((with_reducible refine bset ?_ ?_ _); rotate_left; focus (first | (with_reducible exact Nat.le_refl _) | (simp; done) | (simp; omega) | omega)) | (with_reducible refine bstep (by with_reducible assumption) ?_)))⟩
  | true =>
    obtain ⟨k, b, hk⟩ : ∃ k : Nat, k < 13 ∧ mode = (k : Int) + 1 := ⟨mode.toNat - 1, by have := nm_of mode Hv.out; omega⟩
    subst hk
    rw [if_pos rfl, show ((k : Int) + 1).toNat = k + 1 by omega]
    have hat := namesC_at k b
    clear Hv
    have i0 : (0 : Int) ≤ (k : Int) := by omega
    have i1 : (k : Int) < 13 := by omega
    have i2 : ((k : Int) + 1 - 1) = (k : Int) := by omega
    go_enter Try.func19, Try.ntmps19
    go_wp2_with fail
    refine (HV.out _).mono ?_
    rintro e w' ⟨rfl, rfl⟩
    go_wp2_with fail
    refine (rnames_any _).mono ?_
    rintro e w1 ⟨rfl, hk1, rfl⟩
    have hcell : (w.alloc (.cells namesC 9)).cell? ⟨w.heap.size, k, none⟩ = some (.string (nmB (k + 1))) := (hk1.rules.1 k).trans hat
    go_wp2
    go_ret
    exact ⟨rfl, (by repeat (first | (with_reducible exact Below.refl _ _) | (with_reducible refine balloc ?_ _) | (with_reducible refine Below.drew ?_) | (with_reducible refine bdrewN ?_ _) | ((with_reducible refine bset ?_ ?_ _); rotate_left; focus (first | (with_reducible exact Nat.le_refl _) | (simp; done) | (simp; omega) | omega)) | (with_reducible refine bstep (by with_reducible assumption) ?_)))⟩

set_option maxHeartbeats 800000 in
theorem rbyname_any (name : ByteArray) (w : World) :
    Calls Try.prog 15 #[.string name] w fun e w' => e = .returned (.tuple #[.int .i64 (modeN name : Nat), .bool (modeN name != 0)]) ∧ Below w.heap.size w w' := by
  obtain ⟨m, Hm⟩ : ∃ m, Hid (modeN name = m) := ⟨_, rfl⟩
  rw [Hm.out]
  go_enter Try.func15, Try.ntmps15
  go_wp2_with fail
  refine (rnames_any _).mono ?_
  rintro e w1 ⟨rfl, hk1, rfl⟩
  go_wp2_with fail
  go_loopw [5] (fun i wr => ∃ k : Nat, k ≤ 13 ∧ i = .int .i64 k ∧ Below w.heap.size w wr ∧ Bk wr w.heap.size 9 namesC ∧ Hid (∀ j, 1 ≤ j → j < k + 1 → nmB j ≠ name)) (fun i _ => 13 - (intOf i).toNat)
  case atStart => exact ⟨0, Nat.zero_le _, rfl, (by repeat (first | (with_reducible exact Below.refl _ _) | (with_reducible refine balloc ?_ _) | (with_reducible refine Below.drew ?_) | (with_reducible refine bdrewN ?_ _) | ((with_reducible refine bset ?_ ?_ _); rotate_left; focus (first | (with_reducible exact Nat.le_refl _) | (simp; done) | (simp; omega) | omega)) | (with_reducible refine bstep (by with_reducible assumption) ?_))), hk1, fun j h1 h2 => by omega⟩
  case round =>
    obtain ⟨k, hk, rfl, hbw, hbk, HN⟩ := hrel
    by_cases hlt : k < 13
    · have hcell : wr.cell? ⟨w.heap.size, k, none⟩ = some (.string (nmB (k + 1))) := (hbk.rules.1 k).trans (namesC_at k hlt)
      by_cases he : nmB (k + 1) = name
      · have hs := streq_true he
        have HM : Hid (m = k + 1) := by rw [← Hm.out, ← he]; exact modeN_name (k + 1) (by omega) (by omega)
        have HB : Hid ((m != 0) = true) := by unfold Hid; rw [HM.out]; simp
        clear he
        go_wp2
        go_ret2
        rw [HB.out, HM.out]
        exact ⟨by rw [show ((k + 1 : Nat) : Int) = 1 + (k : Int) by omega]; rfl, (by repeat (first | (with_reducible exact Below.refl _ _) | (with_reducible refine balloc ?_ _) | (with_reducible refine Below.drew ?_) | (with_reducible refine bdrewN ?_ _) | ((with_reducible refine bset ?_ ?_ _); rotate_left; focus (first | (with_reducible exact Nat.le_refl _) | (simp; done) | (simp; omega) | omega)) | (with_reducible refine bstep (by with_reducible assumption) ?_)))⟩
      · have hs := streq_false he
        have HN' : Hid (∀ j, 1 ≤ j → j < k + 1 + 1 → nmB j ≠ name) := fun j h1 h2 => by
          by_cases e : j = k + 1
          · subst e; exact he
          · exact HN.out j h1 (by omega)
        clear he HN
        go_wp2
        go_roundw
        case rel => exact ⟨k + 1, by omega, by go_num, (by repeat (first | (with_reducible exact Below.refl _ _) | (with_reducible refine balloc ?_ _) | (with_reducible refine Below.drew ?_) | (with_reducible refine bdrewN ?_ _) | ((with_reducible refine bset ?_ ?_ _); rotate_left; focus (first | (with_reducible exact Nat.le_refl _) | (simp; done) | (simp; omega) | omega)) | (with_reducible refine bstep (by with_reducible assumption) ?_))), hbk, HN'⟩
        case measure => simp [intOf]; omega
    · have HM : Hid (m = 0) := by rw [← Hm.out]; exact modeN_none (fun j h1 h2 => HN.out j h1 (by omega))
      go_wp2
      go_ret2
      rw [HM.out]
      exact ⟨rfl, (by repeat (first | (with_reducible exact Below.refl _ _) | (with_reducible refine balloc ?_ _) | (with_reducible refine Below.drew ?_) | (with_reducible refine bdrewN ?_ _) | ((with_reducible refine bset ?_ ?_ _); rotate_left; focus (first | (with_reducible exact Nat.le_refl _) | (simp; done) | (simp; omega) | omega)) | (with_reducible refine bstep (by with_reducible assumption) ?_)))⟩
end Go.Proofs.Ytemkekighlahdaa
