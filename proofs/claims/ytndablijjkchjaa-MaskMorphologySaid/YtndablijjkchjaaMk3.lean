/-
  Lists of masks: mask.all and grisailleref21.allValid.
-/
import Derived.Test.YtndablijjkchjaaMk1
import Derived.Test.YtndablijjkchjaaOpenM
namespace Go.Proofs.Ytndablijjkchjaa
open Go.RowKit
set_option linter.unusedSimpArgs false
set_option linter.unusedVariables false

/-- A mask of a slice of masks. -/
theorem rdk {w : World} {A : Option Addr} {l : List Mk} (h : RdL encMk 5 w A l) {k : Nat} (hk : k < l.length) : ∃ g o, A = some ⟨g, o, none⟩ ∧ g < w.heap.size ∧
    w.cell? ⟨g, o + k * 5, none⟩ = some (.int .i64 (l[k]).r.x0) ∧ w.cell? ⟨g, o + k * 5 + 1, none⟩ = some (.int .i64 (l[k]).r.y0) ∧ w.cell? ⟨g, o + k * 5 + 2, none⟩ = some (.int .i64 (l[k]).r.x1) ∧ w.cell? ⟨g, o + k * 5 + 3, none⟩ = some (.int .i64 (l[k]).r.y1) ∧ w.cell? ⟨g, o + k * 5 + 4, none⟩ = some (.slice (l[k]).A (l[k]).n (l[k]).c) := by
  obtain ⟨g, o, hA, hg, hc⟩ := h (by intro e; rw [e] at hk; simp at hk)
  exact ⟨g, o, hA, hg, hc k hk 0 _ rfl, hc k hk 1 _ rfl, hc k hk 2 _ rfl, hc k hk 3 _ rfl, hc k hk 4 _ rfl⟩
def vMk (b : Mk) : Bool := mkValid b.r b.l
/-- The index of the first mask that is not valid, -1 if there is none. -/
def idxM (l : List Mk) : Int := match l.findIdx? (fun p => !vMk p) with | some i => (i : Int) | none => -1
theorem idxM_any (l : List Mk) : decide (0 ≤ idxM l) = !(l.all vMk) := by
  unfold idxM
  cases h : l.findIdx? (fun p => !vMk p) with
  | none =>
    rw [List.findIdx?_eq_none_iff] at h
    have : l.all vMk = true := List.all_eq_true.2 (fun p hp => by have := h p hp; simpa using this)
    rw [this]; rfl
  | some i =>
    obtain ⟨hi, hp, _⟩ := List.findIdx?_eq_some_iff_getElem.1 h
    have : l.all vMk = false := List.all_eq_false.2 ⟨l[i], List.getElem_mem hi, by simpa using hp⟩
    rw [this]
    simp
set_option maxHeartbeats 400000 in
theorem mall1_any (b : Mk) (w : World) (hb : b.ok w) (hs : b.n ≤ 4000000000) (v : Bool) (Hv : Hid (vMk b = v)) :
    Calls Try.prog 80 #[.agg #[.int .i64 b.r.x0, .int .i64 b.r.y0, .int .i64 b.r.x1, .int .i64 b.r.y1, .slice b.A b.n b.c]] w fun e w' => e = .returned (.bool (!v)) ∧ Below w.heap.size w w' := by
  have HB := Lib.hid hb
  clear hb
  go_enter Try.func80, Try.ntmps80
  go_wp2_with fail
  refine (mvalid_any b.r b.A b.n b.c b.l _ (HB.out.rd.below (by repeat (first | (with_reducible exact Below.refl _ _) | (with_reducible refine balloc ?_ _) | (with_reducible refine Below.drew ?_) | (with_reducible refine bdrewN ?_ _) | ((with_reducible refine bset ?_ ?_ _); rotate_left; focus (first | (with_reducible exact Nat.le_refl _) | (simp; done) | (simp; omega) | omega)) | (with_reducible refine bstep (by with_reducible assumption) ?_)))) HB.out.ln hs v Hv).mono ?_
  rintro e w1 ⟨rfl, hb1⟩
  go_wp2
  go_ret
  exact ⟨rfl, (by repeat (first | (with_reducible exact Below.refl _ _) | (with_reducible refine balloc ?_ _) | (with_reducible refine Below.drew ?_) | (with_reducible refine bdrewN ?_ _) | ((with_reducible refine bset ?_ ?_ _); rotate_left; focus (first | (with_reducible exact Nat.le_refl _) | (simp; done) | (simp; omega) | omega)) | (with_reducible refine bstep (by with_reducible assumption) ?_)))⟩
set_option maxHeartbeats 800000 in
theorem mindex_any (A : Option Addr) (n c : Nat) (l : List Mk) (w : World) (hr : RdL encMk 5 w A l) (hn : l.length = n) (hn2 : n ≤ 4000000000) (ho : ∀ b ∈ l, b.ok w) (hs : ∀ b ∈ l, b.n ≤ 4000000000) :
    Calls Try.prog 89 #[.slice A n c, .func (.func 80) #[] #[]] w fun e w' => e = .returned (.int .i64 (idxM l)) ∧ Below w.heap.size w w' := by
  have HR := Lib.hid hr
  have Hn := Lib.hid hn
  have HO := Lib.hid ho
  have HSZ := Lib.hid hs
  clear hr hn ho hs
  obtain ⟨ix, Hix⟩ : ∃ i, Hid (idxM l = i) := ⟨_, rfl⟩
  rw [Hix.out]
  go_enter Try.func89, Try.ntmps89
  go_wp2_with fail
  go_loopw [8] (fun i wr => ∃ k : Nat, k ≤ n ∧ i = .int .i64 k ∧ Below w.heap.size w wr ∧ Hid (∀ j (hj : j < l.length), j < k → vMk l[j] = true)) (fun i _ => n - (intOf i).toNat)
  case atStart => exact ⟨0, Nat.zero_le _, rfl, (by repeat (first | (with_reducible exact Below.refl _ _) | (with_reducible refine balloc ?_ _) | (with_reducible refine Below.drew ?_) | (with_reducible refine bdrewN ?_ _) | ((with_reducible refine bset ?_ ?_ _); rotate_left; focus (first | (with_reducible exact Nat.le_refl _) | (simp; done) | (simp; omega) | omega)) | (with_reducible refine bstep (by with_reducible assumption) ?_))), fun j hj h => by omega⟩
  case round =>
    obtain ⟨k, hk, rfl, hbw, HN⟩ := hrel
    by_cases hlt : k < n
    · have hkl : k < l.length := by have := Hn.out; omega
      obtain ⟨gb, ob, rfl, hg, hcA⟩ := rdk (HR.out.below hbw) hkl
      obtain ⟨p, Hp⟩ : ∃ s, Hid (l[k] = s) := ⟨l[k], rfl⟩
      have hpo : p.ok w := by rw [← Hp.out]; exact HO.out _ (List.getElem_mem hkl)
      have hps : p.n ≤ 4000000000 := by rw [← Hp.out]; exact HSZ.out _ (List.getElem_mem hkl)
      rw [Hp.out] at hcA
      have HPO := Lib.hid hpo
      obtain ⟨v, Hv⟩ : ∃ v, Hid (vMk p = v) := ⟨_, rfl⟩
      obtain ⟨c0, c1, c2, c3, c4⟩ := hcA
      have i0 : (0 : Int) ≤ (k : Int) := by omega
      have i1 : (k : Int) < (n : Int) := by omega
      clear hpo
      cases v with
      | true =>
        have HN' : Hid (∀ j (hj : j < l.length), j < k + 1 → vMk l[j] = true) := fun j hj h => by
          by_cases e : j = k
          · subst e; rw [Hp.out]; exact Hv.out
          · exact HN.out j hj (by omega)
        clear HN Hp hkl
        go_wp2_with fail
        refine (mall1_any p _ (HPO.out.below (by repeat (first | (with_reducible exact Below.refl _ _) | (with_reducible refine balloc ?_ _) | (with_reducible refine Below.drew ?_) | (with_reducible refine bdrewN ?_ _) | ((with_reducible refine bset ?_ ?_ _); rotate_left; focus (first | (with_reducible exact Nat.le_refl _) | (simp; done) | (simp; omega) | omega)) | (with_reducible refine bstep (by with_reducible assumption) ?_)))) hps true Hv).mono ?_
        rintro e w1 ⟨rfl, hb1⟩
        have hB1 : Below w.heap.size w w1 := (by repeat (first | (with_reducible exact Below.refl _ _) | (with_reducible refine balloc ?_ _) | (with_reducible refine Below.drew ?_) | (with_reducible refine bdrewN ?_ _) | ((with_reducible refine bset ?_ ?_ _); rotate_left; focus (first | (with_reducible exact Nat.le_refl _) | (simp; done) | (simp; omega) | omega)) | (with_reducible refine bstep (by with_reducible assumption) ?_)))
        clear c0 c1 c2 c3 c4 hb1
        go_wp2
        go_roundw
        case rel => exact ⟨k + 1, by omega, by go_num, hB1, HN'⟩
        case measure => simp [intOf]; omega
      | false =>
        have HE : Hid (ix = (k : Int)) := by
          unfold Hid
          rw [← Hix.out]
          unfold idxM
          have : l.findIdx? (fun p => !vMk p) = some k := List.findIdx?_eq_some_iff_getElem.2 ⟨hkl, by rw [Hp.out, Hv.out]; rfl, fun j hj => by rw [HN.out j (by omega) hj]; simp⟩
          rw [this]
        clear HN Hp hkl
        go_wp2_with fail
        refine (mall1_any p _ (HPO.out.below (by repeat (first | (with_reducible exact Below.refl _ _) | (with_reducible refine balloc ?_ _) | (with_reducible refine Below.drew ?_) | (with_reducible refine bdrewN ?_ _) | ((with_reducible refine bset ?_ ?_ _); rotate_left; focus (first | (with_reducible exact Nat.le_refl _) | (simp; done) | (simp; omega) | omega)) | (with_reducible refine bstep (by with_reducible assumption) ?_)))) hps false Hv).mono ?_
        rintro e w1 ⟨rfl, hb1⟩
        have hB1 : Below w.heap.size w w1 := (by repeat (first | (with_reducible exact Below.refl _ _) | (with_reducible refine balloc ?_ _) | (with_reducible refine Below.drew ?_) | (with_reducible refine bdrewN ?_ _) | ((with_reducible refine bset ?_ ?_ _); rotate_left; focus (first | (with_reducible exact Nat.le_refl _) | (simp; done) | (simp; omega) | omega)) | (with_reducible refine bstep (by with_reducible assumption) ?_)))
        clear c0 c1 c2 c3 c4 hb1
        go_wp2
        go_ret
        rw [HE.out]
        exact ⟨rfl, hB1⟩
    · have HE : Hid (ix = -1) := by
        unfold Hid
        rw [← Hix.out]
        unfold idxM
        have : l.findIdx? (fun p => !vMk p) = none := List.findIdx?_eq_none_iff.2 (fun p hp => by
          obtain ⟨j, hj, rfl⟩ := List.mem_iff_getElem.1 hp
          rw [HN.out j hj (by have := Hn.out; omega)]; rfl)
        rw [this]
      go_wp2
      go_ret
      rw [HE.out]
      exact ⟨rfl, hbw⟩
set_option maxHeartbeats 400000 in
theorem mcontains_any (A : Option Addr) (n c : Nat) (l : List Mk) (w : World) (hr : RdL encMk 5 w A l) (hn : l.length = n) (hn2 : n ≤ 4000000000) (ho : ∀ b ∈ l, b.ok w) (hs : ∀ b ∈ l, b.n ≤ 4000000000) :
    Calls Try.prog 79 #[.slice A n c, .func (.func 80) #[] #[]] w fun e w' => e = .returned (.bool (!(l.all vMk))) ∧ Below w.heap.size w w' := by
  have HC := Lib.hid (fun w hr ho => mindex_any A n c l w hr hn hn2 ho hs)
  have HE := Lib.hid (idxM_any l)
  have HR := Lib.hid hr
  have HO := Lib.hid ho
  obtain ⟨ix, Hix⟩ : ∃ i, Hid (idxM l = i) := ⟨_, rfl⟩
  rw [Hix.out] at HE HC
  rw [← HE.out]
  clear hr hn ho hs
  go_enter Try.func79, Try.ntmps79
  go_wp2_with fail
  refine (HC.out _ HR.out HO.out).mono ?_
  rintro e w1 ⟨rfl, hb1⟩
  go_wp2
  go_ret
  exact ⟨rfl, (by repeat (first | (with_reducible exact Below.refl _ _) | (with_reducible refine balloc ?_ _) | (with_reducible refine Below.drew ?_) | (with_reducible refine bdrewN ?_ _) | ((with_reducible refine bset ?_ ?_ _); rotate_left; focus (first | (with_reducible exact Nat.le_refl _) | (simp; done) | (simp; omega) | omega)) | (with_reducible refine bstep (by with_reducible assumption) ?_)))⟩
set_option maxHeartbeats 400000 in
theorem mall_any (A : Option Addr) (n c : Nat) (l : List Mk) (w : World) (hr : RdL encMk 5 w A l) (hn : l.length = n) (hn2 : n ≤ 4000000000) (ho : ∀ b ∈ l, b.ok w) (hs : ∀ b ∈ l, b.n ≤ 4000000000) (v : Bool) (Hv : Hid (l.all vMk = v)) :
    Calls Try.prog 47 #[.slice A n c] w fun e w' => e = .returned (.bool v) ∧ Below w.heap.size w w' := by
  have HC := Lib.hid (fun w hr ho => mcontains_any A n c l w hr hn hn2 ho hs)
  have HR := Lib.hid hr
  have HO := Lib.hid ho
  rw [Hv.out] at HC
  clear hr hn ho hs
  go_enter Try.func47, Try.ntmps47
  go_wp2_with fail
  refine (HC.out _ HR.out HO.out).mono ?_
  rintro e w1 ⟨rfl, hb1⟩
  go_wp2
  go_ret
  exact ⟨by cases v <;> rfl, (by repeat (first | (with_reducible exact Below.refl _ _) | (with_reducible refine balloc ?_ _) | (with_reducible refine Below.drew ?_) | (with_reducible refine bdrewN ?_ _) | ((with_reducible refine bset ?_ ?_ _); rotate_left; focus (first | (with_reducible exact Nat.le_refl _) | (simp; done) | (simp; omega) | omega)) | (with_reducible refine bstep (by with_reducible assumption) ?_)))⟩
set_option maxHeartbeats 800000 in
theorem rmall_any (A : Option Addr) (n c : Nat) (l : List Mk) (w : World) (hr : RdL encMk 5 w A l) (hn : l.length = n) (hn2 : n ≤ 4000000000) (ho : ∀ b ∈ l, b.ok w) (hs : ∀ b ∈ l, b.n ≤ 4000000000) (v0 : Bool) (Hv0 : Hid (l.all vMk = v0)) :
    Calls Try.prog 53 #[.slice A n c] w fun e w' => e = .returned (.bool v0) ∧ Below w.heap.size w w' := by
  have HR := Lib.hid hr
  have Hn := Lib.hid hn
  have HO := Lib.hid ho
  have HSZ := Lib.hid hs
  clear hr hn ho hs
  go_enter Try.func53, Try.ntmps53
  go_wp2_with fail
  go_loopw [3] (fun i wr => ∃ k : Nat, k ≤ n ∧ i = .int .i64 k ∧ Below w.heap.size w wr ∧ Hid (∀ j (hj : j < l.length), j < k → vMk l[j] = true)) (fun i _ => n - (intOf i).toNat)
  case atStart => exact ⟨0, Nat.zero_le _, rfl, (by repeat (first | (with_reducible exact Below.refl _ _) | (with_reducible refine balloc ?_ _) | (with_reducible refine Below.drew ?_) | (with_reducible refine bdrewN ?_ _) | ((with_reducible refine bset ?_ ?_ _); rotate_left; focus (first | (with_reducible exact Nat.le_refl _) | (simp; done) | (simp; omega) | omega)) | (with_reducible refine bstep (by with_reducible assumption) ?_))), fun j hj h => by omega⟩
  case round =>
    obtain ⟨k, hk, rfl, hbw, HN⟩ := hrel
    by_cases hlt : k < n
    · have hkl : k < l.length := by have := Hn.out; omega
      obtain ⟨gb, ob, rfl, hg, hcA⟩ := rdk (HR.out.below hbw) hkl
      obtain ⟨p, Hp⟩ : ∃ s, Hid (l[k] = s) := ⟨l[k], rfl⟩
      have hpo : p.ok w := by rw [← Hp.out]; exact HO.out _ (List.getElem_mem hkl)
      have hps : p.n ≤ 4000000000 := by rw [← Hp.out]; exact HSZ.out _ (List.getElem_mem hkl)
      rw [Hp.out] at hcA
      have HPO := Lib.hid hpo
      obtain ⟨v, Hv⟩ : ∃ v, Hid (vMk p = v) := ⟨_, rfl⟩
      obtain ⟨c0, c1, c2, c3, c4⟩ := hcA
      have i0 : (0 : Int) ≤ (k : Int) := by omega
      have i1 : (k : Int) < (n : Int) := by omega
      clear hpo
      cases v with
      | true =>
        have HN' : Hid (∀ j (hj : j < l.length), j < k + 1 → vMk l[j] = true) := fun j hj h => by
          by_cases e : j = k
          · subst e; rw [Hp.out]; exact Hv.out
          · exact HN.out j hj (by omega)
        clear HN Hp hkl
        go_wp2_with fail
        refine (rmvalid_any p.r p.A p.n p.c p.l _ (HPO.out.rd.below (by repeat (first | (with_reducible exact Below.refl _ _) | (with_reducible refine balloc ?_ _) | (with_reducible refine Below.drew ?_) | (with_reducible refine bdrewN ?_ _) | ((with_reducible refine bset ?_ ?_ _); rotate_left; focus (first | (with_reducible exact Nat.le_refl _) | (simp; done) | (simp; omega) | omega)) | (with_reducible refine bstep (by with_reducible assumption) ?_)))) HPO.out.ln hps true Hv).mono ?_
        rintro e w1 ⟨rfl, hb1⟩
        have hB1 : Below w.heap.size w w1 := (by repeat (first | (with_reducible exact Below.refl _ _) | (with_reducible refine balloc ?_ _) | (with_reducible refine Below.drew ?_) | (with_reducible refine bdrewN ?_ _) | ((with_reducible refine bset ?_ ?_ _); rotate_left; focus (first | (with_reducible exact Nat.le_refl _) | (simp; done) | (simp; omega) | omega)) | (with_reducible refine bstep (by with_reducible assumption) ?_)))
        clear c0 c1 c2 c3 c4 hb1
        go_wp2
        go_roundw
        case rel => exact ⟨k + 1, by omega, by go_num, hB1, HN'⟩
        case measure => simp [intOf]; omega
      | false =>
        have HE : Hid (v0 = false) := by
          unfold Hid
          rw [← Hv0.out]
          exact List.all_eq_false.2 ⟨l[k], List.getElem_mem hkl, by rw [Hp.out, Hv.out]; simp⟩
        clear HN Hp hkl
        go_wp2_with fail
        refine (rmvalid_any p.r p.A p.n p.c p.l _ (HPO.out.rd.below (by repeat (first | (with_reducible exact Below.refl _ _) | (with_reducible refine balloc ?_ _) | (with_reducible refine Below.drew ?_) | (with_reducible refine bdrewN ?_ _) | ((with_reducible refine bset ?_ ?_ _); rotate_left; focus (first | (with_reducible exact Nat.le_refl _) | (simp; done) | (simp; omega) | omega)) | (with_reducible refine bstep (by with_reducible assumption) ?_)))) HPO.out.ln hps false Hv).mono ?_
        rintro e w1 ⟨rfl, hb1⟩
        have hB1 : Below w.heap.size w w1 := (by repeat (first | (with_reducible exact Below.refl _ _) | (with_reducible refine balloc ?_ _) | (with_reducible refine Below.drew ?_) | (with_reducible refine bdrewN ?_ _) | ((with_reducible refine bset ?_ ?_ _); rotate_left; focus (first | (with_reducible exact Nat.le_refl _) | (simp; done) | (simp; omega) | omega)) | (with_reducible refine bstep (by with_reducible assumption) ?_)))
        clear c0 c1 c2 c3 c4 hb1
        go_wp2
        go_ret
        rw [HE.out]
        exact ⟨rfl, hB1⟩
    · have HE : Hid (v0 = true) := by
        unfold Hid
        rw [← Hv0.out]
        exact List.all_eq_true.2 fun p hp => by
          obtain ⟨j, hj, rfl⟩ := List.mem_iff_getElem.1 hp
          exact HN.out j hj (by have := Hn.out; omega)
      go_wp2
      go_ret
      rw [HE.out]
      exact ⟨rfl, hbw⟩
end Go.Proofs.Ytndablijjkchjaa
