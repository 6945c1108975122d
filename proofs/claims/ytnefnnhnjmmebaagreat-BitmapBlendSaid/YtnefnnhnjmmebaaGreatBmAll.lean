/-
  Lists of bitmaps: bitmap.all; slices.Clone at pixels.
-/
import Derived.Test.YtnefnnhnjmmebaaGreatRowP
import Derived.Test.YtnefnnhnjmmebaaGreatBm2
import Derived.Test.YtnefnnhnjmmebaaGreatMade0
import Derived.Test.YtnefnnhnjmmebaaGreatPlB
import Derived.Lib.SliceRun
namespace Go.Proofs.YtnefnnhnjmmebaaGreat
open Go.RowKit
set_option linter.unusedSimpArgs false
set_option linter.unusedVariables false

/-- A bitmap of a slice of bitmaps. -/
theorem rdb {w : World} {A : Option Addr} {l : List Bm} (h : RdL encBm 5 w A l) {k : Nat} (hk : k < l.length) : ∃ g o, A = some ⟨g, o, none⟩ ∧ g < w.heap.size ∧
    w.cell? ⟨g, o + k * 5, none⟩ = some (.int .i64 (l[k]).r.x0) ∧ w.cell? ⟨g, o + k * 5 + 1, none⟩ = some (.int .i64 (l[k]).r.y0) ∧ w.cell? ⟨g, o + k * 5 + 2, none⟩ = some (.int .i64 (l[k]).r.x1) ∧ w.cell? ⟨g, o + k * 5 + 3, none⟩ = some (.int .i64 (l[k]).r.y1) ∧ w.cell? ⟨g, o + k * 5 + 4, none⟩ = some (.slice (l[k]).A (l[k]).n (l[k]).c) := by
  obtain ⟨g, o, hA, hg, hc⟩ := h (by intro e; rw [e] at hk; simp at hk)
  exact ⟨g, o, hA, hg, hc k hk 0 _ rfl, hc k hk 1 _ rfl, hc k hk 2 _ rfl, hc k hk 3 _ rfl, hc k hk 4 _ rfl⟩
def vBm (b : Bm) : Bool := bmValid b.r b.l
/-- The index of the first bitmap that is not valid, -1 if there is none. -/
def idxBm (l : List Bm) : Int := match l.findIdx? (fun p => !vBm p) with | some i => (i : Int) | none => -1
theorem idxBm_any (l : List Bm) : decide (0 ≤ idxBm l) = !(l.all vBm) := by
  unfold idxBm
  cases h : l.findIdx? (fun p => !vBm p) with
  | none =>
    rw [List.findIdx?_eq_none_iff] at h
    have : l.all vBm = true := List.all_eq_true.2 (fun p hp => by have := h p hp; simpa using this)
    rw [this]; rfl
  | some i =>
    obtain ⟨hi, hp, _⟩ := List.findIdx?_eq_some_iff_getElem.1 h
    have : l.all vBm = false := List.all_eq_false.2 ⟨l[i], List.getElem_mem hi, by simpa using hp⟩
    rw [this]
    simp
set_option maxHeartbeats 400000 in
theorem ball1_any (b : Bm) (w : World) (hb : b.ok w) (hs : b.n ≤ 4000000000) (v : Bool) (Hv : Hid (vBm b = v)) :
    Calls Tryz.prog 39 #[.agg #[.int .i64 b.r.x0, .int .i64 b.r.y0, .int .i64 b.r.x1, .int .i64 b.r.y1, .slice b.A b.n b.c]] w fun e w' => e = .returned (.bool (!v)) ∧ Below w.heap.size w w' := by
  have HB := Lib.hid hb
  clear hb
  go_enter Tryz.func39, Tryz.ntmps39
  go_wp2_with fail
  refine (bvalid_any b.r b.A b.n b.c b.l _ (HB.out.rd.below (by repeat (first | (with_reducible exact Below.refl _ _) | (with_reducible refine balloc ?_ _) | (with_reducible refine Below.drew ?_) | (with_reducible refine bdrewN ?_ _) | ((with_reducible refine bset ?_ ?_ _); rotate_left; focus (first | (with_reducible exact Nat.le_refl _) | (simp; done) | (simp; omega) | omega)) | (with_reducible refine bstep (by with_reducible assumption) ?_)))) HB.out.ln hs v Hv).mono ?_
  rintro e w1 ⟨rfl, hb1⟩
  go_wp2
  go_ret
  exact ⟨rfl, (by repeat (first | (with_reducible exact Below.refl _ _) | (with_reducible refine balloc ?_ _) | (with_reducible refine Below.drew ?_) | (with_reducible refine bdrewN ?_ _) | ((with_reducible refine bset ?_ ?_ _); rotate_left; focus (first | (with_reducible exact Nat.le_refl _) | (simp; done) | (simp; omega) | omega)) | (with_reducible refine bstep (by with_reducible assumption) ?_)))⟩
set_option maxHeartbeats 800000 in
theorem bindex_any (A : Option Addr) (n c : Nat) (l : List Bm) (w : World) (hr : RdL encBm 5 w A l) (hn : l.length = n) (hn2 : n ≤ 4000000000) (ho : ∀ b ∈ l, b.ok w) (hs : ∀ b ∈ l, b.n ≤ 4000000000) :
    Calls Tryz.prog 61 #[.slice A n c, .func (.func 39) #[] #[]] w fun e w' => e = .returned (.int .i64 (idxBm l)) ∧ Below w.heap.size w w' := by
  have HR := Lib.hid hr
  have Hn := Lib.hid hn
  have HO := Lib.hid ho
  have HSZ := Lib.hid hs
  clear hr hn ho hs
  obtain ⟨ix, Hix⟩ : ∃ i, Hid (idxBm l = i) := ⟨_, rfl⟩
  rw [Hix.out]
  go_enter Tryz.func61, Tryz.ntmps61
  go_wp2_with fail
  go_loopw [8] (fun i wr => ∃ k : Nat, k ≤ n ∧ i = .int .i64 k ∧ Below w.heap.size w wr ∧ Hid (∀ j (hj : j < l.length), j < k → vBm l[j] = true)) (fun i _ => n - (intOf i).toNat)
  case atStart => exact ⟨0, Nat.zero_le _, rfl, (by repeat (first | (with_reducible exact Below.refl _ _) | (with_reducible refine balloc ?_ _) | (with_reducible refine Below.drew ?_) | (with_reducible refine bdrewN ?_ _) | ((with_reducible refine bset ?_ ?_ _); rotate_left; focus (first | (with_reducible exact Nat.le_refl _) | (simp; done) | (simp; omega) | omega)) | (with_reducible refine bstep (by with_reducible assumption) ?_))), fun j hj h => by omega⟩
  case round =>
    obtain ⟨k, hk, rfl, hbw, HN⟩ := hrel
    by_cases hlt : k < n
    · have hkl : k < l.length := by have := Hn.out; omega
      obtain ⟨gb, ob, rfl, hg, hcA⟩ := rdb (HR.out.below hbw) hkl
      obtain ⟨p, Hp⟩ : ∃ s, Hid (l[k] = s) := ⟨l[k], rfl⟩
      have hpo : p.ok w := by rw [← Hp.out]; exact HO.out _ (List.getElem_mem hkl)
      have hps : p.n ≤ 4000000000 := by rw [← Hp.out]; exact HSZ.out _ (List.getElem_mem hkl)
      rw [Hp.out] at hcA
      have HPO := Lib.hid hpo
      obtain ⟨v, Hv⟩ : ∃ v, Hid (vBm p = v) := ⟨_, rfl⟩
      obtain ⟨c0, c1, c2, c3, c4⟩ := hcA
      have i0 : (0 : Int) ≤ (k : Int) := by omega
      have i1 : (k : Int) < (n : Int) := by omega
      clear hpo
      cases v with
      | true =>
        have HN' : Hid (∀ j (hj : j < l.length), j < k + 1 → vBm l[j] = true) := fun j hj h => by
          by_cases e : j = k
          · subst e; rw [Hp.out]; exact Hv.out
          · exact HN.out j hj (by omega)
        clear HN Hp hkl
        go_wp2_with fail
        refine (ball1_any p _ (HPO.out.below (by repeat (first | (with_reducible exact Below.refl _ _) | (with_reducible refine balloc ?_ _) | (with_reducible refine Below.drew ?_) | (with_reducible refine bdrewN ?_ _) | ((with_reducible refine bset ?_ ?_ _); rotate_left; focus (first | (with_reducible exact Nat.le_refl _) | (simp; done) | (simp; omega) | omega)) | (with_reducible refine bstep (by with_reducible assumption) ?_)))) hps true Hv).mono ?_
        rintro e w1 ⟨rfl, hb1⟩
        have hB1 : Below w.heap.size w w1 := (by repeat (first | (with_reducible exact Below.refl _ _) | (with_reducible refine balloc ?_ _) | (with_reducible refine Below.drew ?_) | (with_reducible refine bdrewN ?_ _) | ((with_reducible refine bset ?_ ?_ _); rotate_left; focus (first | (with_reducible exact Nat.le_refl _) | (simp; done) | (simp; omega) | omega)) | (with_reducible refine bstep (by with_reducible assumption) ?_)))
        clear c0 c1 c2 c3 c4 hb1
        go_wp2
        go_roundw
        case rel => exact ⟨k + 1, by omega, by go_num, hB1, HN'⟩
        case measure => simp [intOf]; omega
      | false =>
        have HE : Hid (ix = (k : Int)) := by
          unfold Hid
          rw [← Hix.out]
          unfold idxBm
          have : l.findIdx? (fun p => !vBm p) = some k := List.findIdx?_eq_some_iff_getElem.2 ⟨hkl, by rw [Hp.out, Hv.out]; rfl, fun j hj => by rw [HN.out j (by omega) hj]; simp⟩
          rw [this]
        clear HN Hp hkl
        go_wp2_with fail
        refine (ball1_any p _ (HPO.out.below (by repeat (first | (with_reducible exact Below.refl _ _) | (with_reducible refine balloc ?_ _) | (with_reducible refine Below.drew ?_) | (with_reducible refine bdrewN ?_ _) | ((with_reducible refine bset ?_ ?_ _); rotate_left; focus (first | (with_reducible exact Nat.le_refl _) | (simp; done) | (simp; omega) | omega)) | (with_reducible refine bstep (by with_reducible assumption) ?_)))) hps false Hv).mono ?_
        rintro e w1 ⟨rfl, hb1⟩
        have hB1 : Below w.heap.size w w1 := (by repeat (first | (with_reducible exact Below.refl _ _) | (with_reducible refine balloc ?_ _) | (with_reducible refine Below.drew ?_) | (with_reducible refine bdrewN ?_ _) | ((with_reducible refine bset ?_ ?_ _); rotate_left; focus (first | (with_reducible exact Nat.le_refl _) | (simp; done) | (simp; omega) | omega)) | (with_reducible refine bstep (by with_reducible assumption) ?_)))
        clear c0 c1 c2 c3 c4 hb1
        go_wp2
        go_ret
        rw [HE.out]
        exact ⟨rfl, hB1⟩
    · have HE : Hid (ix = -1) := by
        unfold Hid
        rw [← Hix.out]
        unfold idxBm
        have : l.findIdx? (fun p => !vBm p) = none := List.findIdx?_eq_none_iff.2 (fun p hp => by
          obtain ⟨j, hj, rfl⟩ := List.mem_iff_getElem.1 hp
          rw [HN.out j hj (by have := Hn.out; omega)]; rfl)
        rw [this]
      go_wp2
      go_ret
      rw [HE.out]
      exact ⟨rfl, hbw⟩
set_option maxHeartbeats 400000 in
theorem bcontains_any (A : Option Addr) (n c : Nat) (l : List Bm) (w : World) (hr : RdL encBm 5 w A l) (hn : l.length = n) (hn2 : n ≤ 4000000000) (ho : ∀ b ∈ l, b.ok w) (hs : ∀ b ∈ l, b.n ≤ 4000000000) :
    Calls Tryz.prog 38 #[.slice A n c, .func (.func 39) #[] #[]] w fun e w' => e = .returned (.bool (!(l.all vBm))) ∧ Below w.heap.size w w' := by
  have HC := Lib.hid (fun w hr ho => bindex_any A n c l w hr hn hn2 ho hs)
  have HE := Lib.hid (idxBm_any l)
  have HR := Lib.hid hr
  have HO := Lib.hid ho
  obtain ⟨ix, Hix⟩ : ∃ i, Hid (idxBm l = i) := ⟨_, rfl⟩
  rw [Hix.out] at HE HC
  rw [← HE.out]
  clear hr hn ho hs
  go_enter Tryz.func38, Tryz.ntmps38
  go_wp2_with fail
  refine (HC.out _ HR.out HO.out).mono ?_
  rintro e w1 ⟨rfl, hb1⟩
  go_wp2
  go_ret
  exact ⟨rfl, (by repeat (first | (with_reducible exact Below.refl _ _) | (with_reducible refine balloc ?_ _) | (with_reducible refine Below.drew ?_) | (with_reducible refine bdrewN ?_ _) | ((with_reducible refine bset ?_ ?_ _); rotate_left; focus (first | (with_reducible exact Nat.le_refl _) | (simp; done) | (simp; omega) | omega)) | (with_reducible refine bstep (by with_reducible assumption) ?_)))⟩
set_option maxHeartbeats 400000 in
theorem ball_any (A : Option Addr) (n c : Nat) (l : List Bm) (w : World) (hr : RdL encBm 5 w A l) (hn : l.length = n) (hn2 : n ≤ 4000000000) (ho : ∀ b ∈ l, b.ok w) (hs : ∀ b ∈ l, b.n ≤ 4000000000) (v : Bool) (Hv : Hid (l.all vBm = v)) :
    Calls Tryz.prog 16 #[.slice A n c] w fun e w' => e = .returned (.bool v) ∧ Below w.heap.size w w' := by
  have HC := Lib.hid (fun w hr ho => bcontains_any A n c l w hr hn hn2 ho hs)
  have HR := Lib.hid hr
  have HO := Lib.hid ho
  rw [Hv.out] at HC
  clear hr hn ho hs
  go_enter Tryz.func16, Tryz.ntmps16
  go_wp2_with fail
  refine (HC.out _ HR.out HO.out).mono ?_
  rintro e w1 ⟨rfl, hb1⟩
  go_wp2
  go_ret
  exact ⟨by cases v <;> rfl, (by repeat (first | (with_reducible exact Below.refl _ _) | (with_reducible refine balloc ?_ _) | (with_reducible refine Below.drew ?_) | (with_reducible refine bdrewN ?_ _) | ((with_reducible refine bset ?_ ?_ _); rotate_left; focus (first | (with_reducible exact Nat.le_refl _) | (simp; done) | (simp; omega) | omega)) | (with_reducible refine bstep (by with_reducible assumption) ?_)))⟩
def RetV (l : List Px) (w : World) (e : Ending) (w' : World) : Prop := ∃ v, e = .returned v ∧ OwnL encP 45 4 w' w.heap.size v l ∧ Below w.heap.size w w'
end Go.Proofs.YtnefnnhnjmmebaaGreat
