/-
  The walks of color.Valid, bitmap.Valid and grisailleref30.Equal.
-/
import Derived.Test.YtnefnnhnjmmebaaPlA
import Derived.Test.YtnefnnhnjmmebaaMade0
import Derived.Test.YtnefnnhnjmmebaaColor
import Derived.Test.YtnefnnhnjmmebaaSame
namespace Go.Proofs.Ytnefnnhnjmmebaa
open Go.RowKit
set_option linter.unusedSimpArgs false
set_option linter.unusedVariables false

theorem eqP_clamp (p : Px) : eqP (clampP p) p = pvB p := by
  rw [Bool.eq_iff_iff, eqP_iff]
  unfold pvB
  rw [decide_eq_true_eq]
  constructor
  · intro h
    have h1 := congrArg Px.r h
    have h2 := congrArg Px.g h
    have h3 := congrArg Px.b h
    simp only [clampP] at h1 h2 h3
    omega
  · intro h
    apply Px.eq <;> simp only [clampP] <;> omega


set_option maxHeartbeats 400000 in
theorem pvalid_any (p : Px) (v : Bool) (hv : Hid (pvB p = v)) (w : World) :
    Calls Try.prog 58 #[.agg #[.int .u8 p.r, .int .u8 p.g, .int .u8 p.b, .int .u8 p.a]] w fun e w' => e = .returned (.bool v) ∧ Below w.heap.size w w' := by
  obtain ⟨c, Hc⟩ : ∃ c, Hid (clampP p = c) := ⟨_, rfl⟩
  have heq := fun w => (eql_px c p w).trans (by rw [← Hc.out, eqP_clamp, hv.out])
  go_enter Try.func58, Try.ntmps58
  go_wp2_with fail
  refine wp_region_gob 5 [(0, true), (2, true), (1, false), (3, true), (4, true)] (by kernel_rfl) (by kernel_rfl) (fun c a d v w h => by cases d <;> exact h) ?_
  repeat (refine wpGo_pure (v := ?_) rfl rfl (fun w' hS => ?_) ?_; rotate_left; (· have kXp : Bk w' (w.heap.size) 25 #[.int .u8 p.r, .int .u8 p.g, .int .u8 p.b, .int .u8 p.a] := (by repeat (first | (with_reducible assumption) | ((with_reducible refine Bk.new _ _ _ ?_); first | (with_reducible rfl) | (simp; done)) | (with_reducible refine Bk.alloc ?_ _) | (with_reducible refine Bk.drew ?_) | (with_reducible refine Bk.drewN ?_ _) | ((with_reducible refine Bk.far ?_ ?_ _); rotate_left; focus (first | (simp; done) | (simp; omega))) | (with_reducible refine Bk.below ?_ (by with_reducible assumption)))); obtain ⟨kcXp, kfXp, kaXp, kgXp, klXp⟩ := kXp.rules; go_simp; exact rfl); (try simp only [Act.put, List.setIfInBounds_toArray, List.set_cons_zero, List.set_cons_succ]))
  refine wpGo_eff rfl (fun K hK => ?_)
  go_simp
  refine (clamp_q p.r p.g p.b p.a c Hc _).mono ?_
  rintro e w1 ⟨rfl, hb1⟩
  refine hK.out _ _ (by repeat (first | (with_reducible exact Below.refl _ _) | (with_reducible refine balloc ?_ _) | (with_reducible refine Below.drew ?_) | (with_reducible refine bdrewN ?_ _) | ((with_reducible refine bset ?_ ?_ _); rotate_left; focus (first | (with_reducible exact Nat.le_refl _) | (simp; done) | (simp; omega) | omega)) | (with_reducible refine bstep (by with_reducible assumption) ?_))) (fun hS1 => ?_)
  clear hK K
  repeat (refine wpGo_pure (v := ?_) rfl rfl (fun w' hS => ?_) ?_; rotate_left; (· skip; go_simp; exact rfl); (try simp only [Act.put, List.setIfInBounds_toArray, List.set_cons_zero, List.set_cons_succ]))
  refine wpGo_nil ?_
  simp only [List.drop_succ_cons, List.drop_zero]
  go_wp2
  go_ret
  exact ⟨rfl, (by repeat (first | (with_reducible exact Below.refl _ _) | (with_reducible refine balloc ?_ _) | (with_reducible refine Below.drew ?_) | (with_reducible refine bdrewN ?_ _) | ((with_reducible refine bset ?_ ?_ _); rotate_left; focus (first | (with_reducible exact Nat.le_refl _) | (simp; done) | (simp; omega) | omega)) | (with_reducible refine bstep (by with_reducible assumption) ?_)))⟩
set_option maxHeartbeats 400000 in
theorem pvalid1_any (p : Px) (v : Bool) (hv : Hid (pvB p = v)) (w : World) :
    Calls Try.prog 57 #[.agg #[.int .u8 p.r, .int .u8 p.g, .int .u8 p.b, .int .u8 p.a]] w fun e w' => e = .returned (.bool (!v)) ∧ Below w.heap.size w w' := by
  go_enter Try.func57, Try.ntmps57
  go_wp2_with fail
  refine (pvalid_any p v hv _).mono ?_
  rintro e w1 ⟨rfl, hb1⟩
  go_wp2
  go_ret
  exact ⟨rfl, (by repeat (first | (with_reducible exact Below.refl _ _) | (with_reducible refine balloc ?_ _) | (with_reducible refine Below.drew ?_) | (with_reducible refine bdrewN ?_ _) | ((with_reducible refine bset ?_ ?_ _); rotate_left; focus (first | (with_reducible exact Nat.le_refl _) | (simp; done) | (simp; omega) | omega)) | (with_reducible refine bstep (by with_reducible assumption) ?_)))⟩

set_option maxHeartbeats 800000 in
theorem index_any (A : Option Addr) (n c : Nat) (l : List Px) (w : World) (hr : RdL encP 4 w A l) (hn : l.length = n) (hn2 : n ≤ 4000000000) :
    Calls Try.prog 100 #[.slice A n c, .func (.func 57) #[] #[]] w fun e w' => e = .returned (.int .i64 (idxV l)) ∧ Below w.heap.size w w' := by
  have HR := Lib.hid hr
  have Hn := Lib.hid hn
  obtain ⟨ix, Hix⟩ : ∃ i, Hid (idxV l = i) := ⟨_, rfl⟩
  rw [Hix.out]
  clear hr hn
  go_enter Try.func100, Try.ntmps100
  go_wp2_with fail
  go_loopw [8] (fun i wr => ∃ k : Nat, k ≤ n ∧ i = .int .i64 k ∧ Below w.heap.size w wr ∧ Hid (∀ j (hj : j < l.length), j < k → pvB l[j] = true)) (fun i _ => n - (intOf i).toNat)
  case atStart => exact ⟨0, Nat.zero_le _, rfl, (by repeat (first | (with_reducible exact Below.refl _ _) | (with_reducible refine balloc ?_ _) | (with_reducible refine Below.drew ?_) | (with_reducible refine bdrewN ?_ _) | ((with_reducible refine bset ?_ ?_ _); rotate_left; focus (first | (with_reducible exact Nat.le_refl _) | (simp; done) | (simp; omega) | omega)) | (with_reducible refine bstep (by with_reducible assumption) ?_))), fun j hj h => by omega⟩
  case round =>
    obtain ⟨k, hk, rfl, hbw, HN⟩ := hrel
    by_cases hlt : k < n
    · have hkl : k < l.length := by have := Hn.out; omega
      obtain ⟨gb, ob, rfl, hg, hcA⟩ := rdp (HR.out.below hbw) hkl
      obtain ⟨p, Hp⟩ : ∃ s, Hid (l[k] = s) := ⟨l[k], rfl⟩
      rw [Hp.out] at hcA
      obtain ⟨v, Hv⟩ : ∃ v, Hid (pvB p = v) := ⟨_, rfl⟩
      obtain ⟨c0, c1, c2, c3⟩ := hcA
      have i0 : (0 : Int) ≤ (k : Int) := by omega
      cases v with
      | true =>
        have HN' : Hid (∀ j (hj : j < l.length), j < k + 1 → pvB l[j] = true) := fun j hj h => by
          by_cases e : j = k
          · subst e; rw [Hp.out]; exact Hv.out
          · exact HN.out j hj (by omega)
        clear HN Hp hkl
        go_wp2_with fail
        refine (pvalid1_any p true Hv _).mono ?_
        rintro e w1 ⟨rfl, hb1⟩
        have hB1 : Below w.heap.size w w1 := (by repeat (first | (with_reducible exact Below.refl _ _) | (with_reducible refine balloc ?_ _) | (with_reducible refine Below.drew ?_) | (with_reducible refine bdrewN ?_ _) | ((with_reducible refine bset ?_ ?_ _); rotate_left; focus (first | (with_reducible exact Nat.le_refl _) | (simp; done) | (simp; omega) | omega)) | (with_reducible refine bstep (by with_reducible assumption) ?_)))
        clear c0 c1 c2 c3 hb1
        go_wp2
        go_roundw
        case rel => exact ⟨k + 1, by omega, by go_num, hB1, HN'⟩
        case measure => simp [intOf]; omega
      | false =>
        have HE : Hid (ix = (k : Int)) := by
          unfold Hid
          rw [← Hix.out]
          unfold idxV
          have : l.findIdx? (fun p => !pvB p) = some k := List.findIdx?_eq_some_iff_getElem.2 ⟨hkl, by rw [Hp.out, Hv.out]; rfl, fun j hj => by rw [HN.out j (by omega) hj]; simp⟩
          rw [this]
        clear HN Hp hkl
        go_wp2_with fail
        refine (pvalid1_any p false Hv _).mono ?_
        rintro e w1 ⟨rfl, hb1⟩
        have hB1 : Below w.heap.size w w1 := (by repeat (first | (with_reducible exact Below.refl _ _) | (with_reducible refine balloc ?_ _) | (with_reducible refine Below.drew ?_) | (with_reducible refine bdrewN ?_ _) | ((with_reducible refine bset ?_ ?_ _); rotate_left; focus (first | (with_reducible exact Nat.le_refl _) | (simp; done) | (simp; omega) | omega)) | (with_reducible refine bstep (by with_reducible assumption) ?_)))
        clear c0 c1 c2 c3 hb1
        go_wp2
        go_ret
        rw [HE.out]
        exact ⟨rfl, hB1⟩
    · have HE : Hid (ix = -1) := by
        unfold Hid
        rw [← Hix.out]
        unfold idxV
        have : l.findIdx? (fun p => !pvB p) = none := List.findIdx?_eq_none_iff.2 (fun p hp => by
          obtain ⟨j, hj, rfl⟩ := List.mem_iff_getElem.1 hp
          rw [HN.out j hj (by have := Hn.out; omega)]; rfl)
        rw [this]
      go_wp2
      go_ret
      rw [HE.out]
      exact ⟨rfl, hbw⟩
set_option maxHeartbeats 400000 in
theorem contains_px (A : Option Addr) (n c : Nat) (l : List Px) (w : World) (hr : RdL encP 4 w A l) (hn : l.length = n) (hn2 : n ≤ 4000000000) :
    Calls Try.prog 56 #[.slice A n c, .func (.func 57) #[] #[]] w fun e w' => e = .returned (.bool (!(l.all pvB))) ∧ Below w.heap.size w w' := by
  have HC := Lib.hid (fun w hr => index_any A n c l w hr hn hn2)
  have HR := Lib.hid hr
  have HE := Lib.hid (idxV_any l)
  obtain ⟨ix, Hix⟩ : ∃ i, Hid (idxV l = i) := ⟨_, rfl⟩
  rw [Hix.out] at HE HC
  rw [← HE.out]
  clear hr hn
  go_enter Try.func56, Try.ntmps56
  go_wp2_with fail
  refine (HC.out _ HR.out).mono ?_
  rintro e w1 ⟨rfl, hb1⟩
  go_wp2
  go_ret
  exact ⟨rfl, (by repeat (first | (with_reducible exact Below.refl _ _) | (with_reducible refine balloc ?_ _) | (with_reducible refine Below.drew ?_) | (with_reducible refine bdrewN ?_ _) | ((with_reducible refine bset ?_ ?_ _); rotate_left; focus (first | (with_reducible exact Nat.le_refl _) | (simp; done) | (simp; omega) | omega)) | (with_reducible refine bstep (by with_reducible assumption) ?_)))⟩
end Go.Proofs.Ytnefnnhnjmmebaa
