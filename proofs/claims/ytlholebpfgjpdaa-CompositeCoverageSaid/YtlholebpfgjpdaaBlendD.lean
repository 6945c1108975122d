/-
  The walks of the non-separable blends: the term of a component, a channel.
-/
import Derived.Test.YtlholebpfgjpdaaBlendC
namespace Go.Proofs.Ytlholebpfgjpdaa
open Go.RowKit
set_option linter.unusedSimpArgs false
set_option linter.unusedVariables false

theorem low_q (c : C3) (n : Int) (hn : Hid (c.low = n)) (w : World) :
    Calls Try.prog 74 #[.agg #[.int .i64 c.r, .int .i64 c.g, .int .i64 c.b]] w fun e w' => e = .returned (.int .i64 n) ∧ Below w.heap.size w w' := by
  have h := hn.out; subst h; exact low_any c.r c.g c.b w
theorem high_q (c : C3) (n : Int) (hn : Hid (c.high = n)) (w : World) :
    Calls Try.prog 73 #[.agg #[.int .i64 c.r, .int .i64 c.g, .int .i64 c.b]] w fun e w' => e = .returned (.int .i64 n) ∧ Below w.heap.size w w' := by
  have h := hn.out; subst h; exact high_any c.r c.g c.b w

theorem Rcp.fit.inR {q : Rcp} (h : q.fit) (ha : q.a ≤ 65025) : q.c.inR := by
  obtain ⟨r0, r1, g0, g1, b0, b1, t0, t1, l0, l1⟩ := h
  unfold C3.inR; omega


set_option maxHeartbeats 3200000 in
theorem rterm_any (q : Rcp) (x : Int) (w : World) (hf : q.fit) (ha : q.a ≤ 65025) (hx0 : q.c.low ≤ x) (hx1 : x ≤ q.c.high) :
    Calls Try.prog 65 #[.agg #[.int .i64 q.c.r, .int .i64 q.c.g, .int .i64 q.c.b, .int .i64 q.t, .int .i64 q.l, .int .i64 q.a], .int .i64 x] w fun e w' =>
      e = .returned (.tuple #[.int .i64 (q.num x), .int .i64 q.den]) ∧ Below w.heap.size w w' := by
  obtain ⟨k0, k1, k2, k3, k4, k5, k6, k7, k8⟩ := hf.lin
  obtain ⟨p1, p2, p3, p4, p5, p6, p7, p8⟩ := hf.parts ha hx0 hx1
  have HC := Lib.hid (hf.inR ha)
  obtain ⟨r0, r1, g0, g1, b0, b1, t0, t1, l0, l1⟩ := hf
  have hlv : q.level = q.l * q.c.sat - q.t * q.dark := rfl
  obtain ⟨nm, Hnm⟩ : ∃ n, Hid (q.num x = n) := ⟨_, rfl⟩
  obtain ⟨dn, Hdn⟩ : ∃ n, Hid (q.den = n) := ⟨_, rfl⟩
  rw [Hnm.out, Hdn.out]
  unfold Rcp.num at Hnm
  unfold Rcp.den at Hdn
  generalize Hlo' : q.c.low = lo at *
  generalize Hhi' : q.c.high = hi at *
  generalize Hm' : q.c.sat = m at *
  generalize Hlu' : q.c.lum = lu at *
  generalize q.dark = dk at *
  generalize q.bright = br at *
  generalize q.level = lv at *
  have Hlo := Lib.hid Hlo'
  have Hhi := Lib.hid Hhi'
  have Hm := Lib.hid Hm'
  have Hlu := Lib.hid Hlu'
  clear Hlo' Hhi' Hm' Hlu'
  have e1 := k7.symm
  have e2 := k8.symm
  have e3 := hlv.symm
  have k3' : m ≤ hi - lo ∧ hi - lo ≤ m := by omega
  have k6' : dk + br ≤ 100 * m ∧ 100 * m ≤ dk + br := by omega
  have k7' : -500000000000 ≤ lv ∧ lv ≤ 500000000000 := by omega
  clear k3 k6 k7 k8 hlv
  by_cases hm : m = 0
  · subst hm
    have h1 := Hnm.out
    have h2 := Hdn.out
    rw [if_pos rfl] at h1 h2
    subst h1
    subst h2
    clear e1 e2 e3 Hnm Hdn
    go_enter Try.func65, Try.ntmps65
    go_wp2_with fail
    refine wp_region_gob 12 [(0, true), (1, true), (3, true), (4, true), (6, true), (7, true), (2, false), (5, false), (8, false), (9, true), (10, true), (11, true)] (by kernel_rfl) (by kernel_rfl) (fun c a d v w h => by cases d <;> exact h) ?_
    repeat (refine wpGo_pure (v := ?_) rfl rfl (fun w' hS => ?_) ?_; rotate_left; (· have kRp : Bk w' (w.heap.size) 63 #[.int .i64 q.c.r, .int .i64 q.c.g, .int .i64 q.c.b, .int .i64 q.t, .int .i64 q.l, .int .i64 q.a] := (by repeat (first | (with_reducible assumption) | ((with_reducible refine Bk.new _ _ _ ?_); first | (with_reducible rfl) | (simp; done)) | (with_reducible refine Bk.alloc ?_ _) | (with_reducible refine Bk.drew ?_) | (with_reducible refine Bk.drewN ?_ _) | ((with_reducible refine Bk.far ?_ ?_ _); rotate_left; focus (first | (simp; done) | (simp; omega))) | (with_reducible refine Bk.below ?_ (by with_reducible assumption)))); obtain ⟨kcRp, kfRp, kaRp, kgRp, klRp⟩ := kRp.rules; go_simp; exact rfl); (try simp only [Act.put, List.setIfInBounds_toArray, List.set_cons_zero, List.set_cons_succ]))
    refine wpGo_eff rfl (fun K hK => ?_)
    go_simp
    refine (sat_q q.c _ Hm _ HC.out).mono ?_
    rintro e w1 ⟨rfl, hb1⟩
    refine hK.out _ _ (by repeat (first | (with_reducible exact Below.refl _ _) | (with_reducible refine balloc ?_ _) | (with_reducible refine Below.drew ?_) | (with_reducible refine bdrewN ?_ _) | ((with_reducible refine bset ?_ ?_ _); rotate_left; focus (first | (with_reducible exact Nat.le_refl _) | (simp; done) | (simp; omega) | omega)) | (with_reducible refine bstep (by with_reducible assumption) ?_))) (fun hS1 => ?_)
    clear hK K
    refine wpGo_eff rfl (fun K hK => ?_)
    go_simp
    refine (low_q q.c lo Hlo _).mono ?_
    rintro e w2 ⟨rfl, hb2⟩
    refine hK.out _ _ (by repeat (first | (with_reducible exact Below.refl _ _) | (with_reducible refine balloc ?_ _) | (with_reducible refine Below.drew ?_) | (with_reducible refine bdrewN ?_ _) | ((with_reducible refine bset ?_ ?_ _); rotate_left; focus (first | (with_reducible exact Nat.le_refl _) | (simp; done) | (simp; omega) | omega)) | (with_reducible refine bstep (by with_reducible assumption) ?_))) (fun hS2 => ?_)
    clear hK K
    refine wpGo_eff rfl (fun K hK => ?_)
    go_simp
    refine (high_q q.c hi Hhi _).mono ?_
    rintro e w3 ⟨rfl, hb3⟩
    refine hK.out _ _ (by repeat (first | (with_reducible exact Below.refl _ _) | (with_reducible refine balloc ?_ _) | (with_reducible refine Below.drew ?_) | (with_reducible refine bdrewN ?_ _) | ((with_reducible refine bset ?_ ?_ _); rotate_left; focus (first | (with_reducible exact Nat.le_refl _) | (simp; done) | (simp; omega) | omega)) | (with_reducible refine bstep (by with_reducible assumption) ?_))) (fun hS3 => ?_)
    clear hK K
    repeat (refine wpGo_pure (v := ?_) rfl rfl (fun w' hS => ?_) ?_; rotate_left; (· have kRp : Bk w' (w.heap.size) 63 #[.int .i64 q.c.r, .int .i64 q.c.g, .int .i64 q.c.b, .int .i64 q.t, .int .i64 q.l, .int .i64 q.a] := (by repeat (first | (with_reducible assumption) | ((with_reducible refine Bk.new _ _ _ ?_); first | (with_reducible rfl) | (simp; done)) | (with_reducible refine Bk.alloc ?_ _) | (with_reducible refine Bk.drew ?_) | (with_reducible refine Bk.drewN ?_ _) | ((with_reducible refine Bk.far ?_ ?_ _); rotate_left; focus (first | (simp; done) | (simp; omega))) | (with_reducible refine Bk.below ?_ (by with_reducible assumption)))); obtain ⟨kcRp, kfRp, kaRp, kgRp, klRp⟩ := kRp.rules; go_simp; exact rfl); (try simp only [Act.put, List.setIfInBounds_toArray, List.set_cons_zero, List.set_cons_succ]))
    refine wpGo_nil ?_
    simp only [List.drop_succ_cons, List.drop_zero]
    have kR3 : Bk w3 (w.heap.size) 63 #[.int .i64 q.c.r, .int .i64 q.c.g, .int .i64 q.c.b, .int .i64 q.t, .int .i64 q.l, .int .i64 q.a] := (by repeat (first | (with_reducible assumption) | ((with_reducible refine Bk.new _ _ _ ?_); first | (with_reducible rfl) | (simp; done)) | (with_reducible refine Bk.alloc ?_ _) | (with_reducible refine Bk.drew ?_) | (with_reducible refine Bk.drewN ?_ _) | ((with_reducible refine Bk.far ?_ ?_ _); rotate_left; focus (first | (simp; done) | (simp; omega))) | (with_reducible refine Bk.below ?_ (by with_reducible assumption)))); obtain ⟨kcR3, kfR3, kaR3, kgR3, klR3⟩ := kR3.rules
    go_wp2_with fail
    go_ret2
    exact ⟨rfl, (by repeat (first | (with_reducible exact Below.refl _ _) | (with_reducible refine balloc ?_ _) | (with_reducible refine Below.drew ?_) | (with_reducible refine bdrewN ?_ _) | ((with_reducible refine bset ?_ ?_ _); rotate_left; focus (first | (with_reducible exact Nat.le_refl _) | (simp; done) | (simp; omega) | omega)) | (with_reducible refine bstep (by with_reducible assumption) ?_)))⟩
  have hm0 : (m == 0) = false := by simpa using hm
  by_cases hl : lv < 0
  · have h1 := Hnm.out
    have h2 := Hdn.out
    rw [if_neg hm, if_pos hl] at h1 h2
    subst h1
    subst h2
    clear Hnm Hdn hm
    go_enter Try.func65, Try.ntmps65
    go_wp2_with fail
    refine wp_region_gob 12 [(0, true), (1, true), (3, true), (4, true), (6, true), (7, true), (2, false), (5, false), (8, false), (9, true), (10, true), (11, true)] (by kernel_rfl) (by kernel_rfl) (fun c a d v w h => by cases d <;> exact h) ?_
    repeat (refine wpGo_pure (v := ?_) rfl rfl (fun w' hS => ?_) ?_; rotate_left; (· have kRp : Bk w' (w.heap.size) 63 #[.int .i64 q.c.r, .int .i64 q.c.g, .int .i64 q.c.b, .int .i64 q.t, .int .i64 q.l, .int .i64 q.a] := (by repeat (first | (with_reducible assumption) | ((with_reducible refine Bk.new _ _ _ ?_); first | (with_reducible rfl) | (simp; done)) | (with_reducible refine Bk.alloc ?_ _) | (with_reducible refine Bk.drew ?_) | (with_reducible refine Bk.drewN ?_ _) | ((with_reducible refine Bk.far ?_ ?_ _); rotate_left; focus (first | (simp; done) | (simp; omega))) | (with_reducible refine Bk.below ?_ (by with_reducible assumption)))); obtain ⟨kcRp, kfRp, kaRp, kgRp, klRp⟩ := kRp.rules; go_simp; exact rfl); (try simp only [Act.put, List.setIfInBounds_toArray, List.set_cons_zero, List.set_cons_succ]))
    refine wpGo_eff rfl (fun K hK => ?_)
    go_simp
    refine (sat_q q.c _ Hm _ HC.out).mono ?_
    rintro e w1 ⟨rfl, hb1⟩
    refine hK.out _ _ (by repeat (first | (with_reducible exact Below.refl _ _) | (with_reducible refine balloc ?_ _) | (with_reducible refine Below.drew ?_) | (with_reducible refine bdrewN ?_ _) | ((with_reducible refine bset ?_ ?_ _); rotate_left; focus (first | (with_reducible exact Nat.le_refl _) | (simp; done) | (simp; omega) | omega)) | (with_reducible refine bstep (by with_reducible assumption) ?_))) (fun hS1 => ?_)
    clear hK K
    refine wpGo_eff rfl (fun K hK => ?_)
    go_simp
    refine (low_q q.c lo Hlo _).mono ?_
    rintro e w2 ⟨rfl, hb2⟩
    refine hK.out _ _ (by repeat (first | (with_reducible exact Below.refl _ _) | (with_reducible refine balloc ?_ _) | (with_reducible refine Below.drew ?_) | (with_reducible refine bdrewN ?_ _) | ((with_reducible refine bset ?_ ?_ _); rotate_left; focus (first | (with_reducible exact Nat.le_refl _) | (simp; done) | (simp; omega) | omega)) | (with_reducible refine bstep (by with_reducible assumption) ?_))) (fun hS2 => ?_)
    clear hK K
    refine wpGo_eff rfl (fun K hK => ?_)
    go_simp
    refine (high_q q.c hi Hhi _).mono ?_
    rintro e w3 ⟨rfl, hb3⟩
    refine hK.out _ _ (by repeat (first | (with_reducible exact Below.refl _ _) | (with_reducible refine balloc ?_ _) | (with_reducible refine Below.drew ?_) | (with_reducible refine bdrewN ?_ _) | ((with_reducible refine bset ?_ ?_ _); rotate_left; focus (first | (with_reducible exact Nat.le_refl _) | (simp; done) | (simp; omega) | omega)) | (with_reducible refine bstep (by with_reducible assumption) ?_))) (fun hS3 => ?_)
    clear hK K
    repeat (refine wpGo_pure (v := ?_) rfl rfl (fun w' hS => ?_) ?_; rotate_left; (· have kRp : Bk w' (w.heap.size) 63 #[.int .i64 q.c.r, .int .i64 q.c.g, .int .i64 q.c.b, .int .i64 q.t, .int .i64 q.l, .int .i64 q.a] := (by repeat (first | (with_reducible assumption) | ((with_reducible refine Bk.new _ _ _ ?_); first | (with_reducible rfl) | (simp; done)) | (with_reducible refine Bk.alloc ?_ _) | (with_reducible refine Bk.drew ?_) | (with_reducible refine Bk.drewN ?_ _) | ((with_reducible refine Bk.far ?_ ?_ _); rotate_left; focus (first | (simp; done) | (simp; omega))) | (with_reducible refine Bk.below ?_ (by with_reducible assumption)))); obtain ⟨kcRp, kfRp, kaRp, kgRp, klRp⟩ := kRp.rules; go_simp; exact rfl); (try simp only [Act.put, List.setIfInBounds_toArray, List.set_cons_zero, List.set_cons_succ]))
    refine wpGo_nil ?_
    simp only [List.drop_succ_cons, List.drop_zero]
    have kR3 : Bk w3 (w.heap.size) 63 #[.int .i64 q.c.r, .int .i64 q.c.g, .int .i64 q.c.b, .int .i64 q.t, .int .i64 q.l, .int .i64 q.a] := (by repeat (first | (with_reducible assumption) | ((with_reducible refine Bk.new _ _ _ ?_); first | (with_reducible rfl) | (simp; done)) | (with_reducible refine Bk.alloc ?_ _) | (with_reducible refine Bk.drew ?_) | (with_reducible refine Bk.drewN ?_ _) | ((with_reducible refine Bk.far ?_ ?_ _); rotate_left; focus (first | (simp; done) | (simp; omega))) | (with_reducible refine Bk.below ?_ (by with_reducible assumption)))); obtain ⟨kcR3, kfR3, kaR3, kgR3, klR3⟩ := kR3.rules
    go_wp2_with fail
    refine (lum_q q.c lu Hlu _ HC.out).mono ?_
    rintro e w4 ⟨rfl, hb4⟩
    clear kcR3 kfR3 kaR3 kgR3
    have kR4 : Bk w4 (w.heap.size) 63 #[.int .i64 q.c.r, .int .i64 q.c.g, .int .i64 q.c.b, .int .i64 q.t, .int .i64 q.l, .int .i64 q.a] := (by repeat (first | (with_reducible assumption) | ((with_reducible refine Bk.new _ _ _ ?_); first | (with_reducible rfl) | (simp; done)) | (with_reducible refine Bk.alloc ?_ _) | (with_reducible refine Bk.drew ?_) | (with_reducible refine Bk.drewN ?_ _) | ((with_reducible refine Bk.far ?_ ?_ _); rotate_left; focus (first | (simp; done) | (simp; omega))) | (with_reducible refine Bk.below ?_ (by with_reducible assumption)))); obtain ⟨kcR4, kfR4, kaR4, kgR4, klR4⟩ := kR4.rules
    go_wp2_with fail
    refine (lum_q q.c lu Hlu _ HC.out).mono ?_
    rintro e w5 ⟨rfl, hb5⟩
    clear kcR4 kfR4 kaR4 kgR4
    have kR5 : Bk w5 (w.heap.size) 63 #[.int .i64 q.c.r, .int .i64 q.c.g, .int .i64 q.c.b, .int .i64 q.t, .int .i64 q.l, .int .i64 q.a] := (by repeat (first | (with_reducible assumption) | ((with_reducible refine Bk.new _ _ _ ?_); first | (with_reducible rfl) | (simp; done)) | (with_reducible refine Bk.alloc ?_ _) | (with_reducible refine Bk.drew ?_) | (with_reducible refine Bk.drewN ?_ _) | ((with_reducible refine Bk.far ?_ ?_ _); rotate_left; focus (first | (simp; done) | (simp; omega))) | (with_reducible refine Bk.below ?_ (by with_reducible assumption)))); obtain ⟨kcR5, kfR5, kaR5, kgR5, klR5⟩ := kR5.rules
    go_wp2
    go_ret2
    exact ⟨rfl, (by repeat (first | (with_reducible exact Below.refl _ _) | (with_reducible refine balloc ?_ _) | (with_reducible refine Below.drew ?_) | (with_reducible refine bdrewN ?_ _) | ((with_reducible refine bset ?_ ?_ _); rotate_left; focus (first | (with_reducible exact Nat.le_refl _) | (simp; done) | (simp; omega) | omega)) | (with_reducible refine bstep (by with_reducible assumption) ?_)))⟩
  by_cases hb : 100 * q.a * m < 100 * m * q.t + lv
  · have h1 := Hnm.out
    have h2 := Hdn.out
    rw [if_neg hm, if_neg hl, if_pos hb] at h1 h2
    subst h1
    subst h2
    clear Hnm Hdn hm
    go_enter Try.func65, Try.ntmps65
    go_wp2_with fail
    refine wp_region_gob 12 [(0, true), (1, true), (3, true), (4, true), (6, true), (7, true), (2, false), (5, false), (8, false), (9, true), (10, true), (11, true)] (by kernel_rfl) (by kernel_rfl) (fun c a d v w h => by cases d <;> exact h) ?_
    repeat (refine wpGo_pure (v := ?_) rfl rfl (fun w' hS => ?_) ?_; rotate_left; (· have kRp : Bk w' (w.heap.size) 63 #[.int .i64 q.c.r, .int .i64 q.c.g, .int .i64 q.c.b, .int .i64 q.t, .int .i64 q.l, .int .i64 q.a] := (by repeat (first | (with_reducible assumption) | ((with_reducible refine Bk.new _ _ _ ?_); first | (with_reducible rfl) | (simp; done)) | (with_reducible refine Bk.alloc ?_ _) | (with_reducible refine Bk.drew ?_) | (with_reducible refine Bk.drewN ?_ _) | ((with_reducible refine Bk.far ?_ ?_ _); rotate_left; focus (first | (simp; done) | (simp; omega))) | (with_reducible refine Bk.below ?_ (by with_reducible assumption)))); obtain ⟨kcRp, kfRp, kaRp, kgRp, klRp⟩ := kRp.rules; go_simp; exact rfl); (try simp only [Act.put, List.setIfInBounds_toArray, List.set_cons_zero, List.set_cons_succ]))
    refine wpGo_eff rfl (fun K hK => ?_)
    go_simp
    refine (sat_q q.c _ Hm _ HC.out).mono ?_
    rintro e w1 ⟨rfl, hb1⟩
    refine hK.out _ _ (by repeat (first | (with_reducible exact Below.refl _ _) | (with_reducible refine balloc ?_ _) | (with_reducible refine Below.drew ?_) | (with_reducible refine bdrewN ?_ _) | ((with_reducible refine bset ?_ ?_ _); rotate_left; focus (first | (with_reducible exact Nat.le_refl _) | (simp; done) | (simp; omega) | omega)) | (with_reducible refine bstep (by with_reducible assumption) ?_))) (fun hS1 => ?_)
    clear hK K
    refine wpGo_eff rfl (fun K hK => ?_)
    go_simp
    refine (low_q q.c lo Hlo _).mono ?_
    rintro e w2 ⟨rfl, hb2⟩
    refine hK.out _ _ (by repeat (first | (with_reducible exact Below.refl _ _) | (with_reducible refine balloc ?_ _) | (with_reducible refine Below.drew ?_) | (with_reducible refine bdrewN ?_ _) | ((with_reducible refine bset ?_ ?_ _); rotate_left; focus (first | (with_reducible exact Nat.le_refl _) | (simp; done) | (simp; omega) | omega)) | (with_reducible refine bstep (by with_reducible assumption) ?_))) (fun hS2 => ?_)
    clear hK K
    refine wpGo_eff rfl (fun K hK => ?_)
    go_simp
    refine (high_q q.c hi Hhi _).mono ?_
    rintro e w3 ⟨rfl, hb3⟩
    refine hK.out _ _ (by repeat (first | (with_reducible exact Below.refl _ _) | (with_reducible refine balloc ?_ _) | (with_reducible refine Below.drew ?_) | (with_reducible refine bdrewN ?_ _) | ((with_reducible refine bset ?_ ?_ _); rotate_left; focus (first | (with_reducible exact Nat.le_refl _) | (simp; done) | (simp; omega) | omega)) | (with_reducible refine bstep (by with_reducible assumption) ?_))) (fun hS3 => ?_)
    clear hK K
    repeat (refine wpGo_pure (v := ?_) rfl rfl (fun w' hS => ?_) ?_; rotate_left; (· have kRp : Bk w' (w.heap.size) 63 #[.int .i64 q.c.r, .int .i64 q.c.g, .int .i64 q.c.b, .int .i64 q.t, .int .i64 q.l, .int .i64 q.a] := (by repeat (first | (with_reducible assumption) | ((with_reducible refine Bk.new _ _ _ ?_); first | (with_reducible rfl) | (simp; done)) | (with_reducible refine Bk.alloc ?_ _) | (with_reducible refine Bk.drew ?_) | (with_reducible refine Bk.drewN ?_ _) | ((with_reducible refine Bk.far ?_ ?_ _); rotate_left; focus (first | (simp; done) | (simp; omega))) | (with_reducible refine Bk.below ?_ (by with_reducible assumption)))); obtain ⟨kcRp, kfRp, kaRp, kgRp, klRp⟩ := kRp.rules; go_simp; exact rfl); (try simp only [Act.put, List.setIfInBounds_toArray, List.set_cons_zero, List.set_cons_succ]))
    refine wpGo_nil ?_
    simp only [List.drop_succ_cons, List.drop_zero]
    have kR3 : Bk w3 (w.heap.size) 63 #[.int .i64 q.c.r, .int .i64 q.c.g, .int .i64 q.c.b, .int .i64 q.t, .int .i64 q.l, .int .i64 q.a] := (by repeat (first | (with_reducible assumption) | ((with_reducible refine Bk.new _ _ _ ?_); first | (with_reducible rfl) | (simp; done)) | (with_reducible refine Bk.alloc ?_ _) | (with_reducible refine Bk.drew ?_) | (with_reducible refine Bk.drewN ?_ _) | ((with_reducible refine Bk.far ?_ ?_ _); rotate_left; focus (first | (simp; done) | (simp; omega))) | (with_reducible refine Bk.below ?_ (by with_reducible assumption)))); obtain ⟨kcR3, kfR3, kaR3, kgR3, klR3⟩ := kR3.rules
    go_wp2_with fail
    refine (lum_q q.c lu Hlu _ HC.out).mono ?_
    rintro e w4 ⟨rfl, hb4⟩
    clear kcR3 kfR3 kaR3 kgR3
    have kR4 : Bk w4 (w.heap.size) 63 #[.int .i64 q.c.r, .int .i64 q.c.g, .int .i64 q.c.b, .int .i64 q.t, .int .i64 q.l, .int .i64 q.a] := (by repeat (first | (with_reducible assumption) | ((with_reducible refine Bk.new _ _ _ ?_); first | (with_reducible rfl) | (simp; done)) | (with_reducible refine Bk.alloc ?_ _) | (with_reducible refine Bk.drew ?_) | (with_reducible refine Bk.drewN ?_ _) | ((with_reducible refine Bk.far ?_ ?_ _); rotate_left; focus (first | (simp; done) | (simp; omega))) | (with_reducible refine Bk.below ?_ (by with_reducible assumption)))); obtain ⟨kcR4, kfR4, kaR4, kgR4, klR4⟩ := kR4.rules
    go_wp2_with fail
    refine (lum_q q.c lu Hlu _ HC.out).mono ?_
    rintro e w5 ⟨rfl, hb5⟩
    clear kcR4 kfR4 kaR4 kgR4
    have kR5 : Bk w5 (w.heap.size) 63 #[.int .i64 q.c.r, .int .i64 q.c.g, .int .i64 q.c.b, .int .i64 q.t, .int .i64 q.l, .int .i64 q.a] := (by repeat (first | (with_reducible assumption) | ((with_reducible refine Bk.new _ _ _ ?_); first | (with_reducible rfl) | (simp; done)) | (with_reducible refine Bk.alloc ?_ _) | (with_reducible refine Bk.drew ?_) | (with_reducible refine Bk.drewN ?_ _) | ((with_reducible refine Bk.far ?_ ?_ _); rotate_left; focus (first | (simp; done) | (simp; omega))) | (with_reducible refine Bk.below ?_ (by with_reducible assumption)))); obtain ⟨kcR5, kfR5, kaR5, kgR5, klR5⟩ := kR5.rules
    go_wp2
    go_ret2
    exact ⟨rfl, (by repeat (first | (with_reducible exact Below.refl _ _) | (with_reducible refine balloc ?_ _) | (with_reducible refine Below.drew ?_) | (with_reducible refine bdrewN ?_ _) | ((with_reducible refine bset ?_ ?_ _); rotate_left; focus (first | (with_reducible exact Nat.le_refl _) | (simp; done) | (simp; omega) | omega)) | (with_reducible refine bstep (by with_reducible assumption) ?_)))⟩
  · have h1 := Hnm.out
    have h2 := Hdn.out
    rw [if_neg hm, if_neg hl, if_neg hb] at h1 h2
    subst h1
    subst h2
    clear Hnm Hdn hm
    go_enter Try.func65, Try.ntmps65
    go_wp2_with fail
    refine wp_region_gob 12 [(0, true), (1, true), (3, true), (4, true), (6, true), (7, true), (2, false), (5, false), (8, false), (9, true), (10, true), (11, true)] (by kernel_rfl) (by kernel_rfl) (fun c a d v w h => by cases d <;> exact h) ?_
    repeat (refine wpGo_pure (v := ?_) rfl rfl (fun w' hS => ?_) ?_; rotate_left; (· have kRp : Bk w' (w.heap.size) 63 #[.int .i64 q.c.r, .int .i64 q.c.g, .int .i64 q.c.b, .int .i64 q.t, .int .i64 q.l, .int .i64 q.a] := (by repeat (first | (with_reducible assumption) | ((with_reducible refine Bk.new _ _ _ ?_); first | (with_reducible rfl) | (simp; done)) | (with_reducible refine Bk.alloc ?_ _) | (with_reducible refine Bk.drew ?_) | (with_reducible refine Bk.drewN ?_ _) | ((with_reducible refine Bk.far ?_ ?_ _); rotate_left; focus (first | (simp; done) | (simp; omega))) | (with_reducible refine Bk.below ?_ (by with_reducible assumption)))); obtain ⟨kcRp, kfRp, kaRp, kgRp, klRp⟩ := kRp.rules; go_simp; exact rfl); (try simp only [Act.put, List.setIfInBounds_toArray, List.set_cons_zero, List.set_cons_succ]))
    refine wpGo_eff rfl (fun K hK => ?_)
    go_simp
    refine (sat_q q.c _ Hm _ HC.out).mono ?_
    rintro e w1 ⟨rfl, hb1⟩
    refine hK.out _ _ (by repeat (first | (with_reducible exact Below.refl _ _) | (with_reducible refine balloc ?_ _) | (with_reducible refine Below.drew ?_) | (with_reducible refine bdrewN ?_ _) | ((with_reducible refine bset ?_ ?_ _); rotate_left; focus (first | (with_reducible exact Nat.le_refl _) | (simp; done) | (simp; omega) | omega)) | (with_reducible refine bstep (by with_reducible assumption) ?_))) (fun hS1 => ?_)
    clear hK K
    refine wpGo_eff rfl (fun K hK => ?_)
    go_simp
    refine (low_q q.c lo Hlo _).mono ?_
    rintro e w2 ⟨rfl, hb2⟩
    refine hK.out _ _ (by repeat (first | (with_reducible exact Below.refl _ _) | (with_reducible refine balloc ?_ _) | (with_reducible refine Below.drew ?_) | (with_reducible refine bdrewN ?_ _) | ((with_reducible refine bset ?_ ?_ _); rotate_left; focus (first | (with_reducible exact Nat.le_refl _) | (simp; done) | (simp; omega) | omega)) | (with_reducible refine bstep (by with_reducible assumption) ?_))) (fun hS2 => ?_)
    clear hK K
    refine wpGo_eff rfl (fun K hK => ?_)
    go_simp
    refine (high_q q.c hi Hhi _).mono ?_
    rintro e w3 ⟨rfl, hb3⟩
    refine hK.out _ _ (by repeat (first | (with_reducible exact Below.refl _ _) | (with_reducible refine balloc ?_ _) | (with_reducible refine Below.drew ?_) | (with_reducible refine bdrewN ?_ _) | ((with_reducible refine bset ?_ ?_ _); rotate_left; focus (first | (with_reducible exact Nat.le_refl _) | (simp; done) | (simp; omega) | omega)) | (with_reducible refine bstep (by with_reducible assumption) ?_))) (fun hS3 => ?_)
    clear hK K
    repeat (refine wpGo_pure (v := ?_) rfl rfl (fun w' hS => ?_) ?_; rotate_left; (· have kRp : Bk w' (w.heap.size) 63 #[.int .i64 q.c.r, .int .i64 q.c.g, .int .i64 q.c.b, .int .i64 q.t, .int .i64 q.l, .int .i64 q.a] := (by repeat (first | (with_reducible assumption) | ((with_reducible refine Bk.new _ _ _ ?_); first | (with_reducible rfl) | (simp; done)) | (with_reducible refine Bk.alloc ?_ _) | (with_reducible refine Bk.drew ?_) | (with_reducible refine Bk.drewN ?_ _) | ((with_reducible refine Bk.far ?_ ?_ _); rotate_left; focus (first | (simp; done) | (simp; omega))) | (with_reducible refine Bk.below ?_ (by with_reducible assumption)))); obtain ⟨kcRp, kfRp, kaRp, kgRp, klRp⟩ := kRp.rules; go_simp; exact rfl); (try simp only [Act.put, List.setIfInBounds_toArray, List.set_cons_zero, List.set_cons_succ]))
    refine wpGo_nil ?_
    simp only [List.drop_succ_cons, List.drop_zero]
    have kR3 : Bk w3 (w.heap.size) 63 #[.int .i64 q.c.r, .int .i64 q.c.g, .int .i64 q.c.b, .int .i64 q.t, .int .i64 q.l, .int .i64 q.a] := (by repeat (first | (with_reducible assumption) | ((with_reducible refine Bk.new _ _ _ ?_); first | (with_reducible rfl) | (simp; done)) | (with_reducible refine Bk.alloc ?_ _) | (with_reducible refine Bk.drew ?_) | (with_reducible refine Bk.drewN ?_ _) | ((with_reducible refine Bk.far ?_ ?_ _); rotate_left; focus (first | (simp; done) | (simp; omega))) | (with_reducible refine Bk.below ?_ (by with_reducible assumption)))); obtain ⟨kcR3, kfR3, kaR3, kgR3, klR3⟩ := kR3.rules
    go_wp2_with fail
    refine (lum_q q.c lu Hlu _ HC.out).mono ?_
    rintro e w4 ⟨rfl, hb4⟩
    clear kcR3 kfR3 kaR3 kgR3
    have kR4 : Bk w4 (w.heap.size) 63 #[.int .i64 q.c.r, .int .i64 q.c.g, .int .i64 q.c.b, .int .i64 q.t, .int .i64 q.l, .int .i64 q.a] := (by repeat (first | (with_reducible assumption) | ((with_reducible refine Bk.new _ _ _ ?_); first | (with_reducible rfl) | (simp; done)) | (with_reducible refine Bk.alloc ?_ _) | (with_reducible refine Bk.drew ?_) | (with_reducible refine Bk.drewN ?_ _) | ((with_reducible refine Bk.far ?_ ?_ _); rotate_left; focus (first | (simp; done) | (simp; omega))) | (with_reducible refine Bk.below ?_ (by with_reducible assumption)))); obtain ⟨kcR4, kfR4, kaR4, kgR4, klR4⟩ := kR4.rules
    go_wp2_with fail
    refine (lum_q q.c lu Hlu _ HC.out).mono ?_
    rintro e w5 ⟨rfl, hb5⟩
    clear kcR4 kfR4 kaR4 kgR4
    have kR5 : Bk w5 (w.heap.size) 63 #[.int .i64 q.c.r, .int .i64 q.c.g, .int .i64 q.c.b, .int .i64 q.t, .int .i64 q.l, .int .i64 q.a] := (by repeat (first | (with_reducible assumption) | ((with_reducible refine Bk.new _ _ _ ?_); first | (with_reducible rfl) | (simp; done)) | (with_reducible refine Bk.alloc ?_ _) | (with_reducible refine Bk.drew ?_) | (with_reducible refine Bk.drewN ?_ _) | ((with_reducible refine Bk.far ?_ ?_ _); rotate_left; focus (first | (simp; done) | (simp; omega))) | (with_reducible refine Bk.below ?_ (by with_reducible assumption)))); obtain ⟨kcR5, kfR5, kaR5, kgR5, klR5⟩ := kR5.rules
    go_wp2
    go_ret2
    exact ⟨rfl, (by repeat (first | (with_reducible exact Below.refl _ _) | (with_reducible refine balloc ?_ _) | (with_reducible refine Below.drew ?_) | (with_reducible refine bdrewN ?_ _) | ((with_reducible refine bset ?_ ?_ _); rotate_left; focus (first | (with_reducible exact Nat.le_refl _) | (simp; done) | (simp; omega) | omega)) | (with_reducible refine bstep (by with_reducible assumption) ?_)))⟩
end Go.Proofs.Ytlholebpfgjpdaa
