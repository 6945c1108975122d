/-
  The walks of grisailleref28.times, low, high, sat, lum, fraction, mixed.
-/
import Derived.Test.YtnefnnhnjmmebaaGreatBlA
import Derived.Test.YtnefnnhnjmmebaaGreatBgA
namespace Go.Proofs.YtnefnnhnjmmebaaGreat
open Go.RowKit
set_option linter.unusedSimpArgs false
set_option linter.unusedVariables false

set_option maxHeartbeats 400000 in
theorem rtimes_q (p : Px) (n : Int) (c : C3) (hc : Hid (scaledP p n = c)) (w : World) (hp : p.byte) (h0 : 0 ≤ n) (h1 : n ≤ 255) :
    Calls Tryz.prog 84 #[.agg #[.int .u8 p.r, .int .u8 p.g, .int .u8 p.b, .int .u8 p.a], .int .i64 n] w fun e w' => e = .returned (.agg #[.int .i64 c.r, .int .i64 c.g, .int .i64 c.b]) ∧ Below w.heap.size w w' := by
  have h := hc.out; subst h
  obtain ⟨r0, r1, g0, g1, b0, b1, a0, a1⟩ := hp
  have m1 := mul_byte r0 r1 h0 h1
  have m2 := mul_byte g0 g1 h0 h1
  have m3 := mul_byte b0 b1 h0 h1
  unfold scaledP
  go_enter Tryz.func84, Tryz.ntmps84
  go_wp2
  refine bodyPost_ret (v := _) ?_ rfl ⟨rfl, (by repeat (first | (with_reducible exact Below.refl _ _) | (with_reducible refine balloc ?_ _) | (with_reducible refine Below.drew ?_) | (with_reducible refine bdrewN ?_ _) | ((with_reducible refine bset ?_ ?_ _); rotate_left; focus (first | (with_reducible exact Nat.le_refl _) | (simp; done) | (simp; omega) | omega)) | (with_reducible refine bstep (by with_reducible assumption) ?_)))⟩
  simp [results, Tryz.results84, go_sem, List.getElem?_cons_zero]
set_option maxHeartbeats 400000 in
theorem rlow_any (r g b : Int) (w : World) :
    Calls Tryz.prog 97 #[.agg #[.int .i64 r, .int .i64 g, .int .i64 b]] w fun e w' => e = .returned (.int .i64 (C3.low ⟨r, g, b⟩)) ∧ Below w.heap.size w w' := by
  have hmn := min_if
  go_enter Tryz.func97, Tryz.ntmps97
  go_wp2
  go_ret
  exact ⟨rfl, (by repeat (first | (with_reducible exact Below.refl _ _) | (with_reducible refine balloc ?_ _) | (with_reducible refine Below.drew ?_) | (with_reducible refine bdrewN ?_ _) | ((with_reducible refine bset ?_ ?_ _); rotate_left; focus (first | (with_reducible exact Nat.le_refl _) | (simp; done) | (simp; omega) | omega)) | (with_reducible refine bstep (by with_reducible assumption) ?_)))⟩
set_option maxHeartbeats 400000 in
theorem rhigh_any (r g b : Int) (w : World) :
    Calls Tryz.prog 96 #[.agg #[.int .i64 r, .int .i64 g, .int .i64 b]] w fun e w' => e = .returned (.int .i64 (C3.high ⟨r, g, b⟩)) ∧ Below w.heap.size w w' := by
  have hmx := max_if
  go_enter Tryz.func96, Tryz.ntmps96
  go_wp2
  go_ret
  exact ⟨rfl, (by repeat (first | (with_reducible exact Below.refl _ _) | (with_reducible refine balloc ?_ _) | (with_reducible refine Below.drew ?_) | (with_reducible refine bdrewN ?_ _) | ((with_reducible refine bset ?_ ?_ _); rotate_left; focus (first | (with_reducible exact Nat.le_refl _) | (simp; done) | (simp; omega) | omega)) | (with_reducible refine bstep (by with_reducible assumption) ?_)))⟩
theorem rlow_q (c : C3) (n : Int) (hn : Hid (c.low = n)) (w : World) :
    Calls Tryz.prog 97 #[.agg #[.int .i64 c.r, .int .i64 c.g, .int .i64 c.b]] w fun e w' => e = .returned (.int .i64 n) ∧ Below w.heap.size w w' := by
  have h := hn.out; subst h; exact rlow_any c.r c.g c.b w
theorem rhigh_q (c : C3) (n : Int) (hn : Hid (c.high = n)) (w : World) :
    Calls Tryz.prog 96 #[.agg #[.int .i64 c.r, .int .i64 c.g, .int .i64 c.b]] w fun e w' => e = .returned (.int .i64 n) ∧ Below w.heap.size w w' := by
  have h := hn.out; subst h; exact rhigh_any c.r c.g c.b w
set_option maxHeartbeats 400000 in
theorem rsat_any (r g b : Int) (w : World) (hc : C3.inR ⟨r, g, b⟩) :
    Calls Tryz.prog 85 #[.agg #[.int .i64 r, .int .i64 g, .int .i64 b]] w fun e w' => e = .returned (.int .i64 (C3.sat ⟨r, g, b⟩)) ∧ Below w.heap.size w w' := by
  obtain ⟨u, v⟩ := low_in hc
  obtain ⟨lh1, _, _, lh2, _⟩ := low_high ⟨r, g, b⟩
  obtain ⟨lo, Hlo⟩ : ∃ q, Hid (C3.low ⟨r, g, b⟩ = q) := ⟨_, rfl⟩
  obtain ⟨hi, Hhi⟩ : ∃ q, Hid (C3.high ⟨r, g, b⟩ = q) := ⟨_, rfl⟩
  have HL := Lib.hid (rlow_any r g b)
  have HH := Lib.hid (rhigh_any r g b)
  unfold C3.sat
  rw [Hlo.out] at u lh1 HL
  rw [Hhi.out] at v lh2 HH
  rw [Hlo.out, Hhi.out]
  have e0 : IntKind.i64.wrap (hi - lo) = hi - lo := IntWalk.i64_in _ (by simp only at lh1 lh2; omega)
  clear u v lh1 lh2 hc
  go_enter Tryz.func85, Tryz.ntmps85
  go_wp2_with fail
  refine wp_region_gob 6 [(0, true), (2, true), (1, false), (3, false), (4, true), (5, true)] (by kernel_rfl) (by kernel_rfl) (fun c a d v w h => by cases d <;> exact h) ?_
  repeat (refine wpGo_pure (v := ?_) rfl rfl (fun w' hS => ?_) ?_; rotate_left; (· have kXp : Bk w' (w.heap.size) 90 #[.int .i64 r, .int .i64 g, .int .i64 b] := (by repeat (first | (with_reducible assumption) | ((with_reducible refine Bk.new _ _ _ ?_); first | (with_reducible rfl) | (simp; done)) | (with_reducible refine Bk.alloc ?_ _) | (with_reducible refine Bk.drew ?_) | (with_reducible refine Bk.drewN ?_ _) | ((with_reducible refine Bk.far ?_ ?_ _); rotate_left; focus (first | (simp; done) | (simp; omega))) | (with_reducible refine Bk.below ?_ (by with_reducible assumption)))); obtain ⟨kcXp, kfXp, kaXp, kgXp, klXp⟩ := kXp.rules; go_simp; exact rfl); (try simp only [Act.put, List.setIfInBounds_toArray, List.set_cons_zero, List.set_cons_succ]))
  refine wpGo_eff rfl (fun K hK => ?_)
  go_simp
  refine (HH.out _).mono ?_
  rintro e w1 ⟨rfl, hb1⟩
  refine hK.out _ _ (by repeat (first | (with_reducible exact Below.refl _ _) | (with_reducible refine balloc ?_ _) | (with_reducible refine Below.drew ?_) | (with_reducible refine bdrewN ?_ _) | ((with_reducible refine bset ?_ ?_ _); rotate_left; focus (first | (with_reducible exact Nat.le_refl _) | (simp; done) | (simp; omega) | omega)) | (with_reducible refine bstep (by with_reducible assumption) ?_))) (fun hS1 => ?_)
  clear hK K
  refine wpGo_eff rfl (fun K hK => ?_)
  go_simp
  refine (HL.out _).mono ?_
  rintro e w2 ⟨rfl, hb2⟩
  refine hK.out _ _ (by repeat (first | (with_reducible exact Below.refl _ _) | (with_reducible refine balloc ?_ _) | (with_reducible refine Below.drew ?_) | (with_reducible refine bdrewN ?_ _) | ((with_reducible refine bset ?_ ?_ _); rotate_left; focus (first | (with_reducible exact Nat.le_refl _) | (simp; done) | (simp; omega) | omega)) | (with_reducible refine bstep (by with_reducible assumption) ?_))) (fun hS2 => ?_)
  clear hK K
  repeat (refine wpGo_pure (v := ?_) rfl rfl (fun w' hS => ?_) ?_; rotate_left; (· have kXp : Bk w' (w.heap.size) 90 #[.int .i64 r, .int .i64 g, .int .i64 b] := (by repeat (first | (with_reducible assumption) | ((with_reducible refine Bk.new _ _ _ ?_); first | (with_reducible rfl) | (simp; done)) | (with_reducible refine Bk.alloc ?_ _) | (with_reducible refine Bk.drew ?_) | (with_reducible refine Bk.drewN ?_ _) | ((with_reducible refine Bk.far ?_ ?_ _); rotate_left; focus (first | (simp; done) | (simp; omega))) | (with_reducible refine Bk.below ?_ (by with_reducible assumption)))); obtain ⟨kcXp, kfXp, kaXp, kgXp, klXp⟩ := kXp.rules; go_simp; exact rfl); (try simp only [Act.put, List.setIfInBounds_toArray, List.set_cons_zero, List.set_cons_succ]))
  refine wpGo_nil ?_
  simp only [List.drop_succ_cons, List.drop_zero]
  go_wp2
  go_ret
  exact ⟨rfl, (by repeat (first | (with_reducible exact Below.refl _ _) | (with_reducible refine balloc ?_ _) | (with_reducible refine Below.drew ?_) | (with_reducible refine bdrewN ?_ _) | ((with_reducible refine bset ?_ ?_ _); rotate_left; focus (first | (with_reducible exact Nat.le_refl _) | (simp; done) | (simp; omega) | omega)) | (with_reducible refine bstep (by with_reducible assumption) ?_)))⟩
set_option maxHeartbeats 400000 in
theorem rlum_any (r g b : Int) (w : World) (hc : C3.inR ⟨r, g, b⟩) :
    Calls Tryz.prog 86 #[.agg #[.int .i64 r, .int .i64 g, .int .i64 b]] w fun e w' => e = .returned (.int .i64 (C3.lum ⟨r, g, b⟩)) ∧ Below w.heap.size w w' := by
  obtain ⟨c0, c1, c2, c3, c4, c5⟩ := hc
  simp only at c0 c1 c2 c3 c4 c5
  unfold C3.lum
  go_enter Tryz.func86, Tryz.ntmps86
  go_wp2
  go_ret
  exact ⟨rfl, (by repeat (first | (with_reducible exact Below.refl _ _) | (with_reducible refine balloc ?_ _) | (with_reducible refine Below.drew ?_) | (with_reducible refine bdrewN ?_ _) | ((with_reducible refine bset ?_ ?_ _); rotate_left; focus (first | (with_reducible exact Nat.le_refl _) | (simp; done) | (simp; omega) | omega)) | (with_reducible refine bstep (by with_reducible assumption) ?_)))⟩
theorem rsat_q (c : C3) (n : Int) (hn : Hid (c.sat = n)) (w : World) (hc : c.inR) :
    Calls Tryz.prog 85 #[.agg #[.int .i64 c.r, .int .i64 c.g, .int .i64 c.b]] w fun e w' => e = .returned (.int .i64 n) ∧ Below w.heap.size w w' := by
  have h := hn.out; subst h; exact rsat_any c.r c.g c.b w hc
theorem rlum_q (c : C3) (n : Int) (hn : Hid (c.lum = n)) (w : World) (hc : c.inR) :
    Calls Tryz.prog 86 #[.agg #[.int .i64 c.r, .int .i64 c.g, .int .i64 c.b]] w fun e w' => e = .returned (.int .i64 n) ∧ Below w.heap.size w w' := by
  have h := hn.out; subst h; exact rlum_any c.r c.g c.b w hc
set_option maxHeartbeats 6400000 in
theorem rfrac_any (q : Rcp) (x : Int) (w : World) (hf : q.fit) (ha : q.a ≤ 65025) (hx0 : q.c.low ≤ x) (hx1 : x ≤ q.c.high) :
    Calls Tryz.prog 87 #[.int .i64 x, .agg #[.int .i64 q.c.r, .int .i64 q.c.g, .int .i64 q.c.b], .int .i64 q.t, .int .i64 q.l, .int .i64 q.a] w fun e w' =>
      e = .returned (.tuple #[.int .i64 (q.num x), .int .i64 q.den]) ∧ Below w.heap.size w w' := by
  obtain ⟨k0, k1, k2, k3, k4, k5, k6, k7, k8⟩ := hf.lin
  obtain ⟨p1, p2, p3, p4, p5, p6, p7, p8⟩ := hf.parts ha hx0 hx1
  have HC := Lib.hid (hf.inR ha)
  obtain ⟨r0, r1, g0, g1, b0, b1, t0, t1, l0, l1⟩ := hf
  have hlv : q.level = q.l * q.c.sat - q.t * q.dark := rfl
  obtain ⟨nm, Hnm⟩ : ∃ n, Hid (q.num x = n) := ⟨_, rfl⟩
  obtain ⟨dn, Hdn⟩ : ∃ n, Hid (q.den = n) := ⟨_, rfl⟩
  rw [Hnm.out, Hdn.out]
  unfold Rcp.num at Hnm
  unfold Rcp.den at Hdn
  generalize Hlo' : q.c.low = lo at *
  generalize Hhi' : q.c.high = hi at *
  generalize Hm' : q.c.sat = m at *
  generalize Hlu' : q.c.lum = lu at *
  generalize q.dark = dk at *
  generalize q.bright = br at *
  generalize q.level = lv at *
  have Hlo := Lib.hid Hlo'
  have Hhi := Lib.hid Hhi'
  have Hm := Lib.hid Hm'
  have Hlu := Lib.hid Hlu'
  clear Hlo' Hhi' Hm' Hlu'
  have w1 : IntKind.i64.wrap (100 * lo) = 100 * lo := IntWalk.i64_in _ (by omega)
  have w2 : IntKind.i64.wrap (lu - 100 * lo) = dk := by rw [← k7]; exact IntWalk.i64_in _ (by omega)
  have w3 : IntKind.i64.wrap (100 * hi) = 100 * hi := IntWalk.i64_in _ (by omega)
  have w4 : IntKind.i64.wrap (100 * hi - lu) = br := by rw [← k8]; exact IntWalk.i64_in _ (by omega)
  have HLV := Lib.hid hlv
  have k3' : m ≤ hi - lo ∧ hi - lo ≤ m := by omega
  have k6' : dk + br ≤ 100 * m ∧ 100 * m ≤ dk + br := by omega
  clear k3 k6 k7 k8 hlv
  by_cases hm : m = 0
  · subst hm
    have h1 := Hnm.out
    have h2 := Hdn.out
    rw [if_pos rfl] at h1 h2
    subst h1
    subst h2
    clear Hnm Hdn w3 w4
    go_enter Tryz.func87, Tryz.ntmps87
    go_wp2_with fail
    refine (rsat_q q.c _ Hm _ HC.out).mono ?_
    rintro e w5 ⟨rfl, hb5⟩
    have kR5 : Bk w5 (w.heap.size) 90 #[.int .i64 q.c.r, .int .i64 q.c.g, .int .i64 q.c.b] := (by repeat (first | (with_reducible assumption) | ((with_reducible refine Bk.new _ _ _ ?_); first | (with_reducible rfl) | (simp; done)) | (with_reducible refine Bk.alloc ?_ _) | (with_reducible refine Bk.drew ?_) | (with_reducible refine Bk.drewN ?_ _) | ((with_reducible refine Bk.far ?_ ?_ _); rotate_left; focus (first | (simp; done) | (simp; omega))) | (with_reducible refine Bk.below ?_ (by with_reducible assumption)))); obtain ⟨kcR5, kfR5, kaR5, kgR5, klR5⟩ := kR5.rules
    go_wp2_with fail
    clear kcR5 kfR5 kaR5 kgR5
    refine wp_region_gob 7 [(0, true), (2, true), (1, false), (3, false), (4, true), (5, true), (6, true)] (by kernel_rfl) (by kernel_rfl) (fun c a d v w h => by cases d <;> exact h) ?_
    repeat (refine wpGo_pure (v := ?_) rfl rfl (fun w' hS => ?_) ?_; rotate_left; (· have kRp : Bk w' (w.heap.size) 90 #[.int .i64 q.c.r, .int .i64 q.c.g, .int .i64 q.c.b] := (by repeat (first | (with_reducible assumption) | ((with_reducible refine Bk.new _ _ _ ?_); first | (with_reducible rfl) | (simp; done)) | (with_reducible refine Bk.alloc ?_ _) | (with_reducible refine Bk.drew ?_) | (with_reducible refine Bk.drewN ?_ _) | ((with_reducible refine Bk.far ?_ ?_ _); rotate_left; focus (first | (simp; done) | (simp; omega))) | (with_reducible refine Bk.below ?_ (by with_reducible assumption)))); obtain ⟨kcRp, kfRp, kaRp, kgRp, klRp⟩ := kRp.rules; go_simp; exact rfl); (try simp only [Act.put, List.setIfInBounds_toArray, List.set_cons_zero, List.set_cons_succ]))
    refine wpGo_eff rfl (fun K hK => ?_)
    go_simp
    refine (rlum_q q.c lu Hlu _ HC.out).mono ?_
    rintro e w6 ⟨rfl, hb6⟩
    refine hK.out _ _ (by repeat (first | (with_reducible exact Below.refl _ _) | (with_reducible refine balloc ?_ _) | (with_reducible refine Below.drew ?_) | (with_reducible refine bdrewN ?_ _) | ((with_reducible refine bset ?_ ?_ _); rotate_left; focus (first | (with_reducible exact Nat.le_refl _) | (simp; done) | (simp; omega) | omega)) | (with_reducible refine bstep (by with_reducible assumption) ?_))) (fun hS6 => ?_)
    clear hK K
    refine wpGo_eff rfl (fun K hK => ?_)
    go_simp
    refine (rlow_q q.c lo Hlo _).mono ?_
    rintro e w7 ⟨rfl, hb7⟩
    refine hK.out _ _ (by repeat (first | (with_reducible exact Below.refl _ _) | (with_reducible refine balloc ?_ _) | (with_reducible refine Below.drew ?_) | (with_reducible refine bdrewN ?_ _) | ((with_reducible refine bset ?_ ?_ _); rotate_left; focus (first | (with_reducible exact Nat.le_refl _) | (simp; done) | (simp; omega) | omega)) | (with_reducible refine bstep (by with_reducible assumption) ?_))) (fun hS7 => ?_)
    clear hK K
    repeat (refine wpGo_pure (v := ?_) rfl rfl (fun w' hS => ?_) ?_; rotate_left; (· have kRp : Bk w' (w.heap.size) 90 #[.int .i64 q.c.r, .int .i64 q.c.g, .int .i64 q.c.b] := (by repeat (first | (with_reducible assumption) | ((with_reducible refine Bk.new _ _ _ ?_); first | (with_reducible rfl) | (simp; done)) | (with_reducible refine Bk.alloc ?_ _) | (with_reducible refine Bk.drew ?_) | (with_reducible refine Bk.drewN ?_ _) | ((with_reducible refine Bk.far ?_ ?_ _); rotate_left; focus (first | (simp; done) | (simp; omega))) | (with_reducible refine Bk.below ?_ (by with_reducible assumption)))); obtain ⟨kcRp, kfRp, kaRp, kgRp, klRp⟩ := kRp.rules; go_simp; exact rfl); (try simp only [Act.put, List.setIfInBounds_toArray, List.set_cons_zero, List.set_cons_succ]))
    refine wpGo_nil ?_
    simp only [List.drop_succ_cons, List.drop_zero]
    have kR7 : Bk w7 (w.heap.size) 90 #[.int .i64 q.c.r, .int .i64 q.c.g, .int .i64 q.c.b] := (by repeat (first | (with_reducible assumption) | ((with_reducible refine Bk.new _ _ _ ?_); first | (with_reducible rfl) | (simp; done)) | (with_reducible refine Bk.alloc ?_ _) | (with_reducible refine Bk.drew ?_) | (with_reducible refine Bk.drewN ?_ _) | ((with_reducible refine Bk.far ?_ ?_ _); rotate_left; focus (first | (simp; done) | (simp; omega))) | (with_reducible refine Bk.below ?_ (by with_reducible assumption)))); obtain ⟨kcR7, kfR7, kaR7, kgR7, klR7⟩ := kR7.rules
    clear w1 w2
    go_wp2
    go_ret2
    exact ⟨rfl, (by repeat (first | (with_reducible exact Below.refl _ _) | (with_reducible refine balloc ?_ _) | (with_reducible refine Below.drew ?_) | (with_reducible refine bdrewN ?_ _) | ((with_reducible refine bset ?_ ?_ _); rotate_left; focus (first | (with_reducible exact Nat.le_refl _) | (simp; done) | (simp; omega) | omega)) | (with_reducible refine bstep (by with_reducible assumption) ?_)))⟩
  have hm0 : ¬ (m = 0) := hm
  by_cases hl : lv < 0
  · have h1 := Hnm.out
    have h2 := Hdn.out
    rw [if_neg hm, if_pos hl] at h1 h2
    subst h1
    subst h2
    have hl' : q.l * m < q.t * dk := by have := HLV.out; omega
    clear Hnm Hdn hm hl w3 w4
    go_enter Tryz.func87, Tryz.ntmps87
    go_wp2_with fail
    refine (rsat_q q.c _ Hm _ HC.out).mono ?_
    rintro e w5 ⟨rfl, hb5⟩
    have kR5 : Bk w5 (w.heap.size) 90 #[.int .i64 q.c.r, .int .i64 q.c.g, .int .i64 q.c.b] := (by repeat (first | (with_reducible assumption) | ((with_reducible refine Bk.new _ _ _ ?_); first | (with_reducible rfl) | (simp; done)) | (with_reducible refine Bk.alloc ?_ _) | (with_reducible refine Bk.drew ?_) | (with_reducible refine Bk.drewN ?_ _) | ((with_reducible refine Bk.far ?_ ?_ _); rotate_left; focus (first | (simp; done) | (simp; omega))) | (with_reducible refine Bk.below ?_ (by with_reducible assumption)))); obtain ⟨kcR5, kfR5, kaR5, kgR5, klR5⟩ := kR5.rules
    go_wp2_with fail
    clear kcR5 kfR5 kaR5 kgR5
    refine wp_region_gob 7 [(0, true), (2, true), (1, false), (3, false), (4, true), (5, true), (6, true)] (by kernel_rfl) (by kernel_rfl) (fun c a d v w h => by cases d <;> exact h) ?_
    repeat (refine wpGo_pure (v := ?_) rfl rfl (fun w' hS => ?_) ?_; rotate_left; (· have kRp : Bk w' (w.heap.size) 90 #[.int .i64 q.c.r, .int .i64 q.c.g, .int .i64 q.c.b] := (by repeat (first | (with_reducible assumption) | ((with_reducible refine Bk.new _ _ _ ?_); first | (with_reducible rfl) | (simp; done)) | (with_reducible refine Bk.alloc ?_ _) | (with_reducible refine Bk.drew ?_) | (with_reducible refine Bk.drewN ?_ _) | ((with_reducible refine Bk.far ?_ ?_ _); rotate_left; focus (first | (simp; done) | (simp; omega))) | (with_reducible refine Bk.below ?_ (by with_reducible assumption)))); obtain ⟨kcRp, kfRp, kaRp, kgRp, klRp⟩ := kRp.rules; go_simp; exact rfl); (try simp only [Act.put, List.setIfInBounds_toArray, List.set_cons_zero, List.set_cons_succ]))
    refine wpGo_eff rfl (fun K hK => ?_)
    go_simp
    refine (rlum_q q.c lu Hlu _ HC.out).mono ?_
    rintro e w6 ⟨rfl, hb6⟩
    refine hK.out _ _ (by repeat (first | (with_reducible exact Below.refl _ _) | (with_reducible refine balloc ?_ _) | (with_reducible refine Below.drew ?_) | (with_reducible refine bdrewN ?_ _) | ((with_reducible refine bset ?_ ?_ _); rotate_left; focus (first | (with_reducible exact Nat.le_refl _) | (simp; done) | (simp; omega) | omega)) | (with_reducible refine bstep (by with_reducible assumption) ?_))) (fun hS6 => ?_)
    clear hK K
    refine wpGo_eff rfl (fun K hK => ?_)
    go_simp
    refine (rlow_q q.c lo Hlo _).mono ?_
    rintro e w7 ⟨rfl, hb7⟩
    refine hK.out _ _ (by repeat (first | (with_reducible exact Below.refl _ _) | (with_reducible refine balloc ?_ _) | (with_reducible refine Below.drew ?_) | (with_reducible refine bdrewN ?_ _) | ((with_reducible refine bset ?_ ?_ _); rotate_left; focus (first | (with_reducible exact Nat.le_refl _) | (simp; done) | (simp; omega) | omega)) | (with_reducible refine bstep (by with_reducible assumption) ?_))) (fun hS7 => ?_)
    clear hK K
    repeat (refine wpGo_pure (v := ?_) rfl rfl (fun w' hS => ?_) ?_; rotate_left; (· have kRp : Bk w' (w.heap.size) 90 #[.int .i64 q.c.r, .int .i64 q.c.g, .int .i64 q.c.b] := (by repeat (first | (with_reducible assumption) | ((with_reducible refine Bk.new _ _ _ ?_); first | (with_reducible rfl) | (simp; done)) | (with_reducible refine Bk.alloc ?_ _) | (with_reducible refine Bk.drew ?_) | (with_reducible refine Bk.drewN ?_ _) | ((with_reducible refine Bk.far ?_ ?_ _); rotate_left; focus (first | (simp; done) | (simp; omega))) | (with_reducible refine Bk.below ?_ (by with_reducible assumption)))); obtain ⟨kcRp, kfRp, kaRp, kgRp, klRp⟩ := kRp.rules; go_simp; exact rfl); (try simp only [Act.put, List.setIfInBounds_toArray, List.set_cons_zero, List.set_cons_succ]))
    refine wpGo_nil ?_
    simp only [List.drop_succ_cons, List.drop_zero]
    have kR7 : Bk w7 (w.heap.size) 90 #[.int .i64 q.c.r, .int .i64 q.c.g, .int .i64 q.c.b] := (by repeat (first | (with_reducible assumption) | ((with_reducible refine Bk.new _ _ _ ?_); first | (with_reducible rfl) | (simp; done)) | (with_reducible refine Bk.alloc ?_ _) | (with_reducible refine Bk.drew ?_) | (with_reducible refine Bk.drewN ?_ _) | ((with_reducible refine Bk.far ?_ ?_ _); rotate_left; focus (first | (simp; done) | (simp; omega))) | (with_reducible refine Bk.below ?_ (by with_reducible assumption)))); obtain ⟨kcR7, kfR7, kaR7, kgR7, klR7⟩ := kR7.rules
    clear w1 w2
    go_wp2_with fail
    refine (rlow_q q.c lo Hlo _).mono ?_
    rintro e w8 ⟨rfl, hb8⟩
    go_wp2
    go_ret2
    exact ⟨rfl, (by repeat (first | (with_reducible exact Below.refl _ _) | (with_reducible refine balloc ?_ _) | (with_reducible refine Below.drew ?_) | (with_reducible refine bdrewN ?_ _) | ((with_reducible refine bset ?_ ?_ _); rotate_left; focus (first | (with_reducible exact Nat.le_refl _) | (simp; done) | (simp; omega) | omega)) | (with_reducible refine bstep (by with_reducible assumption) ?_)))⟩
  have hl' : ¬ (q.l * m < q.t * dk) := by have := HLV.out; omega
  by_cases hb : 100 * q.a * m < 100 * m * q.t + lv
  · have h1 := Hnm.out
    have h2 := Hdn.out
    rw [if_neg hm, if_neg hl, if_pos hb] at h1 h2
    subst h1
    subst h2
    have hb' : 100 * q.a * m < 100 * m * q.t + q.l * m - q.t * dk := by have := HLV.out; omega
    clear Hnm Hdn hm hl hb
    go_enter Tryz.func87, Tryz.ntmps87
    go_wp2_with fail
    refine (rsat_q q.c _ Hm _ HC.out).mono ?_
    rintro e w5 ⟨rfl, hb5⟩
    have kR5 : Bk w5 (w.heap.size) 90 #[.int .i64 q.c.r, .int .i64 q.c.g, .int .i64 q.c.b] := (by repeat (first | (with_reducible assumption) | ((with_reducible refine Bk.new _ _ _ ?_); first | (with_reducible rfl) | (simp; done)) | (with_reducible refine Bk.alloc ?_ _) | (with_reducible refine Bk.drew ?_) | (with_reducible refine Bk.drewN ?_ _) | ((with_reducible refine Bk.far ?_ ?_ _); rotate_left; focus (first | (simp; done) | (simp; omega))) | (with_reducible refine Bk.below ?_ (by with_reducible assumption)))); obtain ⟨kcR5, kfR5, kaR5, kgR5, klR5⟩ := kR5.rules
    go_wp2_with fail
    clear kcR5 kfR5 kaR5 kgR5
    refine wp_region_gob 7 [(0, true), (2, true), (1, false), (3, false), (4, true), (5, true), (6, true)] (by kernel_rfl) (by kernel_rfl) (fun c a d v w h => by cases d <;> exact h) ?_
    repeat (refine wpGo_pure (v := ?_) rfl rfl (fun w' hS => ?_) ?_; rotate_left; (· have kRp : Bk w' (w.heap.size) 90 #[.int .i64 q.c.r, .int .i64 q.c.g, .int .i64 q.c.b] := (by repeat (first | (with_reducible assumption) | ((with_reducible refine Bk.new _ _ _ ?_); first | (with_reducible rfl) | (simp; done)) | (with_reducible refine Bk.alloc ?_ _) | (with_reducible refine Bk.drew ?_) | (with_reducible refine Bk.drewN ?_ _) | ((with_reducible refine Bk.far ?_ ?_ _); rotate_left; focus (first | (simp; done) | (simp; omega))) | (with_reducible refine Bk.below ?_ (by with_reducible assumption)))); obtain ⟨kcRp, kfRp, kaRp, kgRp, klRp⟩ := kRp.rules; go_simp; exact rfl); (try simp only [Act.put, List.setIfInBounds_toArray, List.set_cons_zero, List.set_cons_succ]))
    refine wpGo_eff rfl (fun K hK => ?_)
    go_simp
    refine (rlum_q q.c lu Hlu _ HC.out).mono ?_
    rintro e w6 ⟨rfl, hb6⟩
    refine hK.out _ _ (by repeat (first | (with_reducible exact Below.refl _ _) | (with_reducible refine balloc ?_ _) | (with_reducible refine Below.drew ?_) | (with_reducible refine bdrewN ?_ _) | ((with_reducible refine bset ?_ ?_ _); rotate_left; focus (first | (with_reducible exact Nat.le_refl _) | (simp; done) | (simp; omega) | omega)) | (with_reducible refine bstep (by with_reducible assumption) ?_))) (fun hS6 => ?_)
    clear hK K
    refine wpGo_eff rfl (fun K hK => ?_)
    go_simp
    refine (rlow_q q.c lo Hlo _).mono ?_
    rintro e w7 ⟨rfl, hb7⟩
    refine hK.out _ _ (by repeat (first | (with_reducible exact Below.refl _ _) | (with_reducible refine balloc ?_ _) | (with_reducible refine Below.drew ?_) | (with_reducible refine bdrewN ?_ _) | ((with_reducible refine bset ?_ ?_ _); rotate_left; focus (first | (with_reducible exact Nat.le_refl _) | (simp; done) | (simp; omega) | omega)) | (with_reducible refine bstep (by with_reducible assumption) ?_))) (fun hS7 => ?_)
    clear hK K
    repeat (refine wpGo_pure (v := ?_) rfl rfl (fun w' hS => ?_) ?_; rotate_left; (· have kRp : Bk w' (w.heap.size) 90 #[.int .i64 q.c.r, .int .i64 q.c.g, .int .i64 q.c.b] := (by repeat (first | (with_reducible assumption) | ((with_reducible refine Bk.new _ _ _ ?_); first | (with_reducible rfl) | (simp; done)) | (with_reducible refine Bk.alloc ?_ _) | (with_reducible refine Bk.drew ?_) | (with_reducible refine Bk.drewN ?_ _) | ((with_reducible refine Bk.far ?_ ?_ _); rotate_left; focus (first | (simp; done) | (simp; omega))) | (with_reducible refine Bk.below ?_ (by with_reducible assumption)))); obtain ⟨kcRp, kfRp, kaRp, kgRp, klRp⟩ := kRp.rules; go_simp; exact rfl); (try simp only [Act.put, List.setIfInBounds_toArray, List.set_cons_zero, List.set_cons_succ]))
    refine wpGo_nil ?_
    simp only [List.drop_succ_cons, List.drop_zero]
    have kR7 : Bk w7 (w.heap.size) 90 #[.int .i64 q.c.r, .int .i64 q.c.g, .int .i64 q.c.b] := (by repeat (first | (with_reducible assumption) | ((with_reducible refine Bk.new _ _ _ ?_); first | (with_reducible rfl) | (simp; done)) | (with_reducible refine Bk.alloc ?_ _) | (with_reducible refine Bk.drew ?_) | (with_reducible refine Bk.drewN ?_ _) | ((with_reducible refine Bk.far ?_ ?_ _); rotate_left; focus (first | (simp; done) | (simp; omega))) | (with_reducible refine Bk.below ?_ (by with_reducible assumption)))); obtain ⟨kcR7, kfR7, kaR7, kgR7, klR7⟩ := kR7.rules
    clear w1 w2
    go_wp2_with fail
    clear kcR7 kfR7 kaR7 kgR7
    refine wp_region_gob 7 [(0, true), (3, true), (1, false), (2, true), (4, false), (5, true), (6, true)] (by kernel_rfl) (by kernel_rfl) (fun c a d v w h => by cases d <;> exact h) ?_
    repeat (refine wpGo_pure (v := ?_) rfl rfl (fun w' hS => ?_) ?_; rotate_left; (· have kRp : Bk w' (w.heap.size) 90 #[.int .i64 q.c.r, .int .i64 q.c.g, .int .i64 q.c.b] := (by repeat (first | (with_reducible assumption) | ((with_reducible refine Bk.new _ _ _ ?_); first | (with_reducible rfl) | (simp; done)) | (with_reducible refine Bk.alloc ?_ _) | (with_reducible refine Bk.drew ?_) | (with_reducible refine Bk.drewN ?_ _) | ((with_reducible refine Bk.far ?_ ?_ _); rotate_left; focus (first | (simp; done) | (simp; omega))) | (with_reducible refine Bk.below ?_ (by with_reducible assumption)))); obtain ⟨kcRp, kfRp, kaRp, kgRp, klRp⟩ := kRp.rules; go_simp; exact rfl); (try simp only [Act.put, List.setIfInBounds_toArray, List.set_cons_zero, List.set_cons_succ]))
    refine wpGo_eff rfl (fun K hK => ?_)
    go_simp
    refine (rhigh_q q.c hi Hhi _).mono ?_
    rintro e w8 ⟨rfl, hb8⟩
    refine hK.out _ _ (by repeat (first | (with_reducible exact Below.refl _ _) | (with_reducible refine balloc ?_ _) | (with_reducible refine Below.drew ?_) | (with_reducible refine bdrewN ?_ _) | ((with_reducible refine bset ?_ ?_ _); rotate_left; focus (first | (with_reducible exact Nat.le_refl _) | (simp; done) | (simp; omega) | omega)) | (with_reducible refine bstep (by with_reducible assumption) ?_))) (fun hS8 => ?_)
    clear hK K
    repeat (refine wpGo_pure (v := ?_) rfl rfl (fun w' hS => ?_) ?_; rotate_left; (· have kRp : Bk w' (w.heap.size) 90 #[.int .i64 q.c.r, .int .i64 q.c.g, .int .i64 q.c.b] := (by repeat (first | (with_reducible assumption) | ((with_reducible refine Bk.new _ _ _ ?_); first | (with_reducible rfl) | (simp; done)) | (with_reducible refine Bk.alloc ?_ _) | (with_reducible refine Bk.drew ?_) | (with_reducible refine Bk.drewN ?_ _) | ((with_reducible refine Bk.far ?_ ?_ _); rotate_left; focus (first | (simp; done) | (simp; omega))) | (with_reducible refine Bk.below ?_ (by with_reducible assumption)))); obtain ⟨kcRp, kfRp, kaRp, kgRp, klRp⟩ := kRp.rules; go_simp; exact rfl); (try simp only [Act.put, List.setIfInBounds_toArray, List.set_cons_zero, List.set_cons_succ]))
    refine wpGo_eff rfl (fun K hK => ?_)
    go_simp
    refine (rlum_q q.c lu Hlu _ HC.out).mono ?_
    rintro e w9 ⟨rfl, hb9⟩
    refine hK.out _ _ (by repeat (first | (with_reducible exact Below.refl _ _) | (with_reducible refine balloc ?_ _) | (with_reducible refine Below.drew ?_) | (with_reducible refine bdrewN ?_ _) | ((with_reducible refine bset ?_ ?_ _); rotate_left; focus (first | (with_reducible exact Nat.le_refl _) | (simp; done) | (simp; omega) | omega)) | (with_reducible refine bstep (by with_reducible assumption) ?_))) (fun hS9 => ?_)
    clear hK K
    repeat (refine wpGo_pure (v := ?_) rfl rfl (fun w' hS => ?_) ?_; rotate_left; (· have kRp : Bk w' (w.heap.size) 90 #[.int .i64 q.c.r, .int .i64 q.c.g, .int .i64 q.c.b] := (by repeat (first | (with_reducible assumption) | ((with_reducible refine Bk.new _ _ _ ?_); first | (with_reducible rfl) | (simp; done)) | (with_reducible refine Bk.alloc ?_ _) | (with_reducible refine Bk.drew ?_) | (with_reducible refine Bk.drewN ?_ _) | ((with_reducible refine Bk.far ?_ ?_ _); rotate_left; focus (first | (simp; done) | (simp; omega))) | (with_reducible refine Bk.below ?_ (by with_reducible assumption)))); obtain ⟨kcRp, kfRp, kaRp, kgRp, klRp⟩ := kRp.rules; go_simp; exact rfl); (try simp only [Act.put, List.setIfInBounds_toArray, List.set_cons_zero, List.set_cons_succ]))
    refine wpGo_nil ?_
    simp only [List.drop_succ_cons, List.drop_zero]
    have kR9 : Bk w9 (w.heap.size) 90 #[.int .i64 q.c.r, .int .i64 q.c.g, .int .i64 q.c.b] := (by repeat (first | (with_reducible assumption) | ((with_reducible refine Bk.new _ _ _ ?_); first | (with_reducible rfl) | (simp; done)) | (with_reducible refine Bk.alloc ?_ _) | (with_reducible refine Bk.drew ?_) | (with_reducible refine Bk.drewN ?_ _) | ((with_reducible refine Bk.far ?_ ?_ _); rotate_left; focus (first | (simp; done) | (simp; omega))) | (with_reducible refine Bk.below ?_ (by with_reducible assumption)))); obtain ⟨kcR9, kfR9, kaR9, kgR9, klR9⟩ := kR9.rules
    clear w3 w4
    go_wp2_with fail
    refine (rhigh_q q.c hi Hhi _).mono ?_
    rintro e w10 ⟨rfl, hb10⟩
    go_wp2
    go_ret2
    exact ⟨rfl, (by repeat (first | (with_reducible exact Below.refl _ _) | (with_reducible refine balloc ?_ _) | (with_reducible refine Below.drew ?_) | (with_reducible refine bdrewN ?_ _) | ((with_reducible refine bset ?_ ?_ _); rotate_left; focus (first | (with_reducible exact Nat.le_refl _) | (simp; done) | (simp; omega) | omega)) | (with_reducible refine bstep (by with_reducible assumption) ?_)))⟩
  · have h1 := Hnm.out
    have h2 := Hdn.out
    rw [if_neg hm, if_neg hl, if_neg hb] at h1 h2
    have hN : nm = 100 * (x - lo) * q.t + q.l * m - q.t * dk := by have := HLV.out; omega
    subst h2
    subst hN
    have hb' : ¬ (100 * q.a * m < 100 * m * q.t + q.l * m - q.t * dk) := by have := HLV.out; omega
    clear Hnm Hdn hm hl hb h1 w3 w4
    go_enter Tryz.func87, Tryz.ntmps87
    go_wp2_with fail
    refine (rsat_q q.c _ Hm _ HC.out).mono ?_
    rintro e w5 ⟨rfl, hb5⟩
    have kR5 : Bk w5 (w.heap.size) 90 #[.int .i64 q.c.r, .int .i64 q.c.g, .int .i64 q.c.b] := (by repeat (first | (with_reducible assumption) | ((with_reducible refine Bk.new _ _ _ ?_); first | (with_reducible rfl) | (simp; done)) | (with_reducible refine Bk.alloc ?_ _) | (with_reducible refine Bk.drew ?_) | (with_reducible refine Bk.drewN ?_ _) | ((with_reducible refine Bk.far ?_ ?_ _); rotate_left; focus (first | (simp; done) | (simp; omega))) | (with_reducible refine Bk.below ?_ (by with_reducible assumption)))); obtain ⟨kcR5, kfR5, kaR5, kgR5, klR5⟩ := kR5.rules
    go_wp2_with fail
    clear kcR5 kfR5 kaR5 kgR5
    refine wp_region_gob 7 [(0, true), (2, true), (1, false), (3, false), (4, true), (5, true), (6, true)] (by kernel_rfl) (by kernel_rfl) (fun c a d v w h => by cases d <;> exact h) ?_
    repeat (refine wpGo_pure (v := ?_) rfl rfl (fun w' hS => ?_) ?_; rotate_left; (· have kRp : Bk w' (w.heap.size) 90 #[.int .i64 q.c.r, .int .i64 q.c.g, .int .i64 q.c.b] := (by repeat (first | (with_reducible assumption) | ((with_reducible refine Bk.new _ _ _ ?_); first | (with_reducible rfl) | (simp; done)) | (with_reducible refine Bk.alloc ?_ _) | (with_reducible refine Bk.drew ?_) | (with_reducible refine Bk.drewN ?_ _) | ((with_reducible refine Bk.far ?_ ?_ _); rotate_left; focus (first | (simp; done) | (simp; omega))) | (with_reducible refine Bk.below ?_ (by with_reducible assumption)))); obtain ⟨kcRp, kfRp, kaRp, kgRp, klRp⟩ := kRp.rules; go_simp; exact rfl); (try simp only [Act.put, List.setIfInBounds_toArray, List.set_cons_zero, List.set_cons_succ]))
    refine wpGo_eff rfl (fun K hK => ?_)
    go_simp
    refine (rlum_q q.c lu Hlu _ HC.out).mono ?_
    rintro e w6 ⟨rfl, hb6⟩
    refine hK.out _ _ (by repeat (first | (with_reducible exact Below.refl _ _) | (with_reducible refine balloc ?_ _) | (with_reducible refine Below.drew ?_) | (with_reducible refine bdrewN ?_ _) | ((with_reducible refine bset ?_ ?_ _); rotate_left; focus (first | (with_reducible exact Nat.le_refl _) | (simp; done) | (simp; omega) | omega)) | (with_reducible refine bstep (by with_reducible assumption) ?_))) (fun hS6 => ?_)
    clear hK K
    refine wpGo_eff rfl (fun K hK => ?_)
    go_simp
    refine (rlow_q q.c lo Hlo _).mono ?_
    rintro e w7 ⟨rfl, hb7⟩
    refine hK.out _ _ (by repeat (first | (with_reducible exact Below.refl _ _) | (with_reducible refine balloc ?_ _) | (with_reducible refine Below.drew ?_) | (with_reducible refine bdrewN ?_ _) | ((with_reducible refine bset ?_ ?_ _); rotate_left; focus (first | (with_reducible exact Nat.le_refl _) | (simp; done) | (simp; omega) | omega)) | (with_reducible refine bstep (by with_reducible assumption) ?_))) (fun hS7 => ?_)
    clear hK K
    repeat (refine wpGo_pure (v := ?_) rfl rfl (fun w' hS => ?_) ?_; rotate_left; (· have kRp : Bk w' (w.heap.size) 90 #[.int .i64 q.c.r, .int .i64 q.c.g, .int .i64 q.c.b] := (by repeat (first | (with_reducible assumption) | ((with_reducible refine Bk.new _ _ _ ?_); first | (with_reducible rfl) | (simp; done)) | (with_reducible refine Bk.alloc ?_ _) | (with_reducible refine Bk.drew ?_) | (with_reducible refine Bk.drewN ?_ _) | ((with_reducible refine Bk.far ?_ ?_ _); rotate_left; focus (first | (simp; done) | (simp; omega))) | (with_reducible refine Bk.below ?_ (by with_reducible assumption)))); obtain ⟨kcRp, kfRp, kaRp, kgRp, klRp⟩ := kRp.rules; go_simp; exact rfl); (try simp only [Act.put, List.setIfInBounds_toArray, List.set_cons_zero, List.set_cons_succ]))
    refine wpGo_nil ?_
    simp only [List.drop_succ_cons, List.drop_zero]
    have kR7 : Bk w7 (w.heap.size) 90 #[.int .i64 q.c.r, .int .i64 q.c.g, .int .i64 q.c.b] := (by repeat (first | (with_reducible assumption) | ((with_reducible refine Bk.new _ _ _ ?_); first | (with_reducible rfl) | (simp; done)) | (with_reducible refine Bk.alloc ?_ _) | (with_reducible refine Bk.drew ?_) | (with_reducible refine Bk.drewN ?_ _) | ((with_reducible refine Bk.far ?_ ?_ _); rotate_left; focus (first | (simp; done) | (simp; omega))) | (with_reducible refine Bk.below ?_ (by with_reducible assumption)))); obtain ⟨kcR7, kfR7, kaR7, kgR7, klR7⟩ := kR7.rules
    clear w1 w2
    go_wp2_with fail
    refine (rlow_q q.c lo Hlo _).mono ?_
    rintro e w8 ⟨rfl, hb8⟩
    go_wp2
    go_ret2
    exact ⟨rfl, (by repeat (first | (with_reducible exact Below.refl _ _) | (with_reducible refine balloc ?_ _) | (with_reducible refine Below.drew ?_) | (with_reducible refine bdrewN ?_ _) | ((with_reducible refine bset ?_ ?_ _); rotate_left; focus (first | (with_reducible exact Nat.le_refl _) | (simp; done) | (simp; omega) | omega)) | (with_reducible refine bstep (by with_reducible assumption) ?_)))⟩
theorem chan_rnd (q : Rcp) (base x : Int) : q.chan base x = rndP (base * q.den + q.num x) (255 * q.den) := by
  unfold Rcp.chan rndP
  rw [show 510 * q.den = 2 * (255 * q.den) by omega]
set_option maxHeartbeats 1600000 in
theorem rmixed_any (q : Rcp) (base x : Int) (w : World) (hf : q.fit) (ha : q.a ≤ 65025) (hx0 : q.c.low ≤ x) (hx1 : x ≤ q.c.high) (h0 : 0 ≤ base) (h1 : base + q.a ≤ 65025) :
    Calls Tryz.prog 88 #[.int .i64 base, .int .i64 (q.num x), .int .i64 q.den] w fun e w' => e = .returned (.int .u8 (q.chan base x)) ∧ Below w.heap.size w w' := by
  obtain ⟨k1, k2, k3, k4⟩ := hf.kinds hx0 hx1
  have hap : 0 ≤ q.a := by have := hf.r0; have := hf.r1; omega
  obtain ⟨v, Hv⟩ : ∃ v, Hid (q.chan base x = v) := ⟨_, rfl⟩
  rw [Hv.out]
  have Hr : Hid (rndP (base * q.den + q.num x) (255 * q.den) = v) := by unfold Hid; rw [← chan_rnd, Hv.out]
  generalize q.num x = nm at *
  generalize q.den = dn at *
  have m1 := mul_le (x := base) (y := dn) (a := 65025) (b := 6502600) h0 (by omega) (by omega) (by omega)
  have m2 : base * dn + nm ≤ 65025 * dn := by
    have := Int.mul_le_mul_of_nonneg_right h1 (show 0 ≤ dn by omega)
    rw [Int.add_mul] at this
    omega
  have hs0 : 0 ≤ base * dn + nm := by omega
  have hvb : 0 ≤ v ∧ v ≤ 255 := by
    rw [← Hr.out]
    refine ⟨?_, ?_⟩
    · unfold rndP; exact Int.ediv_nonneg (by omega) (by omega)
    · unfold rndP
      have : (2 * (base * dn + nm) + 255 * dn) / (2 * (255 * dn)) < 256 := by
        rw [Int.ediv_lt_iff_lt_mul (by omega)]
        omega
      omega
  have hx2 : base * dn + nm < 4611686018427387904 := by omega
  have HC := Lib.hid (rdivround_q (base * dn + nm) (255 * dn) · hs0 hx2 (by omega) (by omega) v Hr (by omega))
  have hnb : nm ≤ 500000000000 := by omega
  clear hs0 hx2 m2 k4
  go_enter Tryz.func88, Tryz.ntmps88
  go_wp2_with fail
  refine (HC.out _).mono ?_
  rintro e w1 ⟨rfl, hb1⟩
  go_wp2
  go_ret
  exact ⟨ret_int (by omega), hb1⟩
end Go.Proofs.YtnefnnhnjmmebaaGreat
