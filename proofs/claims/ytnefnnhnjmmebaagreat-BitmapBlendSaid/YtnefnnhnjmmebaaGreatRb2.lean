/-
  The walk of grisailleref28.whole.
-/
import Derived.Test.YtnefnnhnjmmebaaGreatRb1
import Derived.Test.YtnefnnhnjmmebaaGreatBlA
import Derived.Test.YtnefnnhnjmmebaaGreatPlC
namespace Go.Proofs.YtnefnnhnjmmebaaGreat
open Go.RowKit
set_option linter.unusedSimpArgs false
set_option linter.unusedVariables false

theorem rfrac_q (q : Rcp) (x nm dn : Int) (Hn : Hid (q.num x = nm)) (Hd : Hid (q.den = dn)) (w : World) (hf : q.fit) (ha : q.a ≤ 65025) (hx0 : q.c.low ≤ x) (hx1 : x ≤ q.c.high) :
    Calls Tryz.prog 87 #[.int .i64 x, .agg #[.int .i64 q.c.r, .int .i64 q.c.g, .int .i64 q.c.b], .int .i64 q.t, .int .i64 q.l, .int .i64 q.a] w fun e w' =>
      e = .returned (.tuple #[.int .i64 nm, .int .i64 dn]) ∧ Below w.heap.size w w' := by
  rw [← Hn.out, ← Hd.out]; exact rfrac_any q x w hf ha hx0 hx1
theorem rmixed_q (q : Rcp) (base x nm dn v : Int) (Hn : Hid (q.num x = nm)) (Hd : Hid (q.den = dn)) (Hv : Hid (q.chan base x = v)) (w : World) (hf : q.fit) (ha : q.a ≤ 65025) (hx0 : q.c.low ≤ x) (hx1 : x ≤ q.c.high) (h0 : 0 ≤ base) (h1 : base + q.a ≤ 65025) :
    Calls Tryz.prog 88 #[.int .i64 base, .int .i64 nm, .int .i64 dn] w fun e w' => e = .returned (.int .u8 v) ∧ Below w.heap.size w w' := by
  rw [← Hn.out, ← Hd.out, ← Hv.out]; exact rmixed_any q base x w hf ha hx0 hx1 h0 h1
theorem rdivn8_q (x : Int) (w : World) (h0 : 0 ≤ x) (h1 : x ≤ 4294967295) :
    Calls Tryz.prog 73 #[.int .i64 x] w fun e w' => e = .returned (.int .u8 (dn8 x)) ∧ Below w.heap.size w w' := by
  refine (rdivnorm_any x w (by omega) h1).mono ?_
  rintro e w' ⟨he, rfl⟩
  exact ⟨he, Below.refl _ _⟩
set_option maxRecDepth 100000 in
set_option maxHeartbeats 12800000 in
theorem rwhole_any (mode : Int) (s d : Px) (w : World) (hs : s.ok) (hd : d.ok) (hm : mode = 10 ∨ mode = 11 ∨ mode = 12 ∨ mode = 13) (P : Px) (HP : Hid (wholeBlend mode s d = P)) :
    Calls Tryz.prog 71 #[.int .i64 mode, .agg #[.int .u8 s.r, .int .u8 s.g, .int .u8 s.b, .int .u8 s.a], .agg #[.int .u8 d.r, .int .u8 d.g, .int .u8 d.b, .int .u8 d.a]] w fun e w' =>
      e = .returned (.agg #[.int .u8 P.r, .int .u8 P.g, .int .u8 P.b, .int .u8 P.a]) ∧ Below w.heap.size w w' := by
  have hfit := recipe_fit mode hs hd
  have hE := HP.out
  unfold wholeBlend at hE
  have HI1 := Lib.hid (scaled_inR hs hd)
  have HI2 := Lib.hid (scaled_inR hd hs)
  obtain ⟨cs, Hcs⟩ : ∃ q, Hid (scaledP s d.a = q) := ⟨_, rfl⟩
  obtain ⟨cd, Hcd⟩ : ∃ q, Hid (scaledP d s.a = q) := ⟨_, rfl⟩
  obtain ⟨a, Ha⟩ : ∃ q, Hid (s.a * d.a = q) := ⟨_, rfl⟩
  rw [Hcs.out] at HI1
  rw [Hcd.out] at HI2
  rw [Hcs.out, Hcd.out, Ha.out] at hfit
  simp only [Hcs.out, Hcd.out, Ha.out] at hE
  have hsb := Lib.hid hs.byte
  have hdb := Lib.hid hd.byte
  obtain ⟨B1, HB1⟩ : ∃ q, Hid (baseP s.r d.r s.a d.a = q) := ⟨_, rfl⟩
  obtain ⟨B2, HB2⟩ : ∃ q, Hid (baseP s.g d.g s.a d.a = q) := ⟨_, rfl⟩
  obtain ⟨B3, HB3⟩ : ∃ q, Hid (baseP s.b d.b s.a d.a = q) := ⟨_, rfl⟩
  have z1 := base_bd hs.r0 hs.r1 hs.a1 hd.r0 hd.r1 hd.a1
  have z2 := base_bd hs.g0 hs.g1 hs.a1 hd.g0 hd.g1 hd.a1
  have z3 := base_bd hs.b0 hs.b1 hs.a1 hd.b0 hd.b1 hd.a1
  rw [HB1.out, Ha.out] at z1
  rw [HB2.out, Ha.out] at z2
  rw [HB3.out, Ha.out] at z3
  rw [HB1.out, HB2.out, HB3.out] at hE
  obtain ⟨r0, r1, g0, g1, b0, b1, a0, a1⟩ := hs
  obtain ⟨r0', r1', g0', g1', b0', b1', a0', a1'⟩ := hd
  have eA0 := mul_byte a0 a1 a0' a1'
  rw [Ha.out] at eA0
  obtain ⟨n4, Hn4⟩ : ∃ n, Hid (s.a * (255 - d.a) + d.a * (255 - s.a) + s.a * d.a = n) := ⟨_, rfl⟩
  have hal : alphaP s.a d.a = dn8 n4 := by unfold alphaP; rw [Hn4.out]
  rw [hal] at hE
  have u1 := mul_byte (x := s.a) (y := 255 - d.a) a0 a1 (by omega) (by omega)
  have u2 := mul_byte (x := d.a) (y := 255 - s.a) a0' a1' (by omega) (by omega)
  have hn4 : 0 ≤ n4 ∧ n4 ≤ 200000 := by have h1 := Hn4.out; rw [Ha.out] at h1; omega
  have v1 := mul_byte (x := s.r) (y := 255 - d.a) r0 (by omega) (by omega) (by omega)
  have v2 := mul_byte (x := d.r) (y := 255 - s.a) r0' (by omega) (by omega) (by omega)
  have v3 := mul_byte (x := s.g) (y := 255 - d.a) g0 (by omega) (by omega) (by omega)
  have v4 := mul_byte (x := d.g) (y := 255 - s.a) g0' (by omega) (by omega) (by omega)
  have v5 := mul_byte (x := s.b) (y := 255 - d.a) b0 (by omega) (by omega) (by omega)
  have v6 := mul_byte (x := d.b) (y := 255 - s.a) b0' (by omega) (by omega) (by omega)
  have ea : s.a * d.a = a := Ha.out
  have HW1 : Hid (IntKind.i64.wrap s.r = s.r ∧ IntKind.i64.wrap s.g = s.g ∧ IntKind.i64.wrap s.b = s.b ∧ IntKind.i64.wrap s.a = s.a ∧ IntKind.i64.wrap d.r = d.r ∧ IntKind.i64.wrap d.g = d.g ∧ IntKind.i64.wrap d.b = d.b ∧ IntKind.i64.wrap d.a = d.a) :=
    ⟨IntWalk.i64_in _ (by omega), IntWalk.i64_in _ (by omega), IntWalk.i64_in _ (by omega), IntWalk.i64_in _ (by omega), IntWalk.i64_in _ (by omega), IntWalk.i64_in _ (by omega), IntWalk.i64_in _ (by omega), IntWalk.i64_in _ (by omega)⟩
  have HW2 : Hid (IntKind.i64.wrap (255 - d.a) = 255 - d.a ∧ IntKind.i64.wrap (255 - s.a) = 255 - s.a ∧ IntKind.i64.wrap (s.a * (255 - d.a)) = s.a * (255 - d.a) ∧ IntKind.i64.wrap (d.a * (255 - s.a)) = d.a * (255 - s.a) ∧
      IntKind.i64.wrap (s.a * (255 - d.a) + d.a * (255 - s.a)) = s.a * (255 - d.a) + d.a * (255 - s.a) ∧ IntKind.i64.wrap a = a ∧ IntKind.i64.wrap (s.a * (255 - d.a) + d.a * (255 - s.a) + a) = n4) :=
    ⟨IntWalk.i64_in _ (by omega), IntWalk.i64_in _ (by omega), IntWalk.i64_in _ (by omega), IntWalk.i64_in _ (by omega), IntWalk.i64_in _ (by omega), IntWalk.i64_in _ (by omega), by rw [← Ha.out, Hn4.out]; exact IntWalk.i64_in _ (by omega)⟩
  have HW3 : Hid (IntKind.i64.wrap (s.r * (255 - d.a)) = s.r * (255 - d.a) ∧ IntKind.i64.wrap (d.r * (255 - s.a)) = d.r * (255 - s.a) ∧ IntKind.i64.wrap (s.r * (255 - d.a) + d.r * (255 - s.a)) = B1) :=
    ⟨IntWalk.i64_in _ (by omega), IntWalk.i64_in _ (by omega), by rw [show s.r * (255 - d.a) + d.r * (255 - s.a) = B1 from HB1.out]; exact IntWalk.i64_in _ (by omega)⟩
  have HW4 : Hid (IntKind.i64.wrap (s.g * (255 - d.a)) = s.g * (255 - d.a) ∧ IntKind.i64.wrap (d.g * (255 - s.a)) = d.g * (255 - s.a) ∧ IntKind.i64.wrap (s.g * (255 - d.a) + d.g * (255 - s.a)) = B2) :=
    ⟨IntWalk.i64_in _ (by omega), IntWalk.i64_in _ (by omega), by rw [show s.g * (255 - d.a) + d.g * (255 - s.a) = B2 from HB2.out]; exact IntWalk.i64_in _ (by omega)⟩
  have HW5 : Hid (IntKind.i64.wrap (s.b * (255 - d.a)) = s.b * (255 - d.a) ∧ IntKind.i64.wrap (d.b * (255 - s.a)) = d.b * (255 - s.a) ∧ IntKind.i64.wrap (s.b * (255 - d.a) + d.b * (255 - s.a)) = B3) :=
    ⟨IntWalk.i64_in _ (by omega), IntWalk.i64_in _ (by omega), by rw [show s.b * (255 - d.a) + d.b * (255 - s.a) = B3 from HB3.out]; exact IntWalk.i64_in _ (by omega)⟩
  have HB := Lib.hid hn4
  have HZ := Lib.hid (And.intro z1 (And.intro z2 z3))
  have HEA := Lib.hid ea
  obtain ⟨ss, Hss⟩ : ∃ q, Hid (cs.sat = q) := ⟨_, rfl⟩
  obtain ⟨ds, Hds⟩ : ∃ q, Hid (cd.sat = q) := ⟨_, rfl⟩
  obtain ⟨sl, Hsl⟩ : ∃ q, Hid (cs.lum = q) := ⟨_, rfl⟩
  obtain ⟨dl, Hdl⟩ : ∃ q, Hid (cd.lum = q) := ⟨_, rfl⟩
  have HFIT := Lib.hid hfit
  have HEE := Lib.hid hE
  clear HP hal hE hfit z1 z2 z3 hn4 u1 u2 v1 v2 v3 v4 v5 v6 ea
  go_enter Tryz.func71, Tryz.ntmps71
  go_wp2_with fail
  obtain ⟨f1, f2, f3, f4, f5, f6, f7, f8⟩ := HW1.out
  refine wp_region_gob 8 [(0, true), (1, true), (2, true), (3, true), (4, true), (5, true), (6, true), (7, true)] (by kernel_rfl) (by kernel_rfl) (fun c a d v w h => by cases d <;> exact h) ?_
  repeat (refine wpGo_pure (v := ?_) rfl rfl (fun w' hS => ?_) ?_; rotate_left; (· have kSp : Bk w' (w.heap.size) 45 #[.int .u8 s.r, .int .u8 s.g, .int .u8 s.b, .int .u8 s.a] := (by repeat (first | (with_reducible assumption) | ((with_reducible refine Bk.new _ _ _ ?_); first | (with_reducible rfl) | (simp; done)) | (with_reducible refine Bk.alloc ?_ _) | (with_reducible refine Bk.drew ?_) | (with_reducible refine Bk.drewN ?_ _) | ((with_reducible refine Bk.far ?_ ?_ _); rotate_left; focus (first | (simp; done) | (simp; omega))) | (with_reducible refine Bk.below ?_ (by with_reducible assumption)))); obtain ⟨kcSp, kfSp, kaSp, kgSp, klSp⟩ := kSp.rules; have kDp : Bk w' (w.heap.size + 1) 45 #[.int .u8 d.r, .int .u8 d.g, .int .u8 d.b, .int .u8 d.a] := (by repeat (first | (with_reducible assumption) | ((with_reducible refine Bk.new _ _ _ ?_); first | (with_reducible rfl) | (simp; done)) | (with_reducible refine Bk.alloc ?_ _) | (with_reducible refine Bk.drew ?_) | (with_reducible refine Bk.drewN ?_ _) | ((with_reducible refine Bk.far ?_ ?_ _); rotate_left; focus (first | (simp; done) | (simp; omega))) | (with_reducible refine Bk.below ?_ (by with_reducible assumption)))); obtain ⟨kcDp, kfDp, kaDp, kgDp, klDp⟩ := kDp.rules; go_simp; exact rfl); (try simp only [Act.put, List.setIfInBounds_toArray, List.set_cons_zero, List.set_cons_succ]))
  refine wpGo_nil ?_
  simp only [List.drop_succ_cons, List.drop_zero]
  clear f1 f2 f3 f4 f5 f6 f7 f8
  go_wp2_with fail
  refine wp_region_mixs 10 [0, 1, 3, 4] [2, 5] [6, 7] [8, 9] (fun _ => 90) (fun _ => #[.int .i64 0, .int .i64 0, .int .i64 0]) (by kernel_rfl) (by kernel_rfl) (fun c a d v w h => by cases d <;> exact h) (fun c a d v w h => by cases d <;> exact h) (fun j hj => by simp only [List.mem_cons, List.not_mem_nil, or_false] at hj; rcases hj with rfl | rfl <;> exact ⟨_, rfl, rfl, fun a w => by go_simp; rfl⟩) ?_
  simp only [List.map_cons, List.map_nil]
  repeat (refine wpGo_pure (v := ?_) rfl rfl (fun w' hS => ?_) ?_; rotate_left; (· have kSp : Bk w' (w.heap.size) 45 #[.int .u8 s.r, .int .u8 s.g, .int .u8 s.b, .int .u8 s.a] := (by repeat (first | (with_reducible assumption) | ((with_reducible refine Bk.new _ _ _ ?_); first | (with_reducible rfl) | (simp; done)) | (with_reducible refine Bk.alloc ?_ _) | (with_reducible refine Bk.drew ?_) | (with_reducible refine Bk.drewN ?_ _) | ((with_reducible refine Bk.far ?_ ?_ _); rotate_left; focus (first | (simp; done) | (simp; omega))) | (with_reducible refine Bk.below ?_ (by with_reducible assumption)))); obtain ⟨kcSp, kfSp, kaSp, kgSp, klSp⟩ := kSp.rules; have kDp : Bk w' (w.heap.size + 1) 45 #[.int .u8 d.r, .int .u8 d.g, .int .u8 d.b, .int .u8 d.a] := (by repeat (first | (with_reducible assumption) | ((with_reducible refine Bk.new _ _ _ ?_); first | (with_reducible rfl) | (simp; done)) | (with_reducible refine Bk.alloc ?_ _) | (with_reducible refine Bk.drew ?_) | (with_reducible refine Bk.drewN ?_ _) | ((with_reducible refine Bk.far ?_ ?_ _); rotate_left; focus (first | (simp; done) | (simp; omega))) | (with_reducible refine Bk.below ?_ (by with_reducible assumption)))); obtain ⟨kcDp, kfDp, kaDp, kgDp, klDp⟩ := kDp.rules; go_simp; exact rfl); (try simp only [Act.put, List.setIfInBounds_toArray, List.set_cons_zero, List.set_cons_succ]))
  refine wpGo_nil ?_
  refine wpMix_call rfl (fun w1a hb1a K hK => ?_)
  go_simp
  refine (rtimes_q s d.a cs Hcs _ hsb.out a0' a1').mono ?_
  rintro e w1 ⟨rfl, hb1⟩
  refine hK.out _ _ hb1 (fun _ => ?_)
  clear hK K
  refine wpMix_call rfl (fun w2a hb2a K hK => ?_)
  go_simp
  refine (rtimes_q d s.a cd Hcd _ hdb.out a0 a1).mono ?_
  rintro e w2 ⟨rfl, hb2⟩
  refine hK.out _ _ hb2 (fun _ => ?_)
  clear hK K
  refine wpMix_end (fun β w3 hb3 hbk hne => ?_)
  obtain ⟨k6, l6⟩ := hbk 6 (by simp)
  obtain ⟨k7, l7⟩ := hbk 7 (by simp)
  have ne67 := hne 6 (by simp) 7 (by simp) (by decide)
  clear hbk hne
  simp only [putAll, dstOf, ptrTo, List.foldl_cons, List.foldl_nil, List.getElem?_toArray, List.getElem?_cons_succ, List.getElem?_cons_zero, Option.bind_some, Act.put, List.setIfInBounds_toArray, List.set_cons_zero, List.set_cons_succ, List.drop_succ_cons, List.drop_zero]
  generalize β 6 = b6 at *
  generalize β 7 = b7 at *
  clear β
  have l6' : w.heap.size + 1 + 1 + 1 ≤ b6 := by simpa using l6
  have l7' : w.heap.size + 1 + 1 + 1 ≤ b7 := by simpa using l7
  clear l6 l7
  have kS3 : Bk w3 (w.heap.size) 45 #[.int .u8 s.r, .int .u8 s.g, .int .u8 s.b, .int .u8 s.a] := (by repeat (first | (with_reducible assumption) | ((with_reducible refine Bk.new _ _ _ ?_); first | (with_reducible rfl) | (simp; done)) | (with_reducible refine Bk.alloc ?_ _) | (with_reducible refine Bk.drew ?_) | (with_reducible refine Bk.drewN ?_ _) | ((with_reducible refine Bk.far ?_ ?_ _); rotate_left; focus (first | (simp; done) | (simp; omega))) | (with_reducible refine Bk.below ?_ (by with_reducible assumption)))); obtain ⟨kcS3, kfS3, kaS3, kgS3, klS3⟩ := kS3.rules; have kD3 : Bk w3 (w.heap.size + 1) 45 #[.int .u8 d.r, .int .u8 d.g, .int .u8 d.b, .int .u8 d.a] := (by repeat (first | (with_reducible assumption) | ((with_reducible refine Bk.new _ _ _ ?_); first | (with_reducible rfl) | (simp; done)) | (with_reducible refine Bk.alloc ?_ _) | (with_reducible refine Bk.drew ?_) | (with_reducible refine Bk.drewN ?_ _) | ((with_reducible refine Bk.far ?_ ?_ _); rotate_left; focus (first | (simp; done) | (simp; omega))) | (with_reducible refine Bk.below ?_ (by with_reducible assumption)))); obtain ⟨kcD3, kfD3, kaD3, kgD3, klD3⟩ := kD3.rules; have kO3 : Bk w3 (w.heap.size + 1 + 1) 45 #[.int .u8 0, .int .u8 0, .int .u8 0, .int .u8 0] := (by repeat (first | (with_reducible assumption) | ((with_reducible refine Bk.new _ _ _ ?_); first | (with_reducible rfl) | (simp; done)) | (with_reducible refine Bk.alloc ?_ _) | (with_reducible refine Bk.drew ?_) | (with_reducible refine Bk.drewN ?_ _) | ((with_reducible refine Bk.far ?_ ?_ _); rotate_left; focus (first | (simp; done) | (simp; omega))) | (with_reducible refine Bk.below ?_ (by with_reducible assumption)))); obtain ⟨kcO3, kfO3, kaO3, kgO3, klO3⟩ := kO3.rules
  clear kcS3 kfS3 kaS3 kgS3 kcD3 kfD3 kaD3 kgD3 kcO3 kfO3 kaO3 kgO3
  obtain ⟨kc6, kf6, ka6, kg6, kl6⟩ := k6.rules
  obtain ⟨kc7, kf7, ka7, kg7, kl7⟩ := k7.rules
  refine wpGo_eff rfl (fun K hK => ?_)
  go_simp
  refine hK.out _ _ (by repeat (first | (with_reducible exact Below.refl _ _) | (with_reducible refine balloc ?_ _) | (with_reducible refine Below.drew ?_) | (with_reducible refine bdrewN ?_ _) | ((with_reducible refine bset ?_ ?_ _); rotate_left; focus (first | (with_reducible exact Nat.le_refl _) | (simp; done) | (simp; omega) | omega)) | (with_reducible refine bstep (by with_reducible assumption) ?_))) (fun hS4 => ?_)
  clear hK K
  refine wpGo_eff rfl (fun K hK => ?_)
  go_simp
  refine hK.out _ _ (by repeat (first | (with_reducible exact Below.refl _ _) | (with_reducible refine balloc ?_ _) | (with_reducible refine Below.drew ?_) | (with_reducible refine bdrewN ?_ _) | ((with_reducible refine bset ?_ ?_ _); rotate_left; focus (first | (with_reducible exact Nat.le_refl _) | (simp; done) | (simp; omega) | omega)) | (with_reducible refine bstep (by with_reducible assumption) ?_))) (fun hS5 => ?_)
  clear hK K
  refine wpGo_nil ?_
  have jS : Bk _ (w.heap.size) 45 #[.int .u8 s.r, .int .u8 s.g, .int .u8 s.b, .int .u8 s.a] := ((((((kS3.far (p := ⟨b6, 0, none⟩) (by simp; omega) (.int .i64 cs.r)).far (p := ⟨b6, 1, none⟩) (by simp; omega) (.int .i64 cs.g)).far (p := ⟨b6, 2, none⟩) (by simp; omega) (.int .i64 cs.b)).far (p := ⟨b7, 0, none⟩) (by simp; omega) (.int .i64 cd.r)).far (p := ⟨b7, 1, none⟩) (by simp; omega) (.int .i64 cd.g)).far (p := ⟨b7, 2, none⟩) (by simp; omega) (.int .i64 cd.b))
  have jD : Bk _ (w.heap.size + 1) 45 #[.int .u8 d.r, .int .u8 d.g, .int .u8 d.b, .int .u8 d.a] := ((((((kD3.far (p := ⟨b6, 0, none⟩) (by simp; omega) (.int .i64 cs.r)).far (p := ⟨b6, 1, none⟩) (by simp; omega) (.int .i64 cs.g)).far (p := ⟨b6, 2, none⟩) (by simp; omega) (.int .i64 cs.b)).far (p := ⟨b7, 0, none⟩) (by simp; omega) (.int .i64 cd.r)).far (p := ⟨b7, 1, none⟩) (by simp; omega) (.int .i64 cd.g)).far (p := ⟨b7, 2, none⟩) (by simp; omega) (.int .i64 cd.b))
  have jO : Bk _ (w.heap.size + 1 + 1) 45 #[.int .u8 0, .int .u8 0, .int .u8 0, .int .u8 0] := ((((((kO3.far (p := ⟨b6, 0, none⟩) (by simp; omega) (.int .i64 cs.r)).far (p := ⟨b6, 1, none⟩) (by simp; omega) (.int .i64 cs.g)).far (p := ⟨b6, 2, none⟩) (by simp; omega) (.int .i64 cs.b)).far (p := ⟨b7, 0, none⟩) (by simp; omega) (.int .i64 cd.r)).far (p := ⟨b7, 1, none⟩) (by simp; omega) (.int .i64 cd.g)).far (p := ⟨b7, 2, none⟩) (by simp; omega) (.int .i64 cd.b))
  have j6 : Bk _ b6 90 #[.int .i64 cs.r, .int .i64 cs.g, .int .i64 cs.b] := ((((((k6.set 0 (.int .i64 cs.r)).set 1 (.int .i64 cs.g)).set 2 (.int .i64 cs.b)).far (p := ⟨b7, 0, none⟩) ne67 (.int .i64 cd.r)).far (p := ⟨b7, 1, none⟩) ne67 (.int .i64 cd.g)).far (p := ⟨b7, 2, none⟩) ne67 (.int .i64 cd.b))
  have j7 : Bk _ b7 90 #[.int .i64 cd.r, .int .i64 cd.g, .int .i64 cd.b] := ((((((k7.far (p := ⟨b6, 0, none⟩) ne67.symm (.int .i64 cs.r)).far (p := ⟨b6, 1, none⟩) ne67.symm (.int .i64 cs.g)).far (p := ⟨b6, 2, none⟩) ne67.symm (.int .i64 cs.b)).set 0 (.int .i64 cd.r)).set 1 (.int .i64 cd.g)).set 2 (.int .i64 cd.b))
  have hW0 : Below w.heap.size w w3 := (by repeat (first | (with_reducible exact Below.refl _ _) | (with_reducible refine balloc ?_ _) | (with_reducible refine Below.drew ?_) | (with_reducible refine bdrewN ?_ _) | ((with_reducible refine bset ?_ ?_ _); rotate_left; focus (first | (with_reducible exact Nat.le_refl _) | (simp; done) | (simp; omega) | omega)) | (with_reducible refine bstep (by with_reducible assumption) ?_)))
  have hV := (bset (bset (bset (bset (bset (bset hW0 (p := ⟨b6, 0, none⟩) (by show _ ≤ b6; omega) (.int .i64 cs.r)) (p := ⟨b6, 1, none⟩) (by show _ ≤ b6; omega) (.int .i64 cs.g)) (p := ⟨b6, 2, none⟩) (by show _ ≤ b6; omega) (.int .i64 cs.b)) (p := ⟨b7, 0, none⟩) (by show _ ≤ b7; omega) (.int .i64 cd.r)) (p := ⟨b7, 1, none⟩) (by show _ ≤ b7; omega) (.int .i64 cd.g)) (p := ⟨b7, 2, none⟩) (by show _ ≤ b7; omega) (.int .i64 cd.b))
  obtain ⟨kx, kxf, kxa, kxg, kxl⟩ := j6.rules
  obtain ⟨ky, kyf, kya, kyg, kyl⟩ := j7.rules
  go_wp2_with fail
  generalize ((((((w3.setCell ⟨b6, 0, none⟩ (.int .i64 cs.r)).setCell ⟨b6, 1, none⟩ (.int .i64 cs.g)).setCell ⟨b6, 2, none⟩ (.int .i64 cs.b)).setCell ⟨b7, 0, none⟩ (.int .i64 cd.r)).setCell ⟨b7, 1, none⟩ (.int .i64 cd.g)).setCell ⟨b7, 2, none⟩ (.int .i64 cd.b)) = w9 at hV jS jD jO j6 j7 ⊢
  clear k6 k7 kS3 kD3 kO3 kc6 kf6 ka6 kg6 kl6 kc7 kf7 ka7 kg7 kl7 hS4 hS5 hW0 hb1a hb1 hb2a hb2 hb3 klS3 klD3 klO3 kx kxf kxa kxg kxl ky kyf kya kyg kyl
  refine wp_region_mix 6 [0, 1, 3] [2, 4] [5] (fun _ => 90) (fun _ => #[.int .i64 0, .int .i64 0, .int .i64 0]) (by kernel_rfl) (by kernel_rfl) (fun c a d v w h => by cases d <;> exact h) (fun c a d v w h => by cases d <;> exact h) (fun j hj => by simp only [List.mem_cons, List.not_mem_nil, or_false] at hj; rcases hj with rfl <;> exact ⟨_, rfl, rfl, fun a w => by go_simp; rfl⟩) ?_
  simp only [List.map_cons, List.map_nil]
  repeat (refine wpGo_pure (v := ?_) rfl rfl (fun w' hS => ?_) ?_; rotate_left; (· have kEp : Bk w' (b6) 90 #[.int .i64 cs.r, .int .i64 cs.g, .int .i64 cs.b] := (by repeat (first | (with_reducible assumption) | ((with_reducible refine Bk.new _ _ _ ?_); first | (with_reducible rfl) | (simp; done)) | (with_reducible refine Bk.alloc ?_ _) | (with_reducible refine Bk.drew ?_) | (with_reducible refine Bk.drewN ?_ _) | ((with_reducible refine Bk.far ?_ ?_ _); rotate_left; focus (first | (simp; done) | (simp; omega))) | (with_reducible refine Bk.below ?_ (by with_reducible assumption)))); obtain ⟨kcEp, kfEp, kaEp, kgEp, klEp⟩ := kEp.rules; have kFp : Bk w' (b7) 90 #[.int .i64 cd.r, .int .i64 cd.g, .int .i64 cd.b] := (by repeat (first | (with_reducible assumption) | ((with_reducible refine Bk.new _ _ _ ?_); first | (with_reducible rfl) | (simp; done)) | (with_reducible refine Bk.alloc ?_ _) | (with_reducible refine Bk.drew ?_) | (with_reducible refine Bk.drewN ?_ _) | ((with_reducible refine Bk.far ?_ ?_ _); rotate_left; focus (first | (simp; done) | (simp; omega))) | (with_reducible refine Bk.below ?_ (by with_reducible assumption)))); obtain ⟨kcFp, kfFp, kaFp, kgFp, klFp⟩ := kFp.rules; go_simp; exact rfl); (try simp only [Act.put, List.setIfInBounds_toArray, List.set_cons_zero, List.set_cons_succ]))
  refine wpGo_nil ?_
  refine wpMix_call rfl (fun w10a hb10a K hK => ?_)
  go_simp
  refine (rsat_q cd ds Hds _ HI2.out).mono ?_
  rintro e w10 ⟨rfl, hb10⟩
  refine hK.out _ _ hb10 (fun _ => ?_)
  clear hK K
  refine wpMix_call rfl (fun w11a hb11a K hK => ?_)
  go_simp
  refine (rlum_q cd dl Hdl _ HI2.out).mono ?_
  rintro e w11 ⟨rfl, hb11⟩
  refine hK.out _ _ hb11 (fun _ => ?_)
  clear hK K
  refine wpMix_end (fun β w12 hb12 hbk hne => ?_)
  obtain ⟨k5, l5⟩ := hbk 5 (by simp)
  clear hbk hne
  simp only [putAll, dstOf, ptrTo, List.foldl_cons, List.foldl_nil, List.getElem?_toArray, List.getElem?_cons_succ, List.getElem?_cons_zero, Option.bind_some, Act.put, List.setIfInBounds_toArray, List.set_cons_zero, List.set_cons_succ, List.drop_succ_cons, List.drop_zero]
  generalize β 5 = b5 at *
  clear β
  have m6 : b6 < b5 := by have := j6.lt; omega
  have m7 : b7 < b5 := by have := j7.lt; omega
  have mO : w.heap.size + 1 + 1 < b5 := by have := jO.lt; omega
  have n5 := k5
  have n6 : Bk w12 b6 90 #[.int .i64 cs.r, .int .i64 cs.g, .int .i64 cs.b] := (by repeat (first | (with_reducible assumption) | ((with_reducible refine Bk.new _ _ _ ?_); first | (with_reducible rfl) | (simp; done)) | (with_reducible refine Bk.alloc ?_ _) | (with_reducible refine Bk.drew ?_) | (with_reducible refine Bk.drewN ?_ _) | ((with_reducible refine Bk.far ?_ ?_ _); rotate_left; focus (first | (simp; done) | (simp; omega))) | (with_reducible refine Bk.below ?_ (by with_reducible assumption))))
  have n7 : Bk w12 b7 90 #[.int .i64 cd.r, .int .i64 cd.g, .int .i64 cd.b] := (by repeat (first | (with_reducible assumption) | ((with_reducible refine Bk.new _ _ _ ?_); first | (with_reducible rfl) | (simp; done)) | (with_reducible refine Bk.alloc ?_ _) | (with_reducible refine Bk.drew ?_) | (with_reducible refine Bk.drewN ?_ _) | ((with_reducible refine Bk.far ?_ ?_ _); rotate_left; focus (first | (simp; done) | (simp; omega))) | (with_reducible refine Bk.below ?_ (by with_reducible assumption))))
  have nS : Bk w12 (w.heap.size) 45 #[.int .u8 s.r, .int .u8 s.g, .int .u8 s.b, .int .u8 s.a] := (by repeat (first | (with_reducible assumption) | ((with_reducible refine Bk.new _ _ _ ?_); first | (with_reducible rfl) | (simp; done)) | (with_reducible refine Bk.alloc ?_ _) | (with_reducible refine Bk.drew ?_) | (with_reducible refine Bk.drewN ?_ _) | ((with_reducible refine Bk.far ?_ ?_ _); rotate_left; focus (first | (simp; done) | (simp; omega))) | (with_reducible refine Bk.below ?_ (by with_reducible assumption))))
  have nD : Bk w12 (w.heap.size + 1) 45 #[.int .u8 d.r, .int .u8 d.g, .int .u8 d.b, .int .u8 d.a] := (by repeat (first | (with_reducible assumption) | ((with_reducible refine Bk.new _ _ _ ?_); first | (with_reducible rfl) | (simp; done)) | (with_reducible refine Bk.alloc ?_ _) | (with_reducible refine Bk.drew ?_) | (with_reducible refine Bk.drewN ?_ _) | ((with_reducible refine Bk.far ?_ ?_ _); rotate_left; focus (first | (simp; done) | (simp; omega))) | (with_reducible refine Bk.below ?_ (by with_reducible assumption))))
  have nO : Bk w12 (w.heap.size + 1 + 1) 45 #[.int .u8 0, .int .u8 0, .int .u8 0, .int .u8 0] := (by repeat (first | (with_reducible assumption) | ((with_reducible refine Bk.new _ _ _ ?_); first | (with_reducible rfl) | (simp; done)) | (with_reducible refine Bk.alloc ?_ _) | (with_reducible refine Bk.drew ?_) | (with_reducible refine Bk.drewN ?_ _) | ((with_reducible refine Bk.far ?_ ?_ _); rotate_left; focus (first | (simp; done) | (simp; omega))) | (with_reducible refine Bk.below ?_ (by with_reducible assumption))))
  have hV12 : Below w.heap.size w w12 := (by repeat (first | (with_reducible exact Below.refl _ _) | (with_reducible refine balloc ?_ _) | (with_reducible refine Below.drew ?_) | (with_reducible refine bdrewN ?_ _) | ((with_reducible refine bset ?_ ?_ _); rotate_left; focus (first | (with_reducible exact Nat.le_refl _) | (simp; done) | (simp; omega) | omega)) | (with_reducible refine bstep (by with_reducible assumption) ?_)))
  clear hb12 hb10 hb11 hb10a hb11a j6 j7 jS jD jO k5 l5 hV
  obtain ⟨kc5, kf5, ka5, kg5, kl5⟩ := n5.rules
  have p5 : Bk _ b5 90 #[.int .i64 cs.r, .int .i64 cs.g, .int .i64 cs.b] := (((n5.set 0 (.int .i64 cs.r)).set 1 (.int .i64 cs.g)).set 2 (.int .i64 cs.b))
  have p6 : Bk _ b6 90 #[.int .i64 cs.r, .int .i64 cs.g, .int .i64 cs.b] := (((n6.far (p := ⟨b5, 0, none⟩) (by simp; omega) (.int .i64 cs.r)).far (p := ⟨b5, 1, none⟩) (by simp; omega) (.int .i64 cs.g)).far (p := ⟨b5, 2, none⟩) (by simp; omega) (.int .i64 cs.b))
  have p7 : Bk _ b7 90 #[.int .i64 cd.r, .int .i64 cd.g, .int .i64 cd.b] := (((n7.far (p := ⟨b5, 0, none⟩) (by simp; omega) (.int .i64 cs.r)).far (p := ⟨b5, 1, none⟩) (by simp; omega) (.int .i64 cs.g)).far (p := ⟨b5, 2, none⟩) (by simp; omega) (.int .i64 cs.b))
  have pS : Bk _ (w.heap.size) 45 #[.int .u8 s.r, .int .u8 s.g, .int .u8 s.b, .int .u8 s.a] := (((nS.far (p := ⟨b5, 0, none⟩) (by simp; omega) (.int .i64 cs.r)).far (p := ⟨b5, 1, none⟩) (by simp; omega) (.int .i64 cs.g)).far (p := ⟨b5, 2, none⟩) (by simp; omega) (.int .i64 cs.b))
  have pD : Bk _ (w.heap.size + 1) 45 #[.int .u8 d.r, .int .u8 d.g, .int .u8 d.b, .int .u8 d.a] := (((nD.far (p := ⟨b5, 0, none⟩) (by simp; omega) (.int .i64 cs.r)).far (p := ⟨b5, 1, none⟩) (by simp; omega) (.int .i64 cs.g)).far (p := ⟨b5, 2, none⟩) (by simp; omega) (.int .i64 cs.b))
  have pO : Bk _ (w.heap.size + 1 + 1) 45 #[.int .u8 0, .int .u8 0, .int .u8 0, .int .u8 0] := (((nO.far (p := ⟨b5, 0, none⟩) (by simp; omega) (.int .i64 cs.r)).far (p := ⟨b5, 1, none⟩) (by simp; omega) (.int .i64 cs.g)).far (p := ⟨b5, 2, none⟩) (by simp; omega) (.int .i64 cs.b))
  have hV13 := (bset (bset (bset hV12 (p := ⟨b5, 0, none⟩) (by show _ ≤ b5; omega) (.int .i64 cs.r)) (p := ⟨b5, 1, none⟩) (by show _ ≤ b5; omega) (.int .i64 cs.g)) (p := ⟨b5, 2, none⟩) (by show _ ≤ b5; omega) (.int .i64 cs.b))
  clear n6 n7 nS nD nO
  rcases hm with rfl | rfl | rfl | rfl
  · skip
    obtain ⟨kcx, kfx, kax, kgx, klx⟩ := p6.rules
    obtain ⟨kcy, kfy, kay, kgy, kly⟩ := p7.rules
    obtain ⟨kcz, kfz, kaz, kgz, klz⟩ := p5.rules
    have hVV := hV13
    have gz := p5
    obtain ⟨q, hq⟩ : ∃ q : Rcp, q = ⟨cs, ds, dl, a⟩ := ⟨_, rfl⟩
    have hrec : recipeP 10 cs cd a = q := by rw [hq]; unfold recipeP; simp [Hss.out, Hds.out, Hsl.out, Hdl.out]
    have HFIT2 := HFIT
    have HEE2 := HEE
    rw [hrec] at HFIT2 HEE2
    have hqa : q.a ≤ 65025 := by rw [HFIT2.out.2]; exact eA0.2.1
    have HQA := Lib.hid hqa
    have HQB := Lib.hid HFIT2.out.2
    obtain ⟨lh1, lh2, lh3, lh4, lh5, lh6⟩ := low_high q.c
    have HLH := Lib.hid (And.intro lh1 (And.intro lh2 (And.intro lh3 (And.intro lh4 (And.intro lh5 lh6)))))
    obtain ⟨n1, Hn1⟩ : ∃ n, Hid (q.num q.c.r = n) := ⟨_, rfl⟩
    obtain ⟨n2, Hn2⟩ : ∃ n, Hid (q.num q.c.g = n) := ⟨_, rfl⟩
    obtain ⟨n3, Hn3⟩ : ∃ n, Hid (q.num q.c.b = n) := ⟨_, rfl⟩
    obtain ⟨dn, Hdn⟩ : ∃ n, Hid (q.den = n) := ⟨_, rfl⟩
    obtain ⟨c1, Hc1⟩ : ∃ n, Hid (q.chan B1 q.c.r = n) := ⟨_, rfl⟩
    obtain ⟨c2, Hc2⟩ : ∃ n, Hid (q.chan B2 q.c.g = n) := ⟨_, rfl⟩
    obtain ⟨c3, Hc3⟩ : ∃ n, Hid (q.chan B3 q.c.b = n) := ⟨_, rfl⟩
    have hP : (⟨c1, c2, c3, dn8 n4⟩ : Px) = P := by rw [← HEE2.out, Hc1.out, Hc2.out, Hc3.out]
    subst hP
    have HF1 := Lib.hid (fun w => rfrac_q q q.c.r n1 dn Hn1 Hdn w HFIT2.out.1 HQA.out HLH.out.1 HLH.out.2.2.2.1)
    have HF2 := Lib.hid (fun w => rfrac_q q q.c.g n2 dn Hn2 Hdn w HFIT2.out.1 HQA.out HLH.out.2.1 HLH.out.2.2.2.2.1)
    have HF3 := Lib.hid (fun w => rfrac_q q q.c.b n3 dn Hn3 Hdn w HFIT2.out.1 HQA.out HLH.out.2.2.1 HLH.out.2.2.2.2.2)
    have HM1 := Lib.hid (fun w => rmixed_q q B1 q.c.r n1 dn c1 Hn1 Hdn Hc1 w HFIT2.out.1 HQA.out HLH.out.1 HLH.out.2.2.2.1 HZ.out.1.1 (by rw [HQB.out]; exact HZ.out.1.2))
    have HM2 := Lib.hid (fun w => rmixed_q q B2 q.c.g n2 dn c2 Hn2 Hdn Hc2 w HFIT2.out.1 HQA.out HLH.out.2.1 HLH.out.2.2.2.2.1 HZ.out.2.1.1 (by rw [HQB.out]; exact HZ.out.2.1.2))
    have HM3 := Lib.hid (fun w => rmixed_q q B3 q.c.b n3 dn c3 Hn3 Hdn Hc3 w HFIT2.out.1 HQA.out HLH.out.2.2.1 HLH.out.2.2.2.2.2 HZ.out.2.2.1 (by rw [HQB.out]; exact HZ.out.2.2.2))
    subst hq
    clear hqa lh1 lh2 lh3 lh4 lh5 lh6 hrec
    have ea := HEA.out
    go_wp2_with fail
    generalize (((w12.setCell ⟨b5, 0, none⟩ (.int .i64 cs.r)).setCell ⟨b5, 1, none⟩ (.int .i64 cs.g)).setCell ⟨b5, 2, none⟩ (.int .i64 cs.b)) = w15 at p5 p6 p7 pS pD pO hV13 ⊢
    clear kcx kfx kax kgx klx kcy kfy kay kgy kly kcz kfz kaz kgz klz kc5 kf5 ka5 kg5 kl5 n5 gz hVV
    refine (HF1.out _).mono ?_
    rintro e w20 ⟨rfl, hb20⟩
    have kG20 : Bk w20 (b5) 90 #[.int .i64 cs.r, .int .i64 cs.g, .int .i64 cs.b] := (by repeat (first | (with_reducible assumption) | ((with_reducible refine Bk.new _ _ _ ?_); first | (with_reducible rfl) | (simp; done)) | (with_reducible refine Bk.alloc ?_ _) | (with_reducible refine Bk.drew ?_) | (with_reducible refine Bk.drewN ?_ _) | ((with_reducible refine Bk.far ?_ ?_ _); rotate_left; focus (first | (simp; done) | (simp; omega))) | (with_reducible refine Bk.below ?_ (by with_reducible assumption)))); obtain ⟨kcG20, kfG20, kaG20, kgG20, klG20⟩ := kG20.rules
    go_wp2_with fail
    clear kcG20 kfG20 kaG20 kgG20
    refine (HF2.out _).mono ?_
    rintro e w21 ⟨rfl, hb21⟩
    have kG21 : Bk w21 (b5) 90 #[.int .i64 cs.r, .int .i64 cs.g, .int .i64 cs.b] := (by repeat (first | (with_reducible assumption) | ((with_reducible refine Bk.new _ _ _ ?_); first | (with_reducible rfl) | (simp; done)) | (with_reducible refine Bk.alloc ?_ _) | (with_reducible refine Bk.drew ?_) | (with_reducible refine Bk.drewN ?_ _) | ((with_reducible refine Bk.far ?_ ?_ _); rotate_left; focus (first | (simp; done) | (simp; omega))) | (with_reducible refine Bk.below ?_ (by with_reducible assumption)))); obtain ⟨kcG21, kfG21, kaG21, kgG21, klG21⟩ := kG21.rules
    go_wp2_with fail
    clear kcG21 kfG21 kaG21 kgG21
    refine (HF3.out _).mono ?_
    rintro e w22 ⟨rfl, hb22⟩
    have kG22 : Bk w22 (b5) 90 #[.int .i64 cs.r, .int .i64 cs.g, .int .i64 cs.b] := (by repeat (first | (with_reducible assumption) | ((with_reducible refine Bk.new _ _ _ ?_); first | (with_reducible rfl) | (simp; done)) | (with_reducible refine Bk.alloc ?_ _) | (with_reducible refine Bk.drew ?_) | (with_reducible refine Bk.drewN ?_ _) | ((with_reducible refine Bk.far ?_ ?_ _); rotate_left; focus (first | (simp; done) | (simp; omega))) | (with_reducible refine Bk.below ?_ (by with_reducible assumption)))); obtain ⟨kcG22, kfG22, kaG22, kgG22, klG22⟩ := kG22.rules; have kS22 : Bk w22 (w.heap.size) 45 #[.int .u8 s.r, .int .u8 s.g, .int .u8 s.b, .int .u8 s.a] := (by repeat (first | (with_reducible assumption) | ((with_reducible refine Bk.new _ _ _ ?_); first | (with_reducible rfl) | (simp; done)) | (with_reducible refine Bk.alloc ?_ _) | (with_reducible refine Bk.drew ?_) | (with_reducible refine Bk.drewN ?_ _) | ((with_reducible refine Bk.far ?_ ?_ _); rotate_left; focus (first | (simp; done) | (simp; omega))) | (with_reducible refine Bk.below ?_ (by with_reducible assumption)))); obtain ⟨kcS22, kfS22, kaS22, kgS22, klS22⟩ := kS22.rules; have kD22 : Bk w22 (w.heap.size + 1) 45 #[.int .u8 d.r, .int .u8 d.g, .int .u8 d.b, .int .u8 d.a] := (by repeat (first | (with_reducible assumption) | ((with_reducible refine Bk.new _ _ _ ?_); first | (with_reducible rfl) | (simp; done)) | (with_reducible refine Bk.alloc ?_ _) | (with_reducible refine Bk.drew ?_) | (with_reducible refine Bk.drewN ?_ _) | ((with_reducible refine Bk.far ?_ ?_ _); rotate_left; focus (first | (simp; done) | (simp; omega))) | (with_reducible refine Bk.below ?_ (by with_reducible assumption)))); obtain ⟨kcD22, kfD22, kaD22, kgD22, klD22⟩ := kD22.rules; have kO22 : Bk w22 (w.heap.size + 1 + 1) 45 #[.int .u8 0, .int .u8 0, .int .u8 0, .int .u8 0] := (by repeat (first | (with_reducible assumption) | ((with_reducible refine Bk.new _ _ _ ?_); first | (with_reducible rfl) | (simp; done)) | (with_reducible refine Bk.alloc ?_ _) | (with_reducible refine Bk.drew ?_) | (with_reducible refine Bk.drewN ?_ _) | ((with_reducible refine Bk.far ?_ ?_ _); rotate_left; focus (first | (simp; done) | (simp; omega))) | (with_reducible refine Bk.below ?_ (by with_reducible assumption)))); obtain ⟨kcO22, kfO22, kaO22, kgO22, klO22⟩ := kO22.rules
    go_wp2_with fail
    clear kcG22 kfG22 kaG22 kgG22 kcS22 kfS22 kaS22 kgS22 kcD22 kfD22 kaD22 kgD22 kcO22 kfO22 kaO22 kgO22
    obtain ⟨f1, f2, f3, f4, f5, f6, f7, f8⟩ := HW1.out
    obtain ⟨x1, x2, x3, x4, x5, x6, x7⟩ := HW2.out
    obtain ⟨y1, y2, y3⟩ := HW3.out
    obtain ⟨y4, y5, y6⟩ := HW4.out
    obtain ⟨y7, y8, y9⟩ := HW5.out
    refine wp_region_gob 63 [(0, true), (1, true), (2, true), (3, true), (4, true), (5, true), (6, true), (7, true), (8, true), (9, true), (10, true), (11, true), (12, true), (13, true), (14, true), (16, true), (17, true), (18, true), (19, true), (20, true), (21, true), (22, true), (23, true), (24, true), (25, true), (26, true), (27, true), (28, true), (29, true), (30, true), (32, true), (33, true), (34, true), (35, true), (36, true), (37, true), (38, true), (39, true), (40, true), (41, true), (42, true), (43, true), (44, true), (45, true), (46, true), (48, true), (49, true), (50, true), (51, true), (52, true), (53, true), (54, true), (55, true), (56, true), (57, true), (58, true), (59, true), (60, true), (15, false), (31, false), (47, false), (61, false), (62, true)] (by kernel_rfl) (by kernel_rfl) (fun c a d v w h => by cases d <;> exact h) ?_
    repeat (refine wpGo_pure (v := ?_) rfl rfl (fun w' hS => ?_) ?_; rotate_left; (· have kSp : Bk w' (w.heap.size) 45 #[.int .u8 s.r, .int .u8 s.g, .int .u8 s.b, .int .u8 s.a] := (by repeat (first | (with_reducible assumption) | ((with_reducible refine Bk.new _ _ _ ?_); first | (with_reducible rfl) | (simp; done)) | (with_reducible refine Bk.alloc ?_ _) | (with_reducible refine Bk.drew ?_) | (with_reducible refine Bk.drewN ?_ _) | ((with_reducible refine Bk.far ?_ ?_ _); rotate_left; focus (first | (simp; done) | (simp; omega))) | (with_reducible refine Bk.below ?_ (by with_reducible assumption)))); obtain ⟨kcSp, kfSp, kaSp, kgSp, klSp⟩ := kSp.rules; have kDp : Bk w' (w.heap.size + 1) 45 #[.int .u8 d.r, .int .u8 d.g, .int .u8 d.b, .int .u8 d.a] := (by repeat (first | (with_reducible assumption) | ((with_reducible refine Bk.new _ _ _ ?_); first | (with_reducible rfl) | (simp; done)) | (with_reducible refine Bk.alloc ?_ _) | (with_reducible refine Bk.drew ?_) | (with_reducible refine Bk.drewN ?_ _) | ((with_reducible refine Bk.far ?_ ?_ _); rotate_left; focus (first | (simp; done) | (simp; omega))) | (with_reducible refine Bk.below ?_ (by with_reducible assumption)))); obtain ⟨kcDp, kfDp, kaDp, kgDp, klDp⟩ := kDp.rules; go_simp; exact rfl); (try simp only [Act.put, List.setIfInBounds_toArray, List.set_cons_zero, List.set_cons_succ]))
    clear f1 f2 f3 f4 f5 f6 f7 f8 x1 x2 x3 x4 x5 x6 x7 y1 y2 y3 y4 y5 y6 y7 y8 y9
    refine wpGo_eff rfl (fun K hK => ?_)
    go_simp
    refine (HM1.out _).mono ?_
    rintro e w23 ⟨rfl, hb23⟩
    refine hK.out _ _ (by repeat (first | (with_reducible exact Below.refl _ _) | (with_reducible refine balloc ?_ _) | (with_reducible refine Below.drew ?_) | (with_reducible refine bdrewN ?_ _) | ((with_reducible refine bset ?_ ?_ _); rotate_left; focus (first | (with_reducible exact Nat.le_refl _) | (simp; done) | (simp; omega) | omega)) | (with_reducible refine bstep (by with_reducible assumption) ?_))) (fun hS23 => ?_)
    clear hK K
    refine wpGo_eff rfl (fun K hK => ?_)
    go_simp
    refine (HM2.out _).mono ?_
    rintro e w24 ⟨rfl, hb24⟩
    refine hK.out _ _ (by repeat (first | (with_reducible exact Below.refl _ _) | (with_reducible refine balloc ?_ _) | (with_reducible refine Below.drew ?_) | (with_reducible refine bdrewN ?_ _) | ((with_reducible refine bset ?_ ?_ _); rotate_left; focus (first | (with_reducible exact Nat.le_refl _) | (simp; done) | (simp; omega) | omega)) | (with_reducible refine bstep (by with_reducible assumption) ?_))) (fun hS24 => ?_)
    clear hK K
    refine wpGo_eff rfl (fun K hK => ?_)
    go_simp
    refine (HM3.out _).mono ?_
    rintro e w25 ⟨rfl, hb25⟩
    refine hK.out _ _ (by repeat (first | (with_reducible exact Below.refl _ _) | (with_reducible refine balloc ?_ _) | (with_reducible refine Below.drew ?_) | (with_reducible refine bdrewN ?_ _) | ((with_reducible refine bset ?_ ?_ _); rotate_left; focus (first | (with_reducible exact Nat.le_refl _) | (simp; done) | (simp; omega) | omega)) | (with_reducible refine bstep (by with_reducible assumption) ?_))) (fun hS25 => ?_)
    clear hK K
    refine wpGo_eff rfl (fun K hK => ?_)
    go_simp
    refine (rdivn8_q n4 _ (by have := HB.out; omega) (by have := HB.out; omega)).mono ?_
    rintro e w26 ⟨rfl, hb26⟩
    refine hK.out _ _ (by repeat (first | (with_reducible exact Below.refl _ _) | (with_reducible refine balloc ?_ _) | (with_reducible refine Below.drew ?_) | (with_reducible refine bdrewN ?_ _) | ((with_reducible refine bset ?_ ?_ _); rotate_left; focus (first | (with_reducible exact Nat.le_refl _) | (simp; done) | (simp; omega) | omega)) | (with_reducible refine bstep (by with_reducible assumption) ?_))) (fun hS26 => ?_)
    clear hK K
    repeat (refine wpGo_pure (v := ?_) rfl rfl (fun w' hS => ?_) ?_; rotate_left; (· skip; go_simp; exact rfl); (try simp only [Act.put, List.setIfInBounds_toArray, List.set_cons_zero, List.set_cons_succ]))
    refine wpGo_nil ?_
    simp only [List.drop_succ_cons, List.drop_zero]
    have kO26 : Bk w26 (w.heap.size + 1 + 1) 45 #[.int .u8 0, .int .u8 0, .int .u8 0, .int .u8 0] := (by repeat (first | (with_reducible assumption) | ((with_reducible refine Bk.new _ _ _ ?_); first | (with_reducible rfl) | (simp; done)) | (with_reducible refine Bk.alloc ?_ _) | (with_reducible refine Bk.drew ?_) | (with_reducible refine Bk.drewN ?_ _) | ((with_reducible refine Bk.far ?_ ?_ _); rotate_left; focus (first | (simp; done) | (simp; omega))) | (with_reducible refine Bk.below ?_ (by with_reducible assumption)))); obtain ⟨kcO26, kfO26, kaO26, kgO26, klO26⟩ := kO26.rules
    have hZ : Below w.heap.size w w26 := (by repeat (first | (with_reducible exact Below.refl _ _) | (with_reducible refine balloc ?_ _) | (with_reducible refine Below.drew ?_) | (with_reducible refine bdrewN ?_ _) | ((with_reducible refine bset ?_ ?_ _); rotate_left; focus (first | (with_reducible exact Nat.le_refl _) | (simp; done) | (simp; omega) | omega)) | (with_reducible refine bstep (by with_reducible assumption) ?_)))
    go_wp2
    refine bodyPost_ret (v := _) ?_ rfl ⟨rfl, (by repeat (first | (with_reducible exact Below.refl _ _) | (with_reducible refine balloc ?_ _) | (with_reducible refine Below.drew ?_) | (with_reducible refine bdrewN ?_ _) | ((with_reducible refine bset ?_ ?_ _); rotate_left; focus (first | (with_reducible exact Nat.le_refl _) | (simp; done) | (simp; omega) | omega)) | (with_reducible refine bstep (by with_reducible assumption) ?_)))⟩
    simp [results, Tryz.results71, go_sem, kcO26]
  · skip
    have r5 : Bk _ b5 90 #[.int .i64 cd.r, .int .i64 cd.g, .int .i64 cd.b] := (((p5.set 0 (.int .i64 cd.r)).set 1 (.int .i64 cd.g)).set 2 (.int .i64 cd.b))
    have r6 : Bk _ b6 90 #[.int .i64 cs.r, .int .i64 cs.g, .int .i64 cs.b] := (((p6.far (p := ⟨b5, 0, none⟩) (by simp; omega) (.int .i64 cd.r)).far (p := ⟨b5, 1, none⟩) (by simp; omega) (.int .i64 cd.g)).far (p := ⟨b5, 2, none⟩) (by simp; omega) (.int .i64 cd.b))
    have r7 : Bk _ b7 90 #[.int .i64 cd.r, .int .i64 cd.g, .int .i64 cd.b] := (((p7.far (p := ⟨b5, 0, none⟩) (by simp; omega) (.int .i64 cd.r)).far (p := ⟨b5, 1, none⟩) (by simp; omega) (.int .i64 cd.g)).far (p := ⟨b5, 2, none⟩) (by simp; omega) (.int .i64 cd.b))
    have rS : Bk _ (w.heap.size) 45 #[.int .u8 s.r, .int .u8 s.g, .int .u8 s.b, .int .u8 s.a] := (((pS.far (p := ⟨b5, 0, none⟩) (by simp; omega) (.int .i64 cd.r)).far (p := ⟨b5, 1, none⟩) (by simp; omega) (.int .i64 cd.g)).far (p := ⟨b5, 2, none⟩) (by simp; omega) (.int .i64 cd.b))
    have rD : Bk _ (w.heap.size + 1) 45 #[.int .u8 d.r, .int .u8 d.g, .int .u8 d.b, .int .u8 d.a] := (((pD.far (p := ⟨b5, 0, none⟩) (by simp; omega) (.int .i64 cd.r)).far (p := ⟨b5, 1, none⟩) (by simp; omega) (.int .i64 cd.g)).far (p := ⟨b5, 2, none⟩) (by simp; omega) (.int .i64 cd.b))
    have rO : Bk _ (w.heap.size + 1 + 1) 45 #[.int .u8 0, .int .u8 0, .int .u8 0, .int .u8 0] := (((pO.far (p := ⟨b5, 0, none⟩) (by simp; omega) (.int .i64 cd.r)).far (p := ⟨b5, 1, none⟩) (by simp; omega) (.int .i64 cd.g)).far (p := ⟨b5, 2, none⟩) (by simp; omega) (.int .i64 cd.b))
    have hV14 := (bset (bset (bset hV13 (p := ⟨b5, 0, none⟩) (by show _ ≤ b5; omega) (.int .i64 cd.r)) (p := ⟨b5, 1, none⟩) (by show _ ≤ b5; omega) (.int .i64 cd.g)) (p := ⟨b5, 2, none⟩) (by show _ ≤ b5; omega) (.int .i64 cd.b))
    obtain ⟨kcx, kfx, kax, kgx, klx⟩ := p6.rules
    obtain ⟨kcy, kfy, kay, kgy, kly⟩ := p7.rules
    obtain ⟨kcz, kfz, kaz, kgz, klz⟩ := p5.rules
    obtain ⟨kcu, kfu, kau, kgu, klu⟩ := r6.rules
    go_wp2_with fail
    generalize ((((((w12.setCell ⟨b5, 0, none⟩ (.int .i64 cs.r)).setCell ⟨b5, 1, none⟩ (.int .i64 cs.g)).setCell ⟨b5, 2, none⟩ (.int .i64 cs.b)).setCell ⟨b5, 0, none⟩ (.int .i64 cd.r)).setCell ⟨b5, 1, none⟩ (.int .i64 cd.g)).setCell ⟨b5, 2, none⟩ (.int .i64 cd.b)) = w14 at r5 r6 r7 rS rD rO hV14 ⊢
    clear kcx kfx kax kgx klx kcy kfy kay kgy kly kcz kfz kaz kgz klz kcu kfu kau kgu klu p5 p6 p7 pS pD pO kc5 kf5 ka5 kg5 kl5 n5
    refine (rsat_q cs ss Hss _ HI1.out).mono ?_
    rintro e w15 ⟨rfl, hb15⟩
    have kG1115 : Bk w15 (b5) 90 #[.int .i64 cd.r, .int .i64 cd.g, .int .i64 cd.b] := (by repeat (first | (with_reducible assumption) | ((with_reducible refine Bk.new _ _ _ ?_); first | (with_reducible rfl) | (simp; done)) | (with_reducible refine Bk.alloc ?_ _) | (with_reducible refine Bk.drew ?_) | (with_reducible refine Bk.drewN ?_ _) | ((with_reducible refine Bk.far ?_ ?_ _); rotate_left; focus (first | (simp; done) | (simp; omega))) | (with_reducible refine Bk.below ?_ (by with_reducible assumption)))); obtain ⟨kcG1115, kfG1115, kaG1115, kgG1115, klG1115⟩ := kG1115.rules
    have hV16 := Lib.hid (show Below w.heap.size w w15 from bstep hb15 hV14)
    obtain ⟨q, hq⟩ : ∃ q : Rcp, q = ⟨cd, ss, dl, a⟩ := ⟨_, rfl⟩
    have hrec : recipeP 11 cs cd a = q := by rw [hq]; unfold recipeP; simp [Hss.out, Hds.out, Hsl.out, Hdl.out]
    have HFIT2 := HFIT
    have HEE2 := HEE
    rw [hrec] at HFIT2 HEE2
    have hqa : q.a ≤ 65025 := by rw [HFIT2.out.2]; exact eA0.2.1
    have HQA := Lib.hid hqa
    have HQB := Lib.hid HFIT2.out.2
    obtain ⟨lh1, lh2, lh3, lh4, lh5, lh6⟩ := low_high q.c
    have HLH := Lib.hid (And.intro lh1 (And.intro lh2 (And.intro lh3 (And.intro lh4 (And.intro lh5 lh6)))))
    obtain ⟨n1, Hn1⟩ : ∃ n, Hid (q.num q.c.r = n) := ⟨_, rfl⟩
    obtain ⟨n2, Hn2⟩ : ∃ n, Hid (q.num q.c.g = n) := ⟨_, rfl⟩
    obtain ⟨n3, Hn3⟩ : ∃ n, Hid (q.num q.c.b = n) := ⟨_, rfl⟩
    obtain ⟨dn, Hdn⟩ : ∃ n, Hid (q.den = n) := ⟨_, rfl⟩
    obtain ⟨c1, Hc1⟩ : ∃ n, Hid (q.chan B1 q.c.r = n) := ⟨_, rfl⟩
    obtain ⟨c2, Hc2⟩ : ∃ n, Hid (q.chan B2 q.c.g = n) := ⟨_, rfl⟩
    obtain ⟨c3, Hc3⟩ : ∃ n, Hid (q.chan B3 q.c.b = n) := ⟨_, rfl⟩
    have hP : (⟨c1, c2, c3, dn8 n4⟩ : Px) = P := by rw [← HEE2.out, Hc1.out, Hc2.out, Hc3.out]
    subst hP
    have HF1 := Lib.hid (fun w => rfrac_q q q.c.r n1 dn Hn1 Hdn w HFIT2.out.1 HQA.out HLH.out.1 HLH.out.2.2.2.1)
    have HF2 := Lib.hid (fun w => rfrac_q q q.c.g n2 dn Hn2 Hdn w HFIT2.out.1 HQA.out HLH.out.2.1 HLH.out.2.2.2.2.1)
    have HF3 := Lib.hid (fun w => rfrac_q q q.c.b n3 dn Hn3 Hdn w HFIT2.out.1 HQA.out HLH.out.2.2.1 HLH.out.2.2.2.2.2)
    have HM1 := Lib.hid (fun w => rmixed_q q B1 q.c.r n1 dn c1 Hn1 Hdn Hc1 w HFIT2.out.1 HQA.out HLH.out.1 HLH.out.2.2.2.1 HZ.out.1.1 (by rw [HQB.out]; exact HZ.out.1.2))
    have HM2 := Lib.hid (fun w => rmixed_q q B2 q.c.g n2 dn c2 Hn2 Hdn Hc2 w HFIT2.out.1 HQA.out HLH.out.2.1 HLH.out.2.2.2.2.1 HZ.out.2.1.1 (by rw [HQB.out]; exact HZ.out.2.1.2))
    have HM3 := Lib.hid (fun w => rmixed_q q B3 q.c.b n3 dn c3 Hn3 Hdn Hc3 w HFIT2.out.1 HQA.out HLH.out.2.2.1 HLH.out.2.2.2.2.2 HZ.out.2.2.1 (by rw [HQB.out]; exact HZ.out.2.2.2))
    subst hq
    clear hqa lh1 lh2 lh3 lh4 lh5 lh6 hrec
    have ea := HEA.out
    go_wp2_with fail
    clear kcG1115 kfG1115 kaG1115 kgG1115
    refine (HF1.out _).mono ?_
    rintro e w20 ⟨rfl, hb20⟩
    have kG20 : Bk w20 (b5) 90 #[.int .i64 cd.r, .int .i64 cd.g, .int .i64 cd.b] := (by repeat (first | (with_reducible assumption) | ((with_reducible refine Bk.new _ _ _ ?_); first | (with_reducible rfl) | (simp; done)) | (with_reducible refine Bk.alloc ?_ _) | (with_reducible refine Bk.drew ?_) | (with_reducible refine Bk.drewN ?_ _) | ((with_reducible refine Bk.far ?_ ?_ _); rotate_left; focus (first | (simp; done) | (simp; omega))) | (with_reducible refine Bk.below ?_ (by with_reducible assumption)))); obtain ⟨kcG20, kfG20, kaG20, kgG20, klG20⟩ := kG20.rules
    go_wp2_with fail
    clear kcG20 kfG20 kaG20 kgG20
    refine (HF2.out _).mono ?_
    rintro e w21 ⟨rfl, hb21⟩
    have kG21 : Bk w21 (b5) 90 #[.int .i64 cd.r, .int .i64 cd.g, .int .i64 cd.b] := (by repeat (first | (with_reducible assumption) | ((with_reducible refine Bk.new _ _ _ ?_); first | (with_reducible rfl) | (simp; done)) | (with_reducible refine Bk.alloc ?_ _) | (with_reducible refine Bk.drew ?_) | (with_reducible refine Bk.drewN ?_ _) | ((with_reducible refine Bk.far ?_ ?_ _); rotate_left; focus (first | (simp; done) | (simp; omega))) | (with_reducible refine Bk.below ?_ (by with_reducible assumption)))); obtain ⟨kcG21, kfG21, kaG21, kgG21, klG21⟩ := kG21.rules
    go_wp2_with fail
    clear kcG21 kfG21 kaG21 kgG21
    refine (HF3.out _).mono ?_
    rintro e w22 ⟨rfl, hb22⟩
    have kG22 : Bk w22 (b5) 90 #[.int .i64 cd.r, .int .i64 cd.g, .int .i64 cd.b] := (by repeat (first | (with_reducible assumption) | ((with_reducible refine Bk.new _ _ _ ?_); first | (with_reducible rfl) | (simp; done)) | (with_reducible refine Bk.alloc ?_ _) | (with_reducible refine Bk.drew ?_) | (with_reducible refine Bk.drewN ?_ _) | ((with_reducible refine Bk.far ?_ ?_ _); rotate_left; focus (first | (simp; done) | (simp; omega))) | (with_reducible refine Bk.below ?_ (by with_reducible assumption)))); obtain ⟨kcG22, kfG22, kaG22, kgG22, klG22⟩ := kG22.rules; have kS22 : Bk w22 (w.heap.size) 45 #[.int .u8 s.r, .int .u8 s.g, .int .u8 s.b, .int .u8 s.a] := (by repeat (first | (with_reducible assumption) | ((with_reducible refine Bk.new _ _ _ ?_); first | (with_reducible rfl) | (simp; done)) | (with_reducible refine Bk.alloc ?_ _) | (with_reducible refine Bk.drew ?_) | (with_reducible refine Bk.drewN ?_ _) | ((with_reducible refine Bk.far ?_ ?_ _); rotate_left; focus (first | (simp; done) | (simp; omega))) | (with_reducible refine Bk.below ?_ (by with_reducible assumption)))); obtain ⟨kcS22, kfS22, kaS22, kgS22, klS22⟩ := kS22.rules; have kD22 : Bk w22 (w.heap.size + 1) 45 #[.int .u8 d.r, .int .u8 d.g, .int .u8 d.b, .int .u8 d.a] := (by repeat (first | (with_reducible assumption) | ((with_reducible refine Bk.new _ _ _ ?_); first | (with_reducible rfl) | (simp; done)) | (with_reducible refine Bk.alloc ?_ _) | (with_reducible refine Bk.drew ?_) | (with_reducible refine Bk.drewN ?_ _) | ((with_reducible refine Bk.far ?_ ?_ _); rotate_left; focus (first | (simp; done) | (simp; omega))) | (with_reducible refine Bk.below ?_ (by with_reducible assumption)))); obtain ⟨kcD22, kfD22, kaD22, kgD22, klD22⟩ := kD22.rules; have kO22 : Bk w22 (w.heap.size + 1 + 1) 45 #[.int .u8 0, .int .u8 0, .int .u8 0, .int .u8 0] := (by repeat (first | (with_reducible assumption) | ((with_reducible refine Bk.new _ _ _ ?_); first | (with_reducible rfl) | (simp; done)) | (with_reducible refine Bk.alloc ?_ _) | (with_reducible refine Bk.drew ?_) | (with_reducible refine Bk.drewN ?_ _) | ((with_reducible refine Bk.far ?_ ?_ _); rotate_left; focus (first | (simp; done) | (simp; omega))) | (with_reducible refine Bk.below ?_ (by with_reducible assumption)))); obtain ⟨kcO22, kfO22, kaO22, kgO22, klO22⟩ := kO22.rules
    go_wp2_with fail
    clear kcG22 kfG22 kaG22 kgG22 kcS22 kfS22 kaS22 kgS22 kcD22 kfD22 kaD22 kgD22 kcO22 kfO22 kaO22 kgO22
    obtain ⟨f1, f2, f3, f4, f5, f6, f7, f8⟩ := HW1.out
    obtain ⟨x1, x2, x3, x4, x5, x6, x7⟩ := HW2.out
    obtain ⟨y1, y2, y3⟩ := HW3.out
    obtain ⟨y4, y5, y6⟩ := HW4.out
    obtain ⟨y7, y8, y9⟩ := HW5.out
    refine wp_region_gob 63 [(0, true), (1, true), (2, true), (3, true), (4, true), (5, true), (6, true), (7, true), (8, true), (9, true), (10, true), (11, true), (12, true), (13, true), (14, true), (16, true), (17, true), (18, true), (19, true), (20, true), (21, true), (22, true), (23, true), (24, true), (25, true), (26, true), (27, true), (28, true), (29, true), (30, true), (32, true), (33, true), (34, true), (35, true), (36, true), (37, true), (38, true), (39, true), (40, true), (41, true), (42, true), (43, true), (44, true), (45, true), (46, true), (48, true), (49, true), (50, true), (51, true), (52, true), (53, true), (54, true), (55, true), (56, true), (57, true), (58, true), (59, true), (60, true), (15, false), (31, false), (47, false), (61, false), (62, true)] (by kernel_rfl) (by kernel_rfl) (fun c a d v w h => by cases d <;> exact h) ?_
    repeat (refine wpGo_pure (v := ?_) rfl rfl (fun w' hS => ?_) ?_; rotate_left; (· have kSp : Bk w' (w.heap.size) 45 #[.int .u8 s.r, .int .u8 s.g, .int .u8 s.b, .int .u8 s.a] := (by repeat (first | (with_reducible assumption) | ((with_reducible refine Bk.new _ _ _ ?_); first | (with_reducible rfl) | (simp; done)) | (with_reducible refine Bk.alloc ?_ _) | (with_reducible refine Bk.drew ?_) | (with_reducible refine Bk.drewN ?_ _) | ((with_reducible refine Bk.far ?_ ?_ _); rotate_left; focus (first | (simp; done) | (simp; omega))) | (with_reducible refine Bk.below ?_ (by with_reducible assumption)))); obtain ⟨kcSp, kfSp, kaSp, kgSp, klSp⟩ := kSp.rules; have kDp : Bk w' (w.heap.size + 1) 45 #[.int .u8 d.r, .int .u8 d.g, .int .u8 d.b, .int .u8 d.a] := (by repeat (first | (with_reducible assumption) | ((with_reducible refine Bk.new _ _ _ ?_); first | (with_reducible rfl) | (simp; done)) | (with_reducible refine Bk.alloc ?_ _) | (with_reducible refine Bk.drew ?_) | (with_reducible refine Bk.drewN ?_ _) | ((with_reducible refine Bk.far ?_ ?_ _); rotate_left; focus (first | (simp; done) | (simp; omega))) | (with_reducible refine Bk.below ?_ (by with_reducible assumption)))); obtain ⟨kcDp, kfDp, kaDp, kgDp, klDp⟩ := kDp.rules; go_simp; exact rfl); (try simp only [Act.put, List.setIfInBounds_toArray, List.set_cons_zero, List.set_cons_succ]))
    clear f1 f2 f3 f4 f5 f6 f7 f8 x1 x2 x3 x4 x5 x6 x7 y1 y2 y3 y4 y5 y6 y7 y8 y9
    refine wpGo_eff rfl (fun K hK => ?_)
    go_simp
    refine (HM1.out _).mono ?_
    rintro e w23 ⟨rfl, hb23⟩
    refine hK.out _ _ (by repeat (first | (with_reducible exact Below.refl _ _) | (with_reducible refine balloc ?_ _) | (with_reducible refine Below.drew ?_) | (with_reducible refine bdrewN ?_ _) | ((with_reducible refine bset ?_ ?_ _); rotate_left; focus (first | (with_reducible exact Nat.le_refl _) | (simp; done) | (simp; omega) | omega)) | (with_reducible refine bstep (by with_reducible assumption) ?_))) (fun hS23 => ?_)
    clear hK K
    refine wpGo_eff rfl (fun K hK => ?_)
    go_simp
    refine (HM2.out _).mono ?_
    rintro e w24 ⟨rfl, hb24⟩
    refine hK.out _ _ (by repeat (first | (with_reducible exact Below.refl _ _) | (with_reducible refine balloc ?_ _) | (with_reducible refine Below.drew ?_) | (with_reducible refine bdrewN ?_ _) | ((with_reducible refine bset ?_ ?_ _); rotate_left; focus (first | (with_reducible exact Nat.le_refl _) | (simp; done) | (simp; omega) | omega)) | (with_reducible refine bstep (by with_reducible assumption) ?_))) (fun hS24 => ?_)
    clear hK K
    refine wpGo_eff rfl (fun K hK => ?_)
    go_simp
    refine (HM3.out _).mono ?_
    rintro e w25 ⟨rfl, hb25⟩
    refine hK.out _ _ (by repeat (first | (with_reducible exact Below.refl _ _) | (with_reducible refine balloc ?_ _) | (with_reducible refine Below.drew ?_) | (with_reducible refine bdrewN ?_ _) | ((with_reducible refine bset ?_ ?_ _); rotate_left; focus (first | (with_reducible exact Nat.le_refl _) | (simp; done) | (simp; omega) | omega)) | (with_reducible refine bstep (by with_reducible assumption) ?_))) (fun hS25 => ?_)
    clear hK K
    refine wpGo_eff rfl (fun K hK => ?_)
    go_simp
    refine (rdivn8_q n4 _ (by have := HB.out; omega) (by have := HB.out; omega)).mono ?_
    rintro e w26 ⟨rfl, hb26⟩
    refine hK.out _ _ (by repeat (first | (with_reducible exact Below.refl _ _) | (with_reducible refine balloc ?_ _) | (with_reducible refine Below.drew ?_) | (with_reducible refine bdrewN ?_ _) | ((with_reducible refine bset ?_ ?_ _); rotate_left; focus (first | (with_reducible exact Nat.le_refl _) | (simp; done) | (simp; omega) | omega)) | (with_reducible refine bstep (by with_reducible assumption) ?_))) (fun hS26 => ?_)
    clear hK K
    repeat (refine wpGo_pure (v := ?_) rfl rfl (fun w' hS => ?_) ?_; rotate_left; (· skip; go_simp; exact rfl); (try simp only [Act.put, List.setIfInBounds_toArray, List.set_cons_zero, List.set_cons_succ]))
    refine wpGo_nil ?_
    simp only [List.drop_succ_cons, List.drop_zero]
    have kO26 : Bk w26 (w.heap.size + 1 + 1) 45 #[.int .u8 0, .int .u8 0, .int .u8 0, .int .u8 0] := (by repeat (first | (with_reducible assumption) | ((with_reducible refine Bk.new _ _ _ ?_); first | (with_reducible rfl) | (simp; done)) | (with_reducible refine Bk.alloc ?_ _) | (with_reducible refine Bk.drew ?_) | (with_reducible refine Bk.drewN ?_ _) | ((with_reducible refine Bk.far ?_ ?_ _); rotate_left; focus (first | (simp; done) | (simp; omega))) | (with_reducible refine Bk.below ?_ (by with_reducible assumption)))); obtain ⟨kcO26, kfO26, kaO26, kgO26, klO26⟩ := kO26.rules
    have hV17 := hV16.out
    have hZ : Below w.heap.size w w26 := (by repeat (first | (with_reducible exact Below.refl _ _) | (with_reducible refine balloc ?_ _) | (with_reducible refine Below.drew ?_) | (with_reducible refine bdrewN ?_ _) | ((with_reducible refine bset ?_ ?_ _); rotate_left; focus (first | (with_reducible exact Nat.le_refl _) | (simp; done) | (simp; omega) | omega)) | (with_reducible refine bstep (by with_reducible assumption) ?_)))
    go_wp2
    refine bodyPost_ret (v := _) ?_ rfl ⟨rfl, (by repeat (first | (with_reducible exact Below.refl _ _) | (with_reducible refine balloc ?_ _) | (with_reducible refine Below.drew ?_) | (with_reducible refine bdrewN ?_ _) | ((with_reducible refine bset ?_ ?_ _); rotate_left; focus (first | (with_reducible exact Nat.le_refl _) | (simp; done) | (simp; omega) | omega)) | (with_reducible refine bstep (by with_reducible assumption) ?_)))⟩
    simp [results, Tryz.results71, go_sem, kcO26]
  · skip
    obtain ⟨kcx, kfx, kax, kgx, klx⟩ := p6.rules
    obtain ⟨kcy, kfy, kay, kgy, kly⟩ := p7.rules
    obtain ⟨kcz, kfz, kaz, kgz, klz⟩ := p5.rules
    go_wp2_with fail
    generalize (((w12.setCell ⟨b5, 0, none⟩ (.int .i64 cs.r)).setCell ⟨b5, 1, none⟩ (.int .i64 cs.g)).setCell ⟨b5, 2, none⟩ (.int .i64 cs.b)) = w14 at p5 p6 p7 pS pD pO hV13 ⊢
    clear kcx kfx kax kgx klx kcy kfy kay kgy kly kcz kfz kaz kgz klz kc5 kf5 ka5 kg5 kl5 n5
    refine (rsat_q cs ss Hss _ HI1.out).mono ?_
    rintro e w15 ⟨rfl, hb15⟩
    have kG1215 : Bk w15 (b5) 90 #[.int .i64 cs.r, .int .i64 cs.g, .int .i64 cs.b] := (by repeat (first | (with_reducible assumption) | ((with_reducible refine Bk.new _ _ _ ?_); first | (with_reducible rfl) | (simp; done)) | (with_reducible refine Bk.alloc ?_ _) | (with_reducible refine Bk.drew ?_) | (with_reducible refine Bk.drewN ?_ _) | ((with_reducible refine Bk.far ?_ ?_ _); rotate_left; focus (first | (simp; done) | (simp; omega))) | (with_reducible refine Bk.below ?_ (by with_reducible assumption)))); obtain ⟨kcG1215, kfG1215, kaG1215, kgG1215, klG1215⟩ := kG1215.rules
    have hV16 := Lib.hid (show Below w.heap.size w w15 from bstep hb15 hV13)
    obtain ⟨q, hq⟩ : ∃ q : Rcp, q = ⟨cs, ss, dl, a⟩ := ⟨_, rfl⟩
    have hrec : recipeP 12 cs cd a = q := by rw [hq]; unfold recipeP; simp [Hss.out, Hds.out, Hsl.out, Hdl.out]
    have HFIT2 := HFIT
    have HEE2 := HEE
    rw [hrec] at HFIT2 HEE2
    have hqa : q.a ≤ 65025 := by rw [HFIT2.out.2]; exact eA0.2.1
    have HQA := Lib.hid hqa
    have HQB := Lib.hid HFIT2.out.2
    obtain ⟨lh1, lh2, lh3, lh4, lh5, lh6⟩ := low_high q.c
    have HLH := Lib.hid (And.intro lh1 (And.intro lh2 (And.intro lh3 (And.intro lh4 (And.intro lh5 lh6)))))
    obtain ⟨n1, Hn1⟩ : ∃ n, Hid (q.num q.c.r = n) := ⟨_, rfl⟩
    obtain ⟨n2, Hn2⟩ : ∃ n, Hid (q.num q.c.g = n) := ⟨_, rfl⟩
    obtain ⟨n3, Hn3⟩ : ∃ n, Hid (q.num q.c.b = n) := ⟨_, rfl⟩
    obtain ⟨dn, Hdn⟩ : ∃ n, Hid (q.den = n) := ⟨_, rfl⟩
    obtain ⟨c1, Hc1⟩ : ∃ n, Hid (q.chan B1 q.c.r = n) := ⟨_, rfl⟩
    obtain ⟨c2, Hc2⟩ : ∃ n, Hid (q.chan B2 q.c.g = n) := ⟨_, rfl⟩
    obtain ⟨c3, Hc3⟩ : ∃ n, Hid (q.chan B3 q.c.b = n) := ⟨_, rfl⟩
    have hP : (⟨c1, c2, c3, dn8 n4⟩ : Px) = P := by rw [← HEE2.out, Hc1.out, Hc2.out, Hc3.out]
    subst hP
    have HF1 := Lib.hid (fun w => rfrac_q q q.c.r n1 dn Hn1 Hdn w HFIT2.out.1 HQA.out HLH.out.1 HLH.out.2.2.2.1)
    have HF2 := Lib.hid (fun w => rfrac_q q q.c.g n2 dn Hn2 Hdn w HFIT2.out.1 HQA.out HLH.out.2.1 HLH.out.2.2.2.2.1)
    have HF3 := Lib.hid (fun w => rfrac_q q q.c.b n3 dn Hn3 Hdn w HFIT2.out.1 HQA.out HLH.out.2.2.1 HLH.out.2.2.2.2.2)
    have HM1 := Lib.hid (fun w => rmixed_q q B1 q.c.r n1 dn c1 Hn1 Hdn Hc1 w HFIT2.out.1 HQA.out HLH.out.1 HLH.out.2.2.2.1 HZ.out.1.1 (by rw [HQB.out]; exact HZ.out.1.2))
    have HM2 := Lib.hid (fun w => rmixed_q q B2 q.c.g n2 dn c2 Hn2 Hdn Hc2 w HFIT2.out.1 HQA.out HLH.out.2.1 HLH.out.2.2.2.2.1 HZ.out.2.1.1 (by rw [HQB.out]; exact HZ.out.2.1.2))
    have HM3 := Lib.hid (fun w => rmixed_q q B3 q.c.b n3 dn c3 Hn3 Hdn Hc3 w HFIT2.out.1 HQA.out HLH.out.2.2.1 HLH.out.2.2.2.2.2 HZ.out.2.2.1 (by rw [HQB.out]; exact HZ.out.2.2.2))
    subst hq
    clear hqa lh1 lh2 lh3 lh4 lh5 lh6 hrec
    have ea := HEA.out
    go_wp2_with fail
    clear kcG1215 kfG1215 kaG1215 kgG1215
    refine (HF1.out _).mono ?_
    rintro e w20 ⟨rfl, hb20⟩
    have kG20 : Bk w20 (b5) 90 #[.int .i64 cs.r, .int .i64 cs.g, .int .i64 cs.b] := (by repeat (first | (with_reducible assumption) | ((with_reducible refine Bk.new _ _ _ ?_); first | (with_reducible rfl) | (simp; done)) | (with_reducible refine Bk.alloc ?_ _) | (with_reducible refine Bk.drew ?_) | (with_reducible refine Bk.drewN ?_ _) | ((with_reducible refine Bk.far ?_ ?_ _); rotate_left; focus (first | (simp; done) | (simp; omega))) | (with_reducible refine Bk.below ?_ (by with_reducible assumption)))); obtain ⟨kcG20, kfG20, kaG20, kgG20, klG20⟩ := kG20.rules
    go_wp2_with fail
    clear kcG20 kfG20 kaG20 kgG20
    refine (HF2.out _).mono ?_
    rintro e w21 ⟨rfl, hb21⟩
    have kG21 : Bk w21 (b5) 90 #[.int .i64 cs.r, .int .i64 cs.g, .int .i64 cs.b] := (by repeat (first | (with_reducible assumption) | ((with_reducible refine Bk.new _ _ _ ?_); first | (with_reducible rfl) | (simp; done)) | (with_reducible refine Bk.alloc ?_ _) | (with_reducible refine Bk.drew ?_) | (with_reducible refine Bk.drewN ?_ _) | ((with_reducible refine Bk.far ?_ ?_ _); rotate_left; focus (first | (simp; done) | (simp; omega))) | (with_reducible refine Bk.below ?_ (by with_reducible assumption)))); obtain ⟨kcG21, kfG21, kaG21, kgG21, klG21⟩ := kG21.rules
    go_wp2_with fail
    clear kcG21 kfG21 kaG21 kgG21
    refine (HF3.out _).mono ?_
    rintro e w22 ⟨rfl, hb22⟩
    have kG22 : Bk w22 (b5) 90 #[.int .i64 cs.r, .int .i64 cs.g, .int .i64 cs.b] := (by repeat (first | (with_reducible assumption) | ((with_reducible refine Bk.new _ _ _ ?_); first | (with_reducible rfl) | (simp; done)) | (with_reducible refine Bk.alloc ?_ _) | (with_reducible refine Bk.drew ?_) | (with_reducible refine Bk.drewN ?_ _) | ((with_reducible refine Bk.far ?_ ?_ _); rotate_left; focus (first | (simp; done) | (simp; omega))) | (with_reducible refine Bk.below ?_ (by with_reducible assumption)))); obtain ⟨kcG22, kfG22, kaG22, kgG22, klG22⟩ := kG22.rules; have kS22 : Bk w22 (w.heap.size) 45 #[.int .u8 s.r, .int .u8 s.g, .int .u8 s.b, .int .u8 s.a] := (by repeat (first | (with_reducible assumption) | ((with_reducible refine Bk.new _ _ _ ?_); first | (with_reducible rfl) | (simp; done)) | (with_reducible refine Bk.alloc ?_ _) | (with_reducible refine Bk.drew ?_) | (with_reducible refine Bk.drewN ?_ _) | ((with_reducible refine Bk.far ?_ ?_ _); rotate_left; focus (first | (simp; done) | (simp; omega))) | (with_reducible refine Bk.below ?_ (by with_reducible assumption)))); obtain ⟨kcS22, kfS22, kaS22, kgS22, klS22⟩ := kS22.rules; have kD22 : Bk w22 (w.heap.size + 1) 45 #[.int .u8 d.r, .int .u8 d.g, .int .u8 d.b, .int .u8 d.a] := (by repeat (first | (with_reducible assumption) | ((with_reducible refine Bk.new _ _ _ ?_); first | (with_reducible rfl) | (simp; done)) | (with_reducible refine Bk.alloc ?_ _) | (with_reducible refine Bk.drew ?_) | (with_reducible refine Bk.drewN ?_ _) | ((with_reducible refine Bk.far ?_ ?_ _); rotate_left; focus (first | (simp; done) | (simp; omega))) | (with_reducible refine Bk.below ?_ (by with_reducible assumption)))); obtain ⟨kcD22, kfD22, kaD22, kgD22, klD22⟩ := kD22.rules; have kO22 : Bk w22 (w.heap.size + 1 + 1) 45 #[.int .u8 0, .int .u8 0, .int .u8 0, .int .u8 0] := (by repeat (first | (with_reducible assumption) | ((with_reducible refine Bk.new _ _ _ ?_); first | (with_reducible rfl) | (simp; done)) | (with_reducible refine Bk.alloc ?_ _) | (with_reducible refine Bk.drew ?_) | (with_reducible refine Bk.drewN ?_ _) | ((with_reducible refine Bk.far ?_ ?_ _); rotate_left; focus (first | (simp; done) | (simp; omega))) | (with_reducible refine Bk.below ?_ (by with_reducible assumption)))); obtain ⟨kcO22, kfO22, kaO22, kgO22, klO22⟩ := kO22.rules
    go_wp2_with fail
    clear kcG22 kfG22 kaG22 kgG22 kcS22 kfS22 kaS22 kgS22 kcD22 kfD22 kaD22 kgD22 kcO22 kfO22 kaO22 kgO22
    obtain ⟨f1, f2, f3, f4, f5, f6, f7, f8⟩ := HW1.out
    obtain ⟨x1, x2, x3, x4, x5, x6, x7⟩ := HW2.out
    obtain ⟨y1, y2, y3⟩ := HW3.out
    obtain ⟨y4, y5, y6⟩ := HW4.out
    obtain ⟨y7, y8, y9⟩ := HW5.out
    refine wp_region_gob 63 [(0, true), (1, true), (2, true), (3, true), (4, true), (5, true), (6, true), (7, true), (8, true), (9, true), (10, true), (11, true), (12, true), (13, true), (14, true), (16, true), (17, true), (18, true), (19, true), (20, true), (21, true), (22, true), (23, true), (24, true), (25, true), (26, true), (27, true), (28, true), (29, true), (30, true), (32, true), (33, true), (34, true), (35, true), (36, true), (37, true), (38, true), (39, true), (40, true), (41, true), (42, true), (43, true), (44, true), (45, true), (46, true), (48, true), (49, true), (50, true), (51, true), (52, true), (53, true), (54, true), (55, true), (56, true), (57, true), (58, true), (59, true), (60, true), (15, false), (31, false), (47, false), (61, false), (62, true)] (by kernel_rfl) (by kernel_rfl) (fun c a d v w h => by cases d <;> exact h) ?_
    repeat (refine wpGo_pure (v := ?_) rfl rfl (fun w' hS => ?_) ?_; rotate_left; (· have kSp : Bk w' (w.heap.size) 45 #[.int .u8 s.r, .int .u8 s.g, .int .u8 s.b, .int .u8 s.a] := (by repeat (first | (with_reducible assumption) | ((with_reducible refine Bk.new _ _ _ ?_); first | (with_reducible rfl) | (simp; done)) | (with_reducible refine Bk.alloc ?_ _) | (with_reducible refine Bk.drew ?_) | (with_reducible refine Bk.drewN ?_ _) | ((with_reducible refine Bk.far ?_ ?_ _); rotate_left; focus (first | (simp; done) | (simp; omega))) | (with_reducible refine Bk.below ?_ (by with_reducible assumption)))); obtain ⟨kcSp, kfSp, kaSp, kgSp, klSp⟩ := kSp.rules; have kDp : Bk w' (w.heap.size + 1) 45 #[.int .u8 d.r, .int .u8 d.g, .int .u8 d.b, .int .u8 d.a] := (by repeat (first | (with_reducible assumption) | ((with_reducible refine Bk.new _ _ _ ?_); first | (with_reducible rfl) | (simp; done)) | (with_reducible refine Bk.alloc ?_ _) | (with_reducible refine Bk.drew ?_) | (with_reducible refine Bk.drewN ?_ _) | ((with_reducible refine Bk.far ?_ ?_ _); rotate_left; focus (first | (simp; done) | (simp; omega))) | (with_reducible refine Bk.below ?_ (by with_reducible assumption)))); obtain ⟨kcDp, kfDp, kaDp, kgDp, klDp⟩ := kDp.rules; go_simp; exact rfl); (try simp only [Act.put, List.setIfInBounds_toArray, List.set_cons_zero, List.set_cons_succ]))
    clear f1 f2 f3 f4 f5 f6 f7 f8 x1 x2 x3 x4 x5 x6 x7 y1 y2 y3 y4 y5 y6 y7 y8 y9
    refine wpGo_eff rfl (fun K hK => ?_)
    go_simp
    refine (HM1.out _).mono ?_
    rintro e w23 ⟨rfl, hb23⟩
    refine hK.out _ _ (by repeat (first | (with_reducible exact Below.refl _ _) | (with_reducible refine balloc ?_ _) | (with_reducible refine Below.drew ?_) | (with_reducible refine bdrewN ?_ _) | ((with_reducible refine bset ?_ ?_ _); rotate_left; focus (first | (with_reducible exact Nat.le_refl _) | (simp; done) | (simp; omega) | omega)) | (with_reducible refine bstep (by with_reducible assumption) ?_))) (fun hS23 => ?_)
    clear hK K
    refine wpGo_eff rfl (fun K hK => ?_)
    go_simp
    refine (HM2.out _).mono ?_
    rintro e w24 ⟨rfl, hb24⟩
    refine hK.out _ _ (by repeat (first | (with_reducible exact Below.refl _ _) | (with_reducible refine balloc ?_ _) | (with_reducible refine Below.drew ?_) | (with_reducible refine bdrewN ?_ _) | ((with_reducible refine bset ?_ ?_ _); rotate_left; focus (first | (with_reducible exact Nat.le_refl _) | (simp; done) | (simp; omega) | omega)) | (with_reducible refine bstep (by with_reducible assumption) ?_))) (fun hS24 => ?_)
    clear hK K
    refine wpGo_eff rfl (fun K hK => ?_)
    go_simp
    refine (HM3.out _).mono ?_
    rintro e w25 ⟨rfl, hb25⟩
    refine hK.out _ _ (by repeat (first | (with_reducible exact Below.refl _ _) | (with_reducible refine balloc ?_ _) | (with_reducible refine Below.drew ?_) | (with_reducible refine bdrewN ?_ _) | ((with_reducible refine bset ?_ ?_ _); rotate_left; focus (first | (with_reducible exact Nat.le_refl _) | (simp; done) | (simp; omega) | omega)) | (with_reducible refine bstep (by with_reducible assumption) ?_))) (fun hS25 => ?_)
    clear hK K
    refine wpGo_eff rfl (fun K hK => ?_)
    go_simp
    refine (rdivn8_q n4 _ (by have := HB.out; omega) (by have := HB.out; omega)).mono ?_
    rintro e w26 ⟨rfl, hb26⟩
    refine hK.out _ _ (by repeat (first | (with_reducible exact Below.refl _ _) | (with_reducible refine balloc ?_ _) | (with_reducible refine Below.drew ?_) | (with_reducible refine bdrewN ?_ _) | ((with_reducible refine bset ?_ ?_ _); rotate_left; focus (first | (with_reducible exact Nat.le_refl _) | (simp; done) | (simp; omega) | omega)) | (with_reducible refine bstep (by with_reducible assumption) ?_))) (fun hS26 => ?_)
    clear hK K
    repeat (refine wpGo_pure (v := ?_) rfl rfl (fun w' hS => ?_) ?_; rotate_left; (· skip; go_simp; exact rfl); (try simp only [Act.put, List.setIfInBounds_toArray, List.set_cons_zero, List.set_cons_succ]))
    refine wpGo_nil ?_
    simp only [List.drop_succ_cons, List.drop_zero]
    have kO26 : Bk w26 (w.heap.size + 1 + 1) 45 #[.int .u8 0, .int .u8 0, .int .u8 0, .int .u8 0] := (by repeat (first | (with_reducible assumption) | ((with_reducible refine Bk.new _ _ _ ?_); first | (with_reducible rfl) | (simp; done)) | (with_reducible refine Bk.alloc ?_ _) | (with_reducible refine Bk.drew ?_) | (with_reducible refine Bk.drewN ?_ _) | ((with_reducible refine Bk.far ?_ ?_ _); rotate_left; focus (first | (simp; done) | (simp; omega))) | (with_reducible refine Bk.below ?_ (by with_reducible assumption)))); obtain ⟨kcO26, kfO26, kaO26, kgO26, klO26⟩ := kO26.rules
    have hV17 := hV16.out
    have hZ : Below w.heap.size w w26 := (by repeat (first | (with_reducible exact Below.refl _ _) | (with_reducible refine balloc ?_ _) | (with_reducible refine Below.drew ?_) | (with_reducible refine bdrewN ?_ _) | ((with_reducible refine bset ?_ ?_ _); rotate_left; focus (first | (with_reducible exact Nat.le_refl _) | (simp; done) | (simp; omega) | omega)) | (with_reducible refine bstep (by with_reducible assumption) ?_)))
    go_wp2
    refine bodyPost_ret (v := _) ?_ rfl ⟨rfl, (by repeat (first | (with_reducible exact Below.refl _ _) | (with_reducible refine balloc ?_ _) | (with_reducible refine Below.drew ?_) | (with_reducible refine bdrewN ?_ _) | ((with_reducible refine bset ?_ ?_ _); rotate_left; focus (first | (with_reducible exact Nat.le_refl _) | (simp; done) | (simp; omega) | omega)) | (with_reducible refine bstep (by with_reducible assumption) ?_)))⟩
    simp [results, Tryz.results71, go_sem, kcO26]
  · skip
    have r5 : Bk _ b5 90 #[.int .i64 cd.r, .int .i64 cd.g, .int .i64 cd.b] := (((p5.set 0 (.int .i64 cd.r)).set 1 (.int .i64 cd.g)).set 2 (.int .i64 cd.b))
    have r6 : Bk _ b6 90 #[.int .i64 cs.r, .int .i64 cs.g, .int .i64 cs.b] := (((p6.far (p := ⟨b5, 0, none⟩) (by simp; omega) (.int .i64 cd.r)).far (p := ⟨b5, 1, none⟩) (by simp; omega) (.int .i64 cd.g)).far (p := ⟨b5, 2, none⟩) (by simp; omega) (.int .i64 cd.b))
    have r7 : Bk _ b7 90 #[.int .i64 cd.r, .int .i64 cd.g, .int .i64 cd.b] := (((p7.far (p := ⟨b5, 0, none⟩) (by simp; omega) (.int .i64 cd.r)).far (p := ⟨b5, 1, none⟩) (by simp; omega) (.int .i64 cd.g)).far (p := ⟨b5, 2, none⟩) (by simp; omega) (.int .i64 cd.b))
    have rS : Bk _ (w.heap.size) 45 #[.int .u8 s.r, .int .u8 s.g, .int .u8 s.b, .int .u8 s.a] := (((pS.far (p := ⟨b5, 0, none⟩) (by simp; omega) (.int .i64 cd.r)).far (p := ⟨b5, 1, none⟩) (by simp; omega) (.int .i64 cd.g)).far (p := ⟨b5, 2, none⟩) (by simp; omega) (.int .i64 cd.b))
    have rD : Bk _ (w.heap.size + 1) 45 #[.int .u8 d.r, .int .u8 d.g, .int .u8 d.b, .int .u8 d.a] := (((pD.far (p := ⟨b5, 0, none⟩) (by simp; omega) (.int .i64 cd.r)).far (p := ⟨b5, 1, none⟩) (by simp; omega) (.int .i64 cd.g)).far (p := ⟨b5, 2, none⟩) (by simp; omega) (.int .i64 cd.b))
    have rO : Bk _ (w.heap.size + 1 + 1) 45 #[.int .u8 0, .int .u8 0, .int .u8 0, .int .u8 0] := (((pO.far (p := ⟨b5, 0, none⟩) (by simp; omega) (.int .i64 cd.r)).far (p := ⟨b5, 1, none⟩) (by simp; omega) (.int .i64 cd.g)).far (p := ⟨b5, 2, none⟩) (by simp; omega) (.int .i64 cd.b))
    have hV14 := (bset (bset (bset hV13 (p := ⟨b5, 0, none⟩) (by show _ ≤ b5; omega) (.int .i64 cd.r)) (p := ⟨b5, 1, none⟩) (by show _ ≤ b5; omega) (.int .i64 cd.g)) (p := ⟨b5, 2, none⟩) (by show _ ≤ b5; omega) (.int .i64 cd.b))
    obtain ⟨kcx, kfx, kax, kgx, klx⟩ := p6.rules
    obtain ⟨kcy, kfy, kay, kgy, kly⟩ := p7.rules
    obtain ⟨kcz, kfz, kaz, kgz, klz⟩ := p5.rules
    obtain ⟨kcu, kfu, kau, kgu, klu⟩ := r6.rules
    go_wp2_with fail
    generalize ((((((w12.setCell ⟨b5, 0, none⟩ (.int .i64 cs.r)).setCell ⟨b5, 1, none⟩ (.int .i64 cs.g)).setCell ⟨b5, 2, none⟩ (.int .i64 cs.b)).setCell ⟨b5, 0, none⟩ (.int .i64 cd.r)).setCell ⟨b5, 1, none⟩ (.int .i64 cd.g)).setCell ⟨b5, 2, none⟩ (.int .i64 cd.b)) = w14 at r5 r6 r7 rS rD rO hV14 ⊢
    clear kcx kfx kax kgx klx kcy kfy kay kgy kly kcz kfz kaz kgz klz kcu kfu kau kgu klu p5 p6 p7 pS pD pO kc5 kf5 ka5 kg5 kl5 n5
    refine (rlum_q cs sl Hsl _ HI1.out).mono ?_
    rintro e w15 ⟨rfl, hb15⟩
    have kG1315 : Bk w15 (b5) 90 #[.int .i64 cd.r, .int .i64 cd.g, .int .i64 cd.b] := (by repeat (first | (with_reducible assumption) | ((with_reducible refine Bk.new _ _ _ ?_); first | (with_reducible rfl) | (simp; done)) | (with_reducible refine Bk.alloc ?_ _) | (with_reducible refine Bk.drew ?_) | (with_reducible refine Bk.drewN ?_ _) | ((with_reducible refine Bk.far ?_ ?_ _); rotate_left; focus (first | (simp; done) | (simp; omega))) | (with_reducible refine Bk.below ?_ (by with_reducible assumption)))); obtain ⟨kcG1315, kfG1315, kaG1315, kgG1315, klG1315⟩ := kG1315.rules
    have hV16 := Lib.hid (show Below w.heap.size w w15 from bstep hb15 hV14)
    obtain ⟨q, hq⟩ : ∃ q : Rcp, q = ⟨cd, ds, sl, a⟩ := ⟨_, rfl⟩
    have hrec : recipeP 13 cs cd a = q := by rw [hq]; unfold recipeP; simp [Hss.out, Hds.out, Hsl.out, Hdl.out]
    have HFIT2 := HFIT
    have HEE2 := HEE
    rw [hrec] at HFIT2 HEE2
    have hqa : q.a ≤ 65025 := by rw [HFIT2.out.2]; exact eA0.2.1
    have HQA := Lib.hid hqa
    have HQB := Lib.hid HFIT2.out.2
    obtain ⟨lh1, lh2, lh3, lh4, lh5, lh6⟩ := low_high q.c
    have HLH := Lib.hid (And.intro lh1 (And.intro lh2 (And.intro lh3 (And.intro lh4 (And.intro lh5 lh6)))))
    obtain ⟨n1, Hn1⟩ : ∃ n, Hid (q.num q.c.r = n) := ⟨_, rfl⟩
    obtain ⟨n2, Hn2⟩ : ∃ n, Hid (q.num q.c.g = n) := ⟨_, rfl⟩
    obtain ⟨n3, Hn3⟩ : ∃ n, Hid (q.num q.c.b = n) := ⟨_, rfl⟩
    obtain ⟨dn, Hdn⟩ : ∃ n, Hid (q.den = n) := ⟨_, rfl⟩
    obtain ⟨c1, Hc1⟩ : ∃ n, Hid (q.chan B1 q.c.r = n) := ⟨_, rfl⟩
    obtain ⟨c2, Hc2⟩ : ∃ n, Hid (q.chan B2 q.c.g = n) := ⟨_, rfl⟩
    obtain ⟨c3, Hc3⟩ : ∃ n, Hid (q.chan B3 q.c.b = n) := ⟨_, rfl⟩
    have hP : (⟨c1, c2, c3, dn8 n4⟩ : Px) = P := by rw [← HEE2.out, Hc1.out, Hc2.out, Hc3.out]
    subst hP
    have HF1 := Lib.hid (fun w => rfrac_q q q.c.r n1 dn Hn1 Hdn w HFIT2.out.1 HQA.out HLH.out.1 HLH.out.2.2.2.1)
    have HF2 := Lib.hid (fun w => rfrac_q q q.c.g n2 dn Hn2 Hdn w HFIT2.out.1 HQA.out HLH.out.2.1 HLH.out.2.2.2.2.1)
    have HF3 := Lib.hid (fun w => rfrac_q q q.c.b n3 dn Hn3 Hdn w HFIT2.out.1 HQA.out HLH.out.2.2.1 HLH.out.2.2.2.2.2)
    have HM1 := Lib.hid (fun w => rmixed_q q B1 q.c.r n1 dn c1 Hn1 Hdn Hc1 w HFIT2.out.1 HQA.out HLH.out.1 HLH.out.2.2.2.1 HZ.out.1.1 (by rw [HQB.out]; exact HZ.out.1.2))
    have HM2 := Lib.hid (fun w => rmixed_q q B2 q.c.g n2 dn c2 Hn2 Hdn Hc2 w HFIT2.out.1 HQA.out HLH.out.2.1 HLH.out.2.2.2.2.1 HZ.out.2.1.1 (by rw [HQB.out]; exact HZ.out.2.1.2))
    have HM3 := Lib.hid (fun w => rmixed_q q B3 q.c.b n3 dn c3 Hn3 Hdn Hc3 w HFIT2.out.1 HQA.out HLH.out.2.2.1 HLH.out.2.2.2.2.2 HZ.out.2.2.1 (by rw [HQB.out]; exact HZ.out.2.2.2))
    subst hq
    clear hqa lh1 lh2 lh3 lh4 lh5 lh6 hrec
    have ea := HEA.out
    go_wp2_with fail
    clear kcG1315 kfG1315 kaG1315 kgG1315
    refine (HF1.out _).mono ?_
    rintro e w20 ⟨rfl, hb20⟩
    have kG20 : Bk w20 (b5) 90 #[.int .i64 cd.r, .int .i64 cd.g, .int .i64 cd.b] := (by repeat (first | (with_reducible assumption) | ((with_reducible refine Bk.new _ _ _ ?_); first | (with_reducible rfl) | (simp; done)) | (with_reducible refine Bk.alloc ?_ _) | (with_reducible refine Bk.drew ?_) | (with_reducible refine Bk.drewN ?_ _) | ((with_reducible refine Bk.far ?_ ?_ _); rotate_left; focus (first | (simp; done) | (simp; omega))) | (with_reducible refine Bk.below ?_ (by with_reducible assumption)))); obtain ⟨kcG20, kfG20, kaG20, kgG20, klG20⟩ := kG20.rules
    go_wp2_with fail
    clear kcG20 kfG20 kaG20 kgG20
    refine (HF2.out _).mono ?_
    rintro e w21 ⟨rfl, hb21⟩
    have kG21 : Bk w21 (b5) 90 #[.int .i64 cd.r, .int .i64 cd.g, .int .i64 cd.b] := (by repeat (first | (with_reducible assumption) | ((with_reducible refine Bk.new _ _ _ ?_); first | (with_reducible rfl) | (simp; done)) | (with_reducible refine Bk.alloc ?_ _) | (with_reducible refine Bk.drew ?_) | (with_reducible refine Bk.drewN ?_ _) | ((with_reducible refine Bk.far ?_ ?_ _); rotate_left; focus (first | (simp; done) | (simp; omega))) | (with_reducible refine Bk.below ?_ (by with_reducible assumption)))); obtain ⟨kcG21, kfG21, kaG21, kgG21, klG21⟩ := kG21.rules
    go_wp2_with fail
    clear kcG21 kfG21 kaG21 kgG21
    refine (HF3.out _).mono ?_
    rintro e w22 ⟨rfl, hb22⟩
    have kG22 : Bk w22 (b5) 90 #[.int .i64 cd.r, .int .i64 cd.g, .int .i64 cd.b] := (by repeat (first | (with_reducible assumption) | ((with_reducible refine Bk.new _ _ _ ?_); first | (with_reducible rfl) | (simp; done)) | (with_reducible refine Bk.alloc ?_ _) | (with_reducible refine Bk.drew ?_) | (with_reducible refine Bk.drewN ?_ _) | ((with_reducible refine Bk.far ?_ ?_ _); rotate_left; focus (first | (simp; done) | (simp; omega))) | (with_reducible refine Bk.below ?_ (by with_reducible assumption)))); obtain ⟨kcG22, kfG22, kaG22, kgG22, klG22⟩ := kG22.rules; have kS22 : Bk w22 (w.heap.size) 45 #[.int .u8 s.r, .int .u8 s.g, .int .u8 s.b, .int .u8 s.a] := (by repeat (first | (with_reducible assumption) | ((with_reducible refine Bk.new _ _ _ ?_); first | (with_reducible rfl) | (simp; done)) | (with_reducible refine Bk.alloc ?_ _) | (with_reducible refine Bk.drew ?_) | (with_reducible refine Bk.drewN ?_ _) | ((with_reducible refine Bk.far ?_ ?_ _); rotate_left; focus (first | (simp; done) | (simp; omega))) | (with_reducible refine Bk.below ?_ (by with_reducible assumption)))); obtain ⟨kcS22, kfS22, kaS22, kgS22, klS22⟩ := kS22.rules; have kD22 : Bk w22 (w.heap.size + 1) 45 #[.int .u8 d.r, .int .u8 d.g, .int .u8 d.b, .int .u8 d.a] := (by repeat (first | (with_reducible assumption) | ((with_reducible refine Bk.new _ _ _ ?_); first | (with_reducible rfl) | (simp; done)) | (with_reducible refine Bk.alloc ?_ _) | (with_reducible refine Bk.drew ?_) | (with_reducible refine Bk.drewN ?_ _) | ((with_reducible refine Bk.far ?_ ?_ _); rotate_left; focus (first | (simp; done) | (simp; omega))) | (with_reducible refine Bk.below ?_ (by with_reducible assumption)))); obtain ⟨kcD22, kfD22, kaD22, kgD22, klD22⟩ := kD22.rules; have kO22 : Bk w22 (w.heap.size + 1 + 1) 45 #[.int .u8 0, .int .u8 0, .int .u8 0, .int .u8 0] := (by repeat (first | (with_reducible assumption) | ((with_reducible refine Bk.new _ _ _ ?_); first | (with_reducible rfl) | (simp; done)) | (with_reducible refine Bk.alloc ?_ _) | (with_reducible refine Bk.drew ?_) | (with_reducible refine Bk.drewN ?_ _) | ((with_reducible refine Bk.far ?_ ?_ _); rotate_left; focus (first | (simp; done) | (simp; omega))) | (with_reducible refine Bk.below ?_ (by with_reducible assumption)))); obtain ⟨kcO22, kfO22, kaO22, kgO22, klO22⟩ := kO22.rules
    go_wp2_with fail
    clear kcG22 kfG22 kaG22 kgG22 kcS22 kfS22 kaS22 kgS22 kcD22 kfD22 kaD22 kgD22 kcO22 kfO22 kaO22 kgO22
    obtain ⟨f1, f2, f3, f4, f5, f6, f7, f8⟩ := HW1.out
    obtain ⟨x1, x2, x3, x4, x5, x6, x7⟩ := HW2.out
    obtain ⟨y1, y2, y3⟩ := HW3.out
    obtain ⟨y4, y5, y6⟩ := HW4.out
    obtain ⟨y7, y8, y9⟩ := HW5.out
    refine wp_region_gob 63 [(0, true), (1, true), (2, true), (3, true), (4, true), (5, true), (6, true), (7, true), (8, true), (9, true), (10, true), (11, true), (12, true), (13, true), (14, true), (16, true), (17, true), (18, true), (19, true), (20, true), (21, true), (22, true), (23, true), (24, true), (25, true), (26, true), (27, true), (28, true), (29, true), (30, true), (32, true), (33, true), (34, true), (35, true), (36, true), (37, true), (38, true), (39, true), (40, true), (41, true), (42, true), (43, true), (44, true), (45, true), (46, true), (48, true), (49, true), (50, true), (51, true), (52, true), (53, true), (54, true), (55, true), (56, true), (57, true), (58, true), (59, true), (60, true), (15, false), (31, false), (47, false), (61, false), (62, true)] (by kernel_rfl) (by kernel_rfl) (fun c a d v w h => by cases d <;> exact h) ?_
    repeat (refine wpGo_pure (v := ?_) rfl rfl (fun w' hS => ?_) ?_; rotate_left; (· have kSp : Bk w' (w.heap.size) 45 #[.int .u8 s.r, .int .u8 s.g, .int .u8 s.b, .int .u8 s.a] := (by repeat (first | (with_reducible assumption) | ((with_reducible refine Bk.new _ _ _ ?_); first | (with_reducible rfl) | (simp; done)) | (with_reducible refine Bk.alloc ?_ _) | (with_reducible refine Bk.drew ?_) | (with_reducible refine Bk.drewN ?_ _) | ((with_reducible refine Bk.far ?_ ?_ _); rotate_left; focus (first | (simp; done) | (simp; omega))) | (with_reducible refine Bk.below ?_ (by with_reducible assumption)))); obtain ⟨kcSp, kfSp, kaSp, kgSp, klSp⟩ := kSp.rules; have kDp : Bk w' (w.heap.size + 1) 45 #[.int .u8 d.r, .int .u8 d.g, .int .u8 d.b, .int .u8 d.a] := (by repeat (first | (with_reducible assumption) | ((with_reducible refine Bk.new _ _ _ ?_); first | (with_reducible rfl) | (simp; done)) | (with_reducible refine Bk.alloc ?_ _) | (with_reducible refine Bk.drew ?_) | (with_reducible refine Bk.drewN ?_ _) | ((with_reducible refine Bk.far ?_ ?_ _); rotate_left; focus (first | (simp; done) | (simp; omega))) | (with_reducible refine Bk.below ?_ (by with_reducible assumption)))); obtain ⟨kcDp, kfDp, kaDp, kgDp, klDp⟩ := kDp.rules; go_simp; exact rfl); (try simp only [Act.put, List.setIfInBounds_toArray, List.set_cons_zero, List.set_cons_succ]))
    clear f1 f2 f3 f4 f5 f6 f7 f8 x1 x2 x3 x4 x5 x6 x7 y1 y2 y3 y4 y5 y6 y7 y8 y9
    refine wpGo_eff rfl (fun K hK => ?_)
    go_simp
    refine (HM1.out _).mono ?_
    rintro e w23 ⟨rfl, hb23⟩
    refine hK.out _ _ (by repeat (first | (with_reducible exact Below.refl _ _) | (with_reducible refine balloc ?_ _) | (with_reducible refine Below.drew ?_) | (with_reducible refine bdrewN ?_ _) | ((with_reducible refine bset ?_ ?_ _); rotate_left; focus (first | (with_reducible exact Nat.le_refl _) | (simp; done) | (simp; omega) | omega)) | (with_reducible refine bstep (by with_reducible assumption) ?_))) (fun hS23 => ?_)
    clear hK K
    refine wpGo_eff rfl (fun K hK => ?_)
    go_simp
    refine (HM2.out _).mono ?_
    rintro e w24 ⟨rfl, hb24⟩
    refine hK.out _ _ (by repeat (first | (with_reducible exact Below.refl _ _) | (with_reducible refine balloc ?_ _) | (with_reducible refine Below.drew ?_) | (with_reducible refine bdrewN ?_ _) | ((with_reducible refine bset ?_ ?_ _); rotate_left; focus (first | (with_reducible exact Nat.le_refl _) | (simp; done) | (simp; omega) | omega)) | (with_reducible refine bstep (by with_reducible assumption) ?_))) (fun hS24 => ?_)
    clear hK K
    refine wpGo_eff rfl (fun K hK => ?_)
    go_simp
    refine (HM3.out _).mono ?_
    rintro e w25 ⟨rfl, hb25⟩
    refine hK.out _ _ (by repeat (first | (with_reducible exact Below.refl _ _) | (with_reducible refine balloc ?_ _) | (with_reducible refine Below.drew ?_) | (with_reducible refine bdrewN ?_ _) | ((with_reducible refine bset ?_ ?_ _); rotate_left; focus (first | (with_reducible exact Nat.le_refl _) | (simp; done) | (simp; omega) | omega)) | (with_reducible refine bstep (by with_reducible assumption) ?_))) (fun hS25 => ?_)
    clear hK K
    refine wpGo_eff rfl (fun K hK => ?_)
    go_simp
    refine (rdivn8_q n4 _ (by have := HB.out; omega) (by have := HB.out; omega)).mono ?_
    rintro e w26 ⟨rfl, hb26⟩
    refine hK.out _ _ (by repeat (first | (with_reducible exact Below.refl _ _) | (with_reducible refine balloc ?_ _) | (with_reducible refine Below.drew ?_) | (with_reducible refine bdrewN ?_ _) | ((with_reducible refine bset ?_ ?_ _); rotate_left; focus (first | (with_reducible exact Nat.le_refl _) | (simp; done) | (simp; omega) | omega)) | (with_reducible refine bstep (by with_reducible assumption) ?_))) (fun hS26 => ?_)
    clear hK K
    repeat (refine wpGo_pure (v := ?_) rfl rfl (fun w' hS => ?_) ?_; rotate_left; (· skip; go_simp; exact rfl); (try simp only [Act.put, List.setIfInBounds_toArray, List.set_cons_zero, List.set_cons_succ]))
    refine wpGo_nil ?_
    simp only [List.drop_succ_cons, List.drop_zero]
    have kO26 : Bk w26 (w.heap.size + 1 + 1) 45 #[.int .u8 0, .int .u8 0, .int .u8 0, .int .u8 0] := (by repeat (first | (with_reducible assumption) | ((with_reducible refine Bk.new _ _ _ ?_); first | (with_reducible rfl) | (simp; done)) | (with_reducible refine Bk.alloc ?_ _) | (with_reducible refine Bk.drew ?_) | (with_reducible refine Bk.drewN ?_ _) | ((with_reducible refine Bk.far ?_ ?_ _); rotate_left; focus (first | (simp; done) | (simp; omega))) | (with_reducible refine Bk.below ?_ (by with_reducible assumption)))); obtain ⟨kcO26, kfO26, kaO26, kgO26, klO26⟩ := kO26.rules
    have hV17 := hV16.out
    have hZ : Below w.heap.size w w26 := (by repeat (first | (with_reducible exact Below.refl _ _) | (with_reducible refine balloc ?_ _) | (with_reducible refine Below.drew ?_) | (with_reducible refine bdrewN ?_ _) | ((with_reducible refine bset ?_ ?_ _); rotate_left; focus (first | (with_reducible exact Nat.le_refl _) | (simp; done) | (simp; omega) | omega)) | (with_reducible refine bstep (by with_reducible assumption) ?_)))
    go_wp2
    refine bodyPost_ret (v := _) ?_ rfl ⟨rfl, (by repeat (first | (with_reducible exact Below.refl _ _) | (with_reducible refine balloc ?_ _) | (with_reducible refine Below.drew ?_) | (with_reducible refine bdrewN ?_ _) | ((with_reducible refine bset ?_ ?_ _); rotate_left; focus (first | (with_reducible exact Nat.le_refl _) | (simp; done) | (simp; omega) | omega)) | (with_reducible refine bstep (by with_reducible assumption) ?_)))⟩
    simp [results, Tryz.results71, go_sem, kcO26]
end Go.Proofs.YtnefnnhnjmmebaaGreat
