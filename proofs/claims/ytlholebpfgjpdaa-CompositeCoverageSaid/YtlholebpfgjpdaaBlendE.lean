/-
  The walks of the non-separable blends and of blend.Blend.
-/
import Derived.Test.YtlholebpfgjpdaaBlendD
import Derived.Test.YtlholebpfgjpdaaMix2
import Derived.Test.YtlholebpfgjpdaaBlendQ
namespace Go.Proofs.Ytlholebpfgjpdaa
open Go.RowKit
set_option linter.unusedSimpArgs false
set_option linter.unusedVariables false


theorem chan_bd {nm dn base a : Int} (h0 : 1 ≤ dn) (h1 : 0 ≤ nm) (h2 : nm ≤ a * dn) (h3 : 0 ≤ base) (h4 : base + a ≤ 65025) (h5 : 0 ≤ a) (h6 : dn ≤ 6502600) :
    (0 ≤ base * dn ∧ base * dn ≤ 500000000000) ∧ nm ≤ 500000000000 ∧ 0 ≤ (2 * (base * dn + nm) + 255 * dn) / (510 * dn) ∧ (2 * (base * dn + nm) + 255 * dn) / (510 * dn) ≤ 255 := by
  have a1 := mul_le (x := base) (y := dn) (a := 65025) (b := 6502600) h3 (by omega) (by omega) h6
  have a2 := mul_le (x := a) (y := dn) (a := 65025) (b := 6502600) h5 (by omega) (by omega) h6
  have a3 : base * dn + a * dn ≤ 65025 * dn := by rw [← Int.add_mul]; exact Int.mul_le_mul_of_nonneg_right h4 (by omega)
  refine ⟨by omega, by omega, Int.ediv_nonneg (by omega) (by omega), ?_⟩
  have : (2 * (base * dn + nm) + 255 * dn) / (510 * dn) < 256 := Int.ediv_lt_of_lt_mul (by omega) (by omega)
  omega

set_option maxHeartbeats 800000 in
theorem rchan_any (q : Rcp) (base x : Int) (w : World) (hf : q.fit) (ha : q.a ≤ 65025) (hx0 : q.c.low ≤ x) (hx1 : x ≤ q.c.high) (h0 : 0 ≤ base) (h1 : base + q.a ≤ 65025) :
    Calls Try.prog 51 #[.agg #[.int .i64 q.c.r, .int .i64 q.c.g, .int .i64 q.c.b, .int .i64 q.t, .int .i64 q.l, .int .i64 q.a], .int .i64 base, .int .i64 x] w fun e w' =>
      e = .returned (.int .u8 (q.chan base x)) ∧ Below w.heap.size w w' := by
  have HT := Lib.hid (fun w => rterm_any q x w hf ha hx0 hx1)
  obtain ⟨d0, d1, n0, n1⟩ := hf.kinds hx0 hx1
  have hb := chan_bd d0 n0 n1 h0 h1 (by have := hf.r0; have := hf.r1; omega) (by omega)
  unfold Rcp.chan
  generalize q.num x = nm at *
  generalize q.den = dn at *
  obtain ⟨b1, b2, b3, b4⟩ := hb
  clear n1
  go_enter Try.func51, Try.ntmps51
  go_wp2_with fail
  refine (HT.out _).mono ?_
  rintro e w1 ⟨rfl, hb1⟩
  have hd0 : ¬ 510 * dn = 0 := by omega
  go_wp2
  go_ret
  exact ⟨rfl, (by repeat (first | (with_reducible exact Below.refl _ _) | (with_reducible refine balloc ?_ _) | (with_reducible refine Below.drew ?_) | (with_reducible refine bdrewN ?_ _) | ((with_reducible refine bset ?_ ?_ _); rotate_left; focus (first | (with_reducible exact Nat.le_refl _) | (simp; done) | (simp; omega) | omega)) | (with_reducible refine bstep (by with_reducible assumption) ?_)))⟩

set_option maxHeartbeats 400000 in
theorem base_any (x y sa da : Int) (b7 b8 : Nat) (w : World) (x0 : 0 ≤ x) (x1 : x ≤ 255) (y0 : 0 ≤ y) (y1 : y ≤ 255) (s0 : 0 ≤ sa) (s1 : sa ≤ 255) (d0 : 0 ≤ da) (d1 : da ≤ 255) (k8 : Bk w b8 3 #[.int .i64 da]) (k7 : Bk w b7 3 #[.int .i64 sa]) :
    Calls Try.prog 50 #[.int .u8 x, .int .u8 y, .pointer (some ⟨b8, 0, none⟩), .pointer (some ⟨b7, 0, none⟩)] w fun e w' => e = .returned (.int .i64 (baseP x y sa da)) ∧ w = w' := by
  obtain ⟨kc7, kf7, ka7, kg7, kl7⟩ := k7.rules
  obtain ⟨kc8, kf8, ka8, kg8, kl8⟩ := k8.rules
  have m1 := mul_byte (x := x) (y := 255 - da) x0 x1 (by omega) (by omega)
  have m2 := mul_byte (x := y) (y := 255 - sa) y0 y1 (by omega) (by omega)
  unfold baseP
  go_enter Try.func50, Try.ntmps50
  go_wp2
  go_ret
  exact ⟨rfl, rfl⟩


theorem scaled_inR {s d : Px} (hs : s.ok) (hd : d.ok) : (scaledP s d.a).inR := by
  obtain ⟨r0, r1, g0, g1, b0, b1, a0, a1⟩ := hs
  obtain ⟨r0', r1', g0', g1', b0', b1', a0', a1'⟩ := hd
  have e1 := mul_byte r0 (by omega) a0' a1'
  have e2 := mul_byte g0 (by omega) a0' a1'
  have e3 := mul_byte b0 (by omega) a0' a1'
  unfold C3.inR scaledP; simp only; omega
theorem recipe_q (mode : Int) (s d : C3) (a : Int) (q : Rcp) (hq : Hid (recipeP mode s d a = q)) (w : World) (hs : Hid s.inR) (hd : Hid d.inR) :
    Calls Try.prog 48 #[.int .i64 mode, .agg #[.int .i64 s.r, .int .i64 s.g, .int .i64 s.b], .agg #[.int .i64 d.r, .int .i64 d.g, .int .i64 d.b], .int .i64 a] w fun e w' =>
      e = .returned (.agg #[.int .i64 q.c.r, .int .i64 q.c.g, .int .i64 q.c.b, .int .i64 q.t, .int .i64 q.l, .int .i64 q.a]) ∧ Below w.heap.size w w' := by
  have h := hq.out; subst h; exact recipe_any mode s d a w hs hd

theorem base_bd {x y sa da : Int} (h0 : 0 ≤ x) (h1 : x ≤ sa) (h2 : sa ≤ 255) (h3 : 0 ≤ y) (h4 : y ≤ da) (h5 : da ≤ 255) : 0 ≤ baseP x y sa da ∧ baseP x y sa da + sa * da ≤ 65025 := by
  have a1 := mul_le h0 h1 (show 0 ≤ 255 - da by omega) (Int.le_refl (255 - da))
  have a2 := mul_le h3 h4 (show 0 ≤ 255 - sa by omega) (Int.le_refl (255 - sa))
  have a3 := Int.mul_nonneg (show 0 ≤ 255 - sa by omega) (show 0 ≤ 255 - da by omega)
  have e1 : sa * (255 - da) = 255 * sa - sa * da := by rw [Int.mul_sub]; omega
  have e2 : da * (255 - sa) = 255 * da - sa * da := by rw [Int.mul_sub, Int.mul_comm da sa]; omega
  have e3 : (255 - sa) * (255 - da) = 65025 - 255 * sa - 255 * da + sa * da := by rw [Int.sub_mul, Int.mul_sub, Int.mul_sub]; omega
  unfold baseP
  omega

set_option maxHeartbeats 4000000 in
theorem colors_any (mode : Int) (s d : Px) (w : World) (hs : s.ok) (hd : d.ok) (P : Px) (HP : Hid (wholeBlend mode s d = P)) :
    Calls Try.prog 40 #[.int .i64 mode, .agg #[.int .u8 s.r, .int .u8 s.g, .int .u8 s.b, .int .u8 s.a], .agg #[.int .u8 d.r, .int .u8 d.g, .int .u8 d.b, .int .u8 d.a]] w fun e w' =>
      e = .returned (.agg #[.int .u8 P.r, .int .u8 P.g, .int .u8 P.b, .int .u8 P.a]) ∧ Below w.heap.size w w' := by
  obtain ⟨q, Hq0⟩ : ∃ q, Hid (recipeP mode (scaledP s d.a) (scaledP d s.a) (s.a * d.a) = q) := ⟨_, rfl⟩
  have hfit := recipe_fit mode hs hd
  rw [Hq0.out] at hfit
  have hE := HP.out
  unfold wholeBlend at hE
  simp only [Hq0.out] at hE
  subst hE
  clear HP
  have HI1 := Lib.hid (scaled_inR hs hd)
  have HI2 := Lib.hid (scaled_inR hd hs)
  obtain ⟨cs, Hcs⟩ : ∃ q, Hid (scaledP s d.a = q) := ⟨_, rfl⟩
  obtain ⟨cd, Hcd⟩ : ∃ q, Hid (scaledP d s.a = q) := ⟨_, rfl⟩
  rw [Hcs.out] at HI1
  rw [Hcd.out] at HI2
  obtain ⟨a, Ha⟩ : ∃ q, Hid (s.a * d.a = q) := ⟨_, rfl⟩
  have Hq : Hid (recipeP mode cs cd a = q) := by have h := Hq0.out; rw [Hcs.out, Hcd.out, Ha.out] at h; exact h
  clear Hq0
  obtain ⟨HF0, hqa⟩ := hfit
  have HF := Lib.hid HF0
  have hsb := Lib.hid hs.byte
  have hdb := Lib.hid hd.byte
  obtain ⟨r0, r1, g0, g1, b0, b1, a0, a1⟩ := hs
  obtain ⟨r0', r1', g0', g1', b0', b1', a0', a1'⟩ := hd
  have eA0 := mul_byte a0 a1 a0' a1'
  have ea : IntKind.i64.wrap (s.a * d.a) = a := by rw [← Ha.out]; exact IntWalk.i64_in _ (by omega)
  rw [Ha.out] at hqa eA0
  have f1 : IntKind.i64.wrap s.a = s.a := IntWalk.i64_in _ (by omega)
  have f2 : IntKind.i64.wrap d.a = d.a := IntWalk.i64_in _ (by omega)
  have Hqa := Lib.hid hqa
  obtain ⟨n4, Hn4⟩ : ∃ n, Hid (s.a * (255 - d.a) + d.a * (255 - s.a) + s.a * d.a = n) := ⟨_, rfl⟩
  have hal : alphaP s.a d.a = dn8 n4 := by unfold alphaP; rw [Hn4.out]
  rw [hal]
  clear hal
  clear HF0 hqa
  go_enter Try.func40, Try.ntmps40
  go_wp2_with fail
  refine wp_region_mixs 10 [0, 1, 2, 3, 4, 5] [] [6, 7] [8, 9] (fun _ => 3) (fun _ => #[.int .i64 0]) (by kernel_rfl) (by kernel_rfl) (fun c a d v w h => by cases d <;> exact h) (fun c a d v w h => by cases d <;> exact h) (fun j hj => by simp only [List.mem_cons, List.not_mem_nil, or_false] at hj; rcases hj with rfl | rfl <;> exact ⟨_, rfl, rfl, fun a w => by go_simp; rfl⟩) ?_
  simp only [List.map_cons, List.map_nil]
  repeat (refine wpGo_pure (v := ?_) rfl rfl (fun w' hS => ?_) ?_; rotate_left; (· have kSp : Bk w' (w.heap.size) 29 #[.int .u8 s.r, .int .u8 s.g, .int .u8 s.b, .int .u8 s.a] := (by repeat (first | (with_reducible assumption) | ((with_reducible refine Bk.new _ _ _ ?_); first | (with_reducible rfl) | (simp; done)) | (with_reducible refine Bk.alloc ?_ _) | (with_reducible refine Bk.drew ?_) | (with_reducible refine Bk.drewN ?_ _) | ((with_reducible refine Bk.far ?_ ?_ _); rotate_left; focus (first | (simp; done) | (simp; omega))) | (with_reducible refine Bk.below ?_ (by with_reducible assumption)))); obtain ⟨kcSp, kfSp, kaSp, kgSp, klSp⟩ := kSp.rules; have kDp : Bk w' (w.heap.size + 1) 29 #[.int .u8 d.r, .int .u8 d.g, .int .u8 d.b, .int .u8 d.a] := (by repeat (first | (with_reducible assumption) | ((with_reducible refine Bk.new _ _ _ ?_); first | (with_reducible rfl) | (simp; done)) | (with_reducible refine Bk.alloc ?_ _) | (with_reducible refine Bk.drew ?_) | (with_reducible refine Bk.drewN ?_ _) | ((with_reducible refine Bk.far ?_ ?_ _); rotate_left; focus (first | (simp; done) | (simp; omega))) | (with_reducible refine Bk.below ?_ (by with_reducible assumption)))); obtain ⟨kcDp, kfDp, kaDp, kgDp, klDp⟩ := kDp.rules; go_simp; exact rfl); (try simp only [Act.put, List.setIfInBounds_toArray, List.set_cons_zero, List.set_cons_succ]))
  refine wpGo_nil ?_
  refine wpMix_end (fun β w1 hb1 hbk hne => ?_)
  obtain ⟨k6, l6⟩ := hbk 6 (by simp)
  obtain ⟨k7, l7⟩ := hbk 7 (by simp)
  have ne67 := hne 6 (by simp) 7 (by simp) (by decide)
  clear hbk hne
  simp only [putAll, dstOf, ptrTo, List.foldl_cons, List.foldl_nil, List.getElem?_toArray, List.getElem?_cons_succ, List.getElem?_cons_zero, Option.bind_some, Act.put, List.setIfInBounds_toArray, List.set_cons_zero, List.set_cons_succ, List.drop_succ_cons, List.drop_zero]
  generalize β 6 = b6 at *
  generalize β 7 = b7 at *
  clear β
  have l6' : w.heap.size + 1 + 1 + 1 ≤ b6 := by simpa using l6
  have l7' : w.heap.size + 1 + 1 + 1 ≤ b7 := by simpa using l7
  clear l6 l7
  obtain ⟨kc6, kf6, ka6, kg6, kl6⟩ := k6.rules
  obtain ⟨kc7, kf7, ka7, kg7, kl7⟩ := k7.rules
  have kS1 : Bk w1 (w.heap.size) 29 #[.int .u8 s.r, .int .u8 s.g, .int .u8 s.b, .int .u8 s.a] := (by repeat (first | (with_reducible assumption) | ((with_reducible refine Bk.new _ _ _ ?_); first | (with_reducible rfl) | (simp; done)) | (with_reducible refine Bk.alloc ?_ _) | (with_reducible refine Bk.drew ?_) | (with_reducible refine Bk.drewN ?_ _) | ((with_reducible refine Bk.far ?_ ?_ _); rotate_left; focus (first | (simp; done) | (simp; omega))) | (with_reducible refine Bk.below ?_ (by with_reducible assumption)))); obtain ⟨kcS1, kfS1, kaS1, kgS1, klS1⟩ := kS1.rules; have kD1 : Bk w1 (w.heap.size + 1) 29 #[.int .u8 d.r, .int .u8 d.g, .int .u8 d.b, .int .u8 d.a] := (by repeat (first | (with_reducible assumption) | ((with_reducible refine Bk.new _ _ _ ?_); first | (with_reducible rfl) | (simp; done)) | (with_reducible refine Bk.alloc ?_ _) | (with_reducible refine Bk.drew ?_) | (with_reducible refine Bk.drewN ?_ _) | ((with_reducible refine Bk.far ?_ ?_ _); rotate_left; focus (first | (simp; done) | (simp; omega))) | (with_reducible refine Bk.below ?_ (by with_reducible assumption)))); obtain ⟨kcD1, kfD1, kaD1, kgD1, klD1⟩ := kD1.rules; have kO1 : Bk w1 (w.heap.size + 1 + 1) 29 #[.int .u8 0, .int .u8 0, .int .u8 0, .int .u8 0] := (by repeat (first | (with_reducible assumption) | ((with_reducible refine Bk.new _ _ _ ?_); first | (with_reducible rfl) | (simp; done)) | (with_reducible refine Bk.alloc ?_ _) | (with_reducible refine Bk.drew ?_) | (with_reducible refine Bk.drewN ?_ _) | ((with_reducible refine Bk.far ?_ ?_ _); rotate_left; focus (first | (simp; done) | (simp; omega))) | (with_reducible refine Bk.below ?_ (by with_reducible assumption)))); obtain ⟨kcO1, kfO1, kaO1, kgO1, klO1⟩ := kO1.rules
  clear kcS1 kfS1 kaS1 kgS1 kcD1 kfD1 kaD1 kgD1 kcO1 kfO1 kaO1 kgO1
  refine wpGo_eff rfl (fun K hK => ?_)
  go_simp
  refine hK.out _ _ (by repeat (first | (with_reducible exact Below.refl _ _) | (with_reducible refine balloc ?_ _) | (with_reducible refine Below.drew ?_) | (with_reducible refine bdrewN ?_ _) | ((with_reducible refine bset ?_ ?_ _); rotate_left; focus (first | (with_reducible exact Nat.le_refl _) | (simp; done) | (simp; omega) | omega)) | (with_reducible refine bstep (by with_reducible assumption) ?_))) (fun hS2 => ?_)
  clear hK K
  refine wpGo_eff rfl (fun K hK => ?_)
  go_simp
  refine hK.out _ _ (by repeat (first | (with_reducible exact Below.refl _ _) | (with_reducible refine balloc ?_ _) | (with_reducible refine Below.drew ?_) | (with_reducible refine bdrewN ?_ _) | ((with_reducible refine bset ?_ ?_ _); rotate_left; focus (first | (with_reducible exact Nat.le_refl _) | (simp; done) | (simp; omega) | omega)) | (with_reducible refine bstep (by with_reducible assumption) ?_))) (fun hS3 => ?_)
  clear hK K
  refine wpGo_nil ?_
  have kS : Bk _ (w.heap.size) 29 #[.int .u8 s.r, .int .u8 s.g, .int .u8 s.b, .int .u8 s.a] := ((kS1.far (p := ⟨b6, 0, none⟩) (by simp; omega) (.int .i64 s.a)).far (p := ⟨b7, 0, none⟩) (by simp; omega) (.int .i64 d.a))
  have kD : Bk _ (w.heap.size + 1) 29 #[.int .u8 d.r, .int .u8 d.g, .int .u8 d.b, .int .u8 d.a] := ((kD1.far (p := ⟨b6, 0, none⟩) (by simp; omega) (.int .i64 s.a)).far (p := ⟨b7, 0, none⟩) (by simp; omega) (.int .i64 d.a))
  have kO : Bk _ (w.heap.size + 1 + 1) 29 #[.int .u8 0, .int .u8 0, .int .u8 0, .int .u8 0] := ((kO1.far (p := ⟨b6, 0, none⟩) (by simp; omega) (.int .i64 s.a)).far (p := ⟨b7, 0, none⟩) (by simp; omega) (.int .i64 d.a))
  have kA : Bk _ b6 3 #[.int .i64 s.a] := ((k6.set 0 (.int .i64 s.a)).far (p := ⟨b7, 0, none⟩) ne67 (.int .i64 d.a))
  have kB : Bk _ b7 3 #[.int .i64 d.a] := ((k7.far (p := ⟨b6, 0, none⟩) ne67.symm (.int .i64 s.a)).set 0 (.int .i64 d.a))
  have hW0 : Below w.heap.size w w1 := (by repeat (first | (with_reducible exact Below.refl _ _) | (with_reducible refine balloc ?_ _) | (with_reducible refine Below.drew ?_) | (with_reducible refine bdrewN ?_ _) | ((with_reducible refine bset ?_ ?_ _); rotate_left; focus (first | (with_reducible exact Nat.le_refl _) | (simp; done) | (simp; omega) | omega)) | (with_reducible refine bstep (by with_reducible assumption) ?_)))
  have hW := (bset (bset hW0 (p := ⟨b6, 0, none⟩) (by show _ ≤ b6; omega) (.int .i64 s.a)) (p := ⟨b7, 0, none⟩) (by show _ ≤ b7; omega) (.int .i64 d.a))
  clear k6 k7 kS1 kD1 kO1 kc6 kf6 ka6 kg6 kl6 kc7 kf7 ka7 kg7 kl7 hb1 hS2 hS3 klS1 klD1 klO1 hW0 f1 f2
  go_wp2_with fail
  generalize ((w1.setCell ⟨b6, 0, none⟩ (.int .i64 s.a)).setCell ⟨b7, 0, none⟩ (.int .i64 d.a)) = w2 at hW kS kD kO kA kB ⊢
  clear w1
  refine wp_region_mix 12 [0, 1, 2, 4, 5, 7, 8, 9] [3, 6, 10] [11] (fun _ => 63) (fun _ => #[.int .i64 0, .int .i64 0, .int .i64 0, .int .i64 0, .int .i64 0, .int .i64 0]) (by kernel_rfl) (by kernel_rfl) (fun c a d v w h => by cases d <;> exact h) (fun c a d v w h => by cases d <;> exact h) (fun j hj => by simp only [List.mem_cons, List.not_mem_nil, or_false] at hj; rcases hj with rfl <;> exact ⟨_, rfl, rfl, fun a w => by go_simp; rfl⟩) ?_
  simp only [List.map_cons, List.map_nil]
  repeat (refine wpGo_pure (v := ?_) rfl rfl (fun w' hS => ?_) ?_; rotate_left; (· have kSp : Bk w' (w.heap.size) 29 #[.int .u8 s.r, .int .u8 s.g, .int .u8 s.b, .int .u8 s.a] := (by repeat (first | (with_reducible assumption) | ((with_reducible refine Bk.new _ _ _ ?_); first | (with_reducible rfl) | (simp; done)) | (with_reducible refine Bk.alloc ?_ _) | (with_reducible refine Bk.drew ?_) | (with_reducible refine Bk.drewN ?_ _) | ((with_reducible refine Bk.far ?_ ?_ _); rotate_left; focus (first | (simp; done) | (simp; omega))) | (with_reducible refine Bk.below ?_ (by with_reducible assumption)))); obtain ⟨kcSp, kfSp, kaSp, kgSp, klSp⟩ := kSp.rules; have kDp : Bk w' (w.heap.size + 1) 29 #[.int .u8 d.r, .int .u8 d.g, .int .u8 d.b, .int .u8 d.a] := (by repeat (first | (with_reducible assumption) | ((with_reducible refine Bk.new _ _ _ ?_); first | (with_reducible rfl) | (simp; done)) | (with_reducible refine Bk.alloc ?_ _) | (with_reducible refine Bk.drew ?_) | (with_reducible refine Bk.drewN ?_ _) | ((with_reducible refine Bk.far ?_ ?_ _); rotate_left; focus (first | (simp; done) | (simp; omega))) | (with_reducible refine Bk.below ?_ (by with_reducible assumption)))); obtain ⟨kcDp, kfDp, kaDp, kgDp, klDp⟩ := kDp.rules; have kAp : Bk w' (b6) 3 #[.int .i64 s.a] := (by repeat (first | (with_reducible assumption) | ((with_reducible refine Bk.new _ _ _ ?_); first | (with_reducible rfl) | (simp; done)) | (with_reducible refine Bk.alloc ?_ _) | (with_reducible refine Bk.drew ?_) | (with_reducible refine Bk.drewN ?_ _) | ((with_reducible refine Bk.far ?_ ?_ _); rotate_left; focus (first | (simp; done) | (simp; omega))) | (with_reducible refine Bk.below ?_ (by with_reducible assumption)))); obtain ⟨kcAp, kfAp, kaAp, kgAp, klAp⟩ := kAp.rules; have kBp : Bk w' (b7) 3 #[.int .i64 d.a] := (by repeat (first | (with_reducible assumption) | ((with_reducible refine Bk.new _ _ _ ?_); first | (with_reducible rfl) | (simp; done)) | (with_reducible refine Bk.alloc ?_ _) | (with_reducible refine Bk.drew ?_) | (with_reducible refine Bk.drewN ?_ _) | ((with_reducible refine Bk.far ?_ ?_ _); rotate_left; focus (first | (simp; done) | (simp; omega))) | (with_reducible refine Bk.below ?_ (by with_reducible assumption)))); obtain ⟨kcBp, kfBp, kaBp, kgBp, klBp⟩ := kBp.rules; go_simp; exact rfl); (try simp only [Act.put, List.setIfInBounds_toArray, List.set_cons_zero, List.set_cons_succ]))
  refine wpGo_nil ?_
  refine wpMix_call rfl (fun w3a hb3a K hK => ?_)
  go_simp
  refine (scaled_any s d.a cs Hcs _ hsb.out a0' a1').mono ?_
  rintro e w3 ⟨rfl, hb3⟩
  refine hK.out _ _ hb3 (fun _ => ?_)
  clear hK K
  refine wpMix_call rfl (fun w4a hb4a K hK => ?_)
  go_simp
  refine (scaled_any d s.a cd Hcd _ hdb.out a0 a1).mono ?_
  rintro e w4 ⟨rfl, hb4⟩
  refine hK.out _ _ hb4 (fun _ => ?_)
  clear hK K
  refine wpMix_call rfl (fun w5a hb5a K hK => ?_)
  go_simp
  refine (recipe_q mode cs cd a q Hq _ HI1 HI2).mono ?_
  rintro e w5 ⟨rfl, hb5⟩
  refine hK.out _ _ hb5 (fun _ => ?_)
  clear hK K
  refine wpMix_end (fun β w6 hb6 hbk hne => ?_)
  obtain ⟨k11, l11⟩ := hbk 11 (by simp)
  clear hbk hne
  simp only [putAll, dstOf, ptrTo, List.foldl_cons, List.foldl_nil, List.getElem?_toArray, List.getElem?_cons_succ, List.getElem?_cons_zero, Option.bind_some, Act.put, List.setIfInBounds_toArray, List.set_cons_zero, List.set_cons_succ, List.drop_succ_cons, List.drop_zero]
  generalize β 11 = b11 at *
  clear β
  have klS := kS.lt
  have klD := kD.lt
  have klO := kO.lt
  have klA := kA.lt
  have klB := kB.lt
  have kS6 : Bk w6 (w.heap.size) 29 #[.int .u8 s.r, .int .u8 s.g, .int .u8 s.b, .int .u8 s.a] := (by repeat (first | (with_reducible assumption) | ((with_reducible refine Bk.new _ _ _ ?_); first | (with_reducible rfl) | (simp; done)) | (with_reducible refine Bk.alloc ?_ _) | (with_reducible refine Bk.drew ?_) | (with_reducible refine Bk.drewN ?_ _) | ((with_reducible refine Bk.far ?_ ?_ _); rotate_left; focus (first | (simp; done) | (simp; omega))) | (with_reducible refine Bk.below ?_ (by with_reducible assumption)))); obtain ⟨kcS6, kfS6, kaS6, kgS6, klS6⟩ := kS6.rules; have kD6 : Bk w6 (w.heap.size + 1) 29 #[.int .u8 d.r, .int .u8 d.g, .int .u8 d.b, .int .u8 d.a] := (by repeat (first | (with_reducible assumption) | ((with_reducible refine Bk.new _ _ _ ?_); first | (with_reducible rfl) | (simp; done)) | (with_reducible refine Bk.alloc ?_ _) | (with_reducible refine Bk.drew ?_) | (with_reducible refine Bk.drewN ?_ _) | ((with_reducible refine Bk.far ?_ ?_ _); rotate_left; focus (first | (simp; done) | (simp; omega))) | (with_reducible refine Bk.below ?_ (by with_reducible assumption)))); obtain ⟨kcD6, kfD6, kaD6, kgD6, klD6⟩ := kD6.rules; have kO6 : Bk w6 (w.heap.size + 1 + 1) 29 #[.int .u8 0, .int .u8 0, .int .u8 0, .int .u8 0] := (by repeat (first | (with_reducible assumption) | ((with_reducible refine Bk.new _ _ _ ?_); first | (with_reducible rfl) | (simp; done)) | (with_reducible refine Bk.alloc ?_ _) | (with_reducible refine Bk.drew ?_) | (with_reducible refine Bk.drewN ?_ _) | ((with_reducible refine Bk.far ?_ ?_ _); rotate_left; focus (first | (simp; done) | (simp; omega))) | (with_reducible refine Bk.below ?_ (by with_reducible assumption)))); obtain ⟨kcO6, kfO6, kaO6, kgO6, klO6⟩ := kO6.rules; have kA6 : Bk w6 (b6) 3 #[.int .i64 s.a] := (by repeat (first | (with_reducible assumption) | ((with_reducible refine Bk.new _ _ _ ?_); first | (with_reducible rfl) | (simp; done)) | (with_reducible refine Bk.alloc ?_ _) | (with_reducible refine Bk.drew ?_) | (with_reducible refine Bk.drewN ?_ _) | ((with_reducible refine Bk.far ?_ ?_ _); rotate_left; focus (first | (simp; done) | (simp; omega))) | (with_reducible refine Bk.below ?_ (by with_reducible assumption)))); obtain ⟨kcA6, kfA6, kaA6, kgA6, klA6⟩ := kA6.rules; have kB6 : Bk w6 (b7) 3 #[.int .i64 d.a] := (by repeat (first | (with_reducible assumption) | ((with_reducible refine Bk.new _ _ _ ?_); first | (with_reducible rfl) | (simp; done)) | (with_reducible refine Bk.alloc ?_ _) | (with_reducible refine Bk.drew ?_) | (with_reducible refine Bk.drewN ?_ _) | ((with_reducible refine Bk.far ?_ ?_ _); rotate_left; focus (first | (simp; done) | (simp; omega))) | (with_reducible refine Bk.below ?_ (by with_reducible assumption)))); obtain ⟨kcB6, kfB6, kaB6, kgB6, klB6⟩ := kB6.rules
  obtain ⟨kc11, kf11, ka11, kg11, kl11⟩ := k11.rules
  have nS : w.heap.size ≠ b11 := by omega
  have nD : w.heap.size + 1 ≠ b11 := by omega
  have nO : w.heap.size + 1 + 1 ≠ b11 := by omega
  have nA : b6 ≠ b11 := by omega
  have nB : b7 ≠ b11 := by omega
  have jS : Bk _ (w.heap.size) 29 #[.int .u8 s.r, .int .u8 s.g, .int .u8 s.b, .int .u8 s.a] := ((((((kS6.far (p := ⟨b11, 0, none⟩) nS (.int .i64 q.c.r)).far (p := ⟨b11, 1, none⟩) nS (.int .i64 q.c.g)).far (p := ⟨b11, 2, none⟩) nS (.int .i64 q.c.b)).far (p := ⟨b11, 3, none⟩) nS (.int .i64 q.t)).far (p := ⟨b11, 4, none⟩) nS (.int .i64 q.l)).far (p := ⟨b11, 5, none⟩) nS (.int .i64 q.a))
  have jD : Bk _ (w.heap.size + 1) 29 #[.int .u8 d.r, .int .u8 d.g, .int .u8 d.b, .int .u8 d.a] := ((((((kD6.far (p := ⟨b11, 0, none⟩) nD (.int .i64 q.c.r)).far (p := ⟨b11, 1, none⟩) nD (.int .i64 q.c.g)).far (p := ⟨b11, 2, none⟩) nD (.int .i64 q.c.b)).far (p := ⟨b11, 3, none⟩) nD (.int .i64 q.t)).far (p := ⟨b11, 4, none⟩) nD (.int .i64 q.l)).far (p := ⟨b11, 5, none⟩) nD (.int .i64 q.a))
  have jO : Bk _ (w.heap.size + 1 + 1) 29 #[.int .u8 0, .int .u8 0, .int .u8 0, .int .u8 0] := ((((((kO6.far (p := ⟨b11, 0, none⟩) nO (.int .i64 q.c.r)).far (p := ⟨b11, 1, none⟩) nO (.int .i64 q.c.g)).far (p := ⟨b11, 2, none⟩) nO (.int .i64 q.c.b)).far (p := ⟨b11, 3, none⟩) nO (.int .i64 q.t)).far (p := ⟨b11, 4, none⟩) nO (.int .i64 q.l)).far (p := ⟨b11, 5, none⟩) nO (.int .i64 q.a))
  have jA : Bk _ b6 3 #[.int .i64 s.a] := ((((((kA6.far (p := ⟨b11, 0, none⟩) nA (.int .i64 q.c.r)).far (p := ⟨b11, 1, none⟩) nA (.int .i64 q.c.g)).far (p := ⟨b11, 2, none⟩) nA (.int .i64 q.c.b)).far (p := ⟨b11, 3, none⟩) nA (.int .i64 q.t)).far (p := ⟨b11, 4, none⟩) nA (.int .i64 q.l)).far (p := ⟨b11, 5, none⟩) nA (.int .i64 q.a))
  have jB : Bk _ b7 3 #[.int .i64 d.a] := ((((((kB6.far (p := ⟨b11, 0, none⟩) nB (.int .i64 q.c.r)).far (p := ⟨b11, 1, none⟩) nB (.int .i64 q.c.g)).far (p := ⟨b11, 2, none⟩) nB (.int .i64 q.c.b)).far (p := ⟨b11, 3, none⟩) nB (.int .i64 q.t)).far (p := ⟨b11, 4, none⟩) nB (.int .i64 q.l)).far (p := ⟨b11, 5, none⟩) nB (.int .i64 q.a))
  have jQ : Bk _ b11 63 #[.int .i64 q.c.r, .int .i64 q.c.g, .int .i64 q.c.b, .int .i64 q.t, .int .i64 q.l, .int .i64 q.a] := ((((((k11.set 0 (.int .i64 q.c.r)).set 1 (.int .i64 q.c.g)).set 2 (.int .i64 q.c.b)).set 3 (.int .i64 q.t)).set 4 (.int .i64 q.l)).set 5 (.int .i64 q.a))
  have hW6 : Below w.heap.size w w6 := (by repeat (first | (with_reducible exact Below.refl _ _) | (with_reducible refine balloc ?_ _) | (with_reducible refine Below.drew ?_) | (with_reducible refine bdrewN ?_ _) | ((with_reducible refine bset ?_ ?_ _); rotate_left; focus (first | (with_reducible exact Nat.le_refl _) | (simp; done) | (simp; omega) | omega)) | (with_reducible refine bstep (by with_reducible assumption) ?_)))
  have hV := (bset (bset (bset (bset (bset (bset hW6 (p := ⟨b11, 0, none⟩) (by show _ ≤ b11; omega) (.int .i64 q.c.r)) (p := ⟨b11, 1, none⟩) (by show _ ≤ b11; omega) (.int .i64 q.c.g)) (p := ⟨b11, 2, none⟩) (by show _ ≤ b11; omega) (.int .i64 q.c.b)) (p := ⟨b11, 3, none⟩) (by show _ ≤ b11; omega) (.int .i64 q.t)) (p := ⟨b11, 4, none⟩) (by show _ ≤ b11; omega) (.int .i64 q.l)) (p := ⟨b11, 5, none⟩) (by show _ ≤ b11; omega) (.int .i64 q.a))
  clear kS kD kO kA kB kcS6 kfS6 kaS6 kgS6 klS6 kcD6 kfD6 kaD6 kgD6 klD6 kcO6 kfO6 kaO6 kgO6 klO6 kcA6 kfA6 kaA6 kgA6 klA6 kcB6 kfB6 kaB6 kgB6 klB6 kS6 kD6 kO6 kA6 kB6 k11 hW6 hb6 hb5 hb5a hb4 hb4a hb3 hb3a hW nS nD nO nA nB klS klD klO klA klB
  go_wp2_with fail
  generalize ((((((w6.setCell ⟨b11, 0, none⟩ (.int .i64 q.c.r)).setCell ⟨b11, 1, none⟩ (.int .i64 q.c.g)).setCell ⟨b11, 2, none⟩ (.int .i64 q.c.b)).setCell ⟨b11, 3, none⟩ (.int .i64 q.t)).setCell ⟨b11, 4, none⟩ (.int .i64 q.l)).setCell ⟨b11, 5, none⟩ (.int .i64 q.a)) = w7 at hV jS jD jO jA jB jQ ⊢
  clear kc11 kf11 ka11 kg11 kl11 l11
  obtain ⟨u1, u2⟩ := base_bd r0 r1 a1 r0' r1' a1'
  obtain ⟨u3, u4⟩ := base_bd g0 g1 a1 g0' g1' a1'
  obtain ⟨u5, u6⟩ := base_bd b0 b1 a1 b0' b1' a1'
  obtain ⟨y1, y2, y3, y4, y5, y6⟩ := low_high q.c
  have m1 := mul_byte (x := s.a) (y := 255 - d.a) a0 a1 (by omega) (by omega)
  have m2 := mul_byte (x := d.a) (y := 255 - s.a) a0' a1' (by omega) (by omega)
  have hn4 : 0 ≤ n4 ∧ n4 ≤ 200000 := by have h1 := Hn4.out; have h2 := Ha.out; omega
  have x1 : IntKind.i64.wrap (255 - d.a) = 255 - d.a := IntWalk.i64_in _ (by omega)
  have x2 : IntKind.i64.wrap (s.a * (255 - d.a)) = s.a * (255 - d.a) := IntWalk.i64_in _ (by omega)
  have x3 : IntKind.i64.wrap (255 - s.a) = 255 - s.a := IntWalk.i64_in _ (by omega)
  have x4 : IntKind.i64.wrap (d.a * (255 - s.a)) = d.a * (255 - s.a) := IntWalk.i64_in _ (by omega)
  have x5 : IntKind.i64.wrap (s.a * (255 - d.a) + d.a * (255 - s.a)) = s.a * (255 - d.a) + d.a * (255 - s.a) := IntWalk.i64_in _ (by omega)
  have x6 : IntKind.i64.wrap (s.a * (255 - d.a) + d.a * (255 - s.a) + a) = n4 := by rw [← Ha.out, Hn4.out]; exact IntWalk.i64_in _ (by omega)
  go_wp2_with fail
  refine wp_region_gob 48 [(0, true), (1, true), (2, true), (3, true), (4, true), (5, true), (7, true), (8, true), (9, true), (11, true), (12, true), (13, true), (14, true), (15, true), (16, true), (18, true), (19, true), (20, true), (22, true), (23, true), (24, true), (25, true), (26, true), (27, true), (29, true), (30, true), (31, true), (33, true), (34, true), (35, true), (36, true), (37, true), (38, true), (39, true), (40, true), (41, true), (42, true), (43, true), (44, true), (45, true), (6, false), (10, false), (17, false), (21, false), (28, false), (32, false), (46, false), (47, true)] (by kernel_rfl) (by kernel_rfl) (fun c a d v w h => by cases d <;> exact h) ?_
  repeat (refine wpGo_pure (v := ?_) rfl rfl (fun w' hS => ?_) ?_; rotate_left; (· have kSp : Bk w' (w.heap.size) 29 #[.int .u8 s.r, .int .u8 s.g, .int .u8 s.b, .int .u8 s.a] := (by repeat (first | (with_reducible assumption) | ((with_reducible refine Bk.new _ _ _ ?_); first | (with_reducible rfl) | (simp; done)) | (with_reducible refine Bk.alloc ?_ _) | (with_reducible refine Bk.drew ?_) | (with_reducible refine Bk.drewN ?_ _) | ((with_reducible refine Bk.far ?_ ?_ _); rotate_left; focus (first | (simp; done) | (simp; omega))) | (with_reducible refine Bk.below ?_ (by with_reducible assumption)))); obtain ⟨kcSp, kfSp, kaSp, kgSp, klSp⟩ := kSp.rules; have kDp : Bk w' (w.heap.size + 1) 29 #[.int .u8 d.r, .int .u8 d.g, .int .u8 d.b, .int .u8 d.a] := (by repeat (first | (with_reducible assumption) | ((with_reducible refine Bk.new _ _ _ ?_); first | (with_reducible rfl) | (simp; done)) | (with_reducible refine Bk.alloc ?_ _) | (with_reducible refine Bk.drew ?_) | (with_reducible refine Bk.drewN ?_ _) | ((with_reducible refine Bk.far ?_ ?_ _); rotate_left; focus (first | (simp; done) | (simp; omega))) | (with_reducible refine Bk.below ?_ (by with_reducible assumption)))); obtain ⟨kcDp, kfDp, kaDp, kgDp, klDp⟩ := kDp.rules; have kAp : Bk w' (b6) 3 #[.int .i64 s.a] := (by repeat (first | (with_reducible assumption) | ((with_reducible refine Bk.new _ _ _ ?_); first | (with_reducible rfl) | (simp; done)) | (with_reducible refine Bk.alloc ?_ _) | (with_reducible refine Bk.drew ?_) | (with_reducible refine Bk.drewN ?_ _) | ((with_reducible refine Bk.far ?_ ?_ _); rotate_left; focus (first | (simp; done) | (simp; omega))) | (with_reducible refine Bk.below ?_ (by with_reducible assumption)))); obtain ⟨kcAp, kfAp, kaAp, kgAp, klAp⟩ := kAp.rules; have kBp : Bk w' (b7) 3 #[.int .i64 d.a] := (by repeat (first | (with_reducible assumption) | ((with_reducible refine Bk.new _ _ _ ?_); first | (with_reducible rfl) | (simp; done)) | (with_reducible refine Bk.alloc ?_ _) | (with_reducible refine Bk.drew ?_) | (with_reducible refine Bk.drewN ?_ _) | ((with_reducible refine Bk.far ?_ ?_ _); rotate_left; focus (first | (simp; done) | (simp; omega))) | (with_reducible refine Bk.below ?_ (by with_reducible assumption)))); obtain ⟨kcBp, kfBp, kaBp, kgBp, klBp⟩ := kBp.rules; have kQp : Bk w' (b11) 63 #[.int .i64 q.c.r, .int .i64 q.c.g, .int .i64 q.c.b, .int .i64 q.t, .int .i64 q.l, .int .i64 q.a] := (by repeat (first | (with_reducible assumption) | ((with_reducible refine Bk.new _ _ _ ?_); first | (with_reducible rfl) | (simp; done)) | (with_reducible refine Bk.alloc ?_ _) | (with_reducible refine Bk.drew ?_) | (with_reducible refine Bk.drewN ?_ _) | ((with_reducible refine Bk.far ?_ ?_ _); rotate_left; focus (first | (simp; done) | (simp; omega))) | (with_reducible refine Bk.below ?_ (by with_reducible assumption)))); obtain ⟨kcQp, kfQp, kaQp, kgQp, klQp⟩ := kQp.rules; go_simp; exact rfl); (try simp only [Act.put, List.setIfInBounds_toArray, List.set_cons_zero, List.set_cons_succ]))
  clear x1 x2 x3 x4 x5 x6 ea
  refine wpGo_eff rfl (fun K hK => ?_)
  go_simp
  refine (base_any s.r d.r s.a d.a b6 b7 _ r0 (by omega) r0' (by omega) a0 a1 a0' a1' (by repeat (first | (with_reducible assumption) | ((with_reducible refine Bk.new _ _ _ ?_); first | (with_reducible rfl) | (simp; done)) | (with_reducible refine Bk.alloc ?_ _) | (with_reducible refine Bk.drew ?_) | (with_reducible refine Bk.drewN ?_ _) | ((with_reducible refine Bk.far ?_ ?_ _); rotate_left; focus (first | (simp; done) | (simp; omega))) | (with_reducible refine Bk.below ?_ (by with_reducible assumption)))) (by repeat (first | (with_reducible assumption) | ((with_reducible refine Bk.new _ _ _ ?_); first | (with_reducible rfl) | (simp; done)) | (with_reducible refine Bk.alloc ?_ _) | (with_reducible refine Bk.drew ?_) | (with_reducible refine Bk.drewN ?_ _) | ((with_reducible refine Bk.far ?_ ?_ _); rotate_left; focus (first | (simp; done) | (simp; omega))) | (with_reducible refine Bk.below ?_ (by with_reducible assumption))))).mono ?_
  rintro e w8 ⟨rfl, rfl⟩
  refine hK.out _ _ (by repeat (first | (with_reducible exact Below.refl _ _) | (with_reducible refine balloc ?_ _) | (with_reducible refine Below.drew ?_) | (with_reducible refine bdrewN ?_ _) | ((with_reducible refine bset ?_ ?_ _); rotate_left; focus (first | (with_reducible exact Nat.le_refl _) | (simp; done) | (simp; omega) | omega)) | (with_reducible refine bstep (by with_reducible assumption) ?_))) (fun hS8 => ?_)
  clear hK K
  refine wpGo_eff rfl (fun K hK => ?_)
  go_simp
  refine (rchan_any q _ _ _ HF.out (by have := Hqa.out; omega) y1 y4 u1 (by have h1 := Hqa.out; have h2 := Ha.out; omega)).mono ?_
  rintro e w9 ⟨rfl, hb9⟩
  refine hK.out _ _ (by repeat (first | (with_reducible exact Below.refl _ _) | (with_reducible refine balloc ?_ _) | (with_reducible refine Below.drew ?_) | (with_reducible refine bdrewN ?_ _) | ((with_reducible refine bset ?_ ?_ _); rotate_left; focus (first | (with_reducible exact Nat.le_refl _) | (simp; done) | (simp; omega) | omega)) | (with_reducible refine bstep (by with_reducible assumption) ?_))) (fun hS9 => ?_)
  clear hK K
  refine wpGo_eff rfl (fun K hK => ?_)
  go_simp
  refine (base_any s.g d.g s.a d.a b6 b7 _ g0 (by omega) g0' (by omega) a0 a1 a0' a1' (by repeat (first | (with_reducible assumption) | ((with_reducible refine Bk.new _ _ _ ?_); first | (with_reducible rfl) | (simp; done)) | (with_reducible refine Bk.alloc ?_ _) | (with_reducible refine Bk.drew ?_) | (with_reducible refine Bk.drewN ?_ _) | ((with_reducible refine Bk.far ?_ ?_ _); rotate_left; focus (first | (simp; done) | (simp; omega))) | (with_reducible refine Bk.below ?_ (by with_reducible assumption)))) (by repeat (first | (with_reducible assumption) | ((with_reducible refine Bk.new _ _ _ ?_); first | (with_reducible rfl) | (simp; done)) | (with_reducible refine Bk.alloc ?_ _) | (with_reducible refine Bk.drew ?_) | (with_reducible refine Bk.drewN ?_ _) | ((with_reducible refine Bk.far ?_ ?_ _); rotate_left; focus (first | (simp; done) | (simp; omega))) | (with_reducible refine Bk.below ?_ (by with_reducible assumption))))).mono ?_
  rintro e w10 ⟨rfl, rfl⟩
  refine hK.out _ _ (by repeat (first | (with_reducible exact Below.refl _ _) | (with_reducible refine balloc ?_ _) | (with_reducible refine Below.drew ?_) | (with_reducible refine bdrewN ?_ _) | ((with_reducible refine bset ?_ ?_ _); rotate_left; focus (first | (with_reducible exact Nat.le_refl _) | (simp; done) | (simp; omega) | omega)) | (with_reducible refine bstep (by with_reducible assumption) ?_))) (fun hS10 => ?_)
  clear hK K
  refine wpGo_eff rfl (fun K hK => ?_)
  go_simp
  refine (rchan_any q _ _ _ HF.out (by have := Hqa.out; omega) y2 y5 u3 (by have h1 := Hqa.out; have h2 := Ha.out; omega)).mono ?_
  rintro e w11 ⟨rfl, hb11⟩
  refine hK.out _ _ (by repeat (first | (with_reducible exact Below.refl _ _) | (with_reducible refine balloc ?_ _) | (with_reducible refine Below.drew ?_) | (with_reducible refine bdrewN ?_ _) | ((with_reducible refine bset ?_ ?_ _); rotate_left; focus (first | (with_reducible exact Nat.le_refl _) | (simp; done) | (simp; omega) | omega)) | (with_reducible refine bstep (by with_reducible assumption) ?_))) (fun hS11 => ?_)
  clear hK K
  refine wpGo_eff rfl (fun K hK => ?_)
  go_simp
  refine (base_any s.b d.b s.a d.a b6 b7 _ b0 (by omega) b0' (by omega) a0 a1 a0' a1' (by repeat (first | (with_reducible assumption) | ((with_reducible refine Bk.new _ _ _ ?_); first | (with_reducible rfl) | (simp; done)) | (with_reducible refine Bk.alloc ?_ _) | (with_reducible refine Bk.drew ?_) | (with_reducible refine Bk.drewN ?_ _) | ((with_reducible refine Bk.far ?_ ?_ _); rotate_left; focus (first | (simp; done) | (simp; omega))) | (with_reducible refine Bk.below ?_ (by with_reducible assumption)))) (by repeat (first | (with_reducible assumption) | ((with_reducible refine Bk.new _ _ _ ?_); first | (with_reducible rfl) | (simp; done)) | (with_reducible refine Bk.alloc ?_ _) | (with_reducible refine Bk.drew ?_) | (with_reducible refine Bk.drewN ?_ _) | ((with_reducible refine Bk.far ?_ ?_ _); rotate_left; focus (first | (simp; done) | (simp; omega))) | (with_reducible refine Bk.below ?_ (by with_reducible assumption))))).mono ?_
  rintro e w12 ⟨rfl, rfl⟩
  refine hK.out _ _ (by repeat (first | (with_reducible exact Below.refl _ _) | (with_reducible refine balloc ?_ _) | (with_reducible refine Below.drew ?_) | (with_reducible refine bdrewN ?_ _) | ((with_reducible refine bset ?_ ?_ _); rotate_left; focus (first | (with_reducible exact Nat.le_refl _) | (simp; done) | (simp; omega) | omega)) | (with_reducible refine bstep (by with_reducible assumption) ?_))) (fun hS12 => ?_)
  clear hK K
  refine wpGo_eff rfl (fun K hK => ?_)
  go_simp
  refine (rchan_any q _ _ _ HF.out (by have := Hqa.out; omega) y3 y6 u5 (by have h1 := Hqa.out; have h2 := Ha.out; omega)).mono ?_
  rintro e w13 ⟨rfl, hb13⟩
  refine hK.out _ _ (by repeat (first | (with_reducible exact Below.refl _ _) | (with_reducible refine balloc ?_ _) | (with_reducible refine Below.drew ?_) | (with_reducible refine bdrewN ?_ _) | ((with_reducible refine bset ?_ ?_ _); rotate_left; focus (first | (with_reducible exact Nat.le_refl _) | (simp; done) | (simp; omega) | omega)) | (with_reducible refine bstep (by with_reducible assumption) ?_))) (fun hS13 => ?_)
  clear hK K
  refine wpGo_eff rfl (fun K hK => ?_)
  go_simp
  refine (divnorm_any n4 _ (by omega) (by omega)).mono ?_
  rintro e w14 ⟨rfl, hb14⟩
  refine hK.out _ _ (by repeat (first | (with_reducible exact Below.refl _ _) | (with_reducible refine balloc ?_ _) | (with_reducible refine Below.drew ?_) | (with_reducible refine bdrewN ?_ _) | ((with_reducible refine bset ?_ ?_ _); rotate_left; focus (first | (with_reducible exact Nat.le_refl _) | (simp; done) | (simp; omega) | omega)) | (with_reducible refine bstep (by with_reducible assumption) ?_))) (fun hS14 => ?_)
  clear hK K
  repeat (refine wpGo_pure (v := ?_) rfl rfl (fun w' hS => ?_) ?_; rotate_left; (· skip; go_simp; exact rfl); (try simp only [Act.put, List.setIfInBounds_toArray, List.set_cons_zero, List.set_cons_succ]))
  refine wpGo_nil ?_
  simp only [List.drop_succ_cons, List.drop_zero]
  have kO14 : Bk w14 (w.heap.size + 1 + 1) 29 #[.int .u8 0, .int .u8 0, .int .u8 0, .int .u8 0] := (by repeat (first | (with_reducible assumption) | ((with_reducible refine Bk.new _ _ _ ?_); first | (with_reducible rfl) | (simp; done)) | (with_reducible refine Bk.alloc ?_ _) | (with_reducible refine Bk.drew ?_) | (with_reducible refine Bk.drewN ?_ _) | ((with_reducible refine Bk.far ?_ ?_ _); rotate_left; focus (first | (simp; done) | (simp; omega))) | (with_reducible refine Bk.below ?_ (by with_reducible assumption)))); obtain ⟨kcO14, kfO14, kaO14, kgO14, klO14⟩ := kO14.rules
  have hZ : Below w.heap.size w w14 := bstep hS14 hV
  go_wp2
  refine bodyPost_ret (v := _) ?_ rfl ⟨rfl, (by repeat (first | (with_reducible exact Below.refl _ _) | (with_reducible refine balloc ?_ _) | (with_reducible refine Below.drew ?_) | (with_reducible refine bdrewN ?_ _) | ((with_reducible refine bset ?_ ?_ _); rotate_left; focus (first | (with_reducible exact Nat.le_refl _) | (simp; done) | (simp; omega) | omega)) | (with_reducible refine bstep (by with_reducible assumption) ?_)))⟩
  simp [results, Try.results40, go_sem, kcO14]
end Go.Proofs.Ytlholebpfgjpdaa
