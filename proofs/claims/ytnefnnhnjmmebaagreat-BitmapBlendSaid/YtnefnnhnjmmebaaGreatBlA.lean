/-
  Texts put together: BlendT, BlendC, BlendD, BlendE, BlendF, BlendTm.
-/
import Derived.Test.YtnefnnhnjmmebaaGreatIntm
import Derived.Test.YtnefnnhnjmmebaaGreatColor
import Derived.Test.YtnefnnhnjmmebaaGreatPlA
import Derived.Test.YtnefnnhnjmmebaaGreatPlC
namespace Go.Proofs.YtnefnnhnjmmebaaGreat
open Go.RowKit
set_option linter.unusedSimpArgs false
set_option linter.unusedVariables false

theorem ovl_parts {s sa d da : Int} (h0 : 0 ≤ s) (h1 : s ≤ sa) (h2 : sa ≤ 255) (h3 : 0 ≤ d) (h4 : d ≤ da) (h5 : da ≤ 255) :
    (0 ≤ 2 * s * d ∧ 2 * s * d ≤ 130050) ∧ (0 ≤ sa * da ∧ sa * da ≤ 65025) ∧ (0 ≤ 2 * (da - d) * (sa - s) ∧ 2 * (da - d) * (sa - s) ≤ 130050) := by
  have a1 := mul_le (x := 2 * s) (y := d) (a := 510) (b := 255) (by omega) (by omega) h3 (by omega)
  have a2 := mul_byte (x := sa) (y := da) (by omega) h2 (by omega) h5
  have a3 := mul_le (x := 2 * (da - d)) (y := sa - s) (a := 510) (b := 255) (by omega) (by omega) (by omega) (by omega)
  omega
theorem trm_parts {s sa d da : Int} (h0 : 0 ≤ s) (h1 : s ≤ sa) (h2 : sa ≤ 255) (h3 : 0 ≤ d) (h4 : d ≤ da) (h5 : da ≤ 255) :
    (0 ≤ s * d ∧ s * d ≤ 65025) ∧ (0 ≤ s * da ∧ s * da ≤ 65025) ∧ (0 ≤ d * sa ∧ d * sa ≤ 65025) ∧ (0 ≤ 2 * s * d ∧ 2 * s * d ≤ 130050) := by
  have a1 := mul_le (x := 2 * s) (y := d) (a := 510) (b := 255) (by omega) (by omega) h3 (by omega)
  have a2 := mul_byte (x := s) (y := d) (by omega) (by omega) (by omega) (by omega)
  have a3 := mul_byte (x := s) (y := da) (by omega) (by omega) (by omega) (by omega)
  have a4 := mul_byte (x := d) (y := sa) (by omega) (by omega) (by omega) (by omega)
  omega

set_option maxHeartbeats 400000 in
theorem overlay_any (s sa d da : Int) (w : World) (h0 : 0 ≤ s) (h1 : s ≤ sa) (h2 : sa ≤ 255) (h3 : 0 ≤ d) (h4 : d ≤ da) (h5 : da ≤ 255) :
    Calls Tryz.prog 94 #[.int .i64 s, .int .i64 sa, .int .i64 d, .int .i64 da] w fun e w' => e = .returned (.int .i64 (ovl s sa d da)) ∧ w = w' := by
  obtain ⟨p1, p2, p3⟩ := ovl_parts h0 h1 h2 h3 h4 h5
  by_cases hc : 2 * d ≤ da
  · have hE : ovl s sa d da = 2 * s * d := by unfold ovl; rw [if_pos hc]
    rw [hE]; clear hE
    go_enter Tryz.func94, Tryz.ntmps94
    go_wp2
    go_ret
    exact ⟨rfl, rfl⟩
  · have hE : ovl s sa d da = sa * da - 2 * (da - d) * (sa - s) := by unfold ovl; rw [if_neg hc]
    rw [hE]; clear hE
    go_enter Tryz.func94, Tryz.ntmps94
    go_wp2
    go_ret
    exact ⟨rfl, rfl⟩

set_option maxHeartbeats 1600000 in
theorem term_any (mode s sa d da : Int) (w : World) (h0 : 0 ≤ s) (h1 : s ≤ sa) (h2 : sa ≤ 255) (h3 : 0 ≤ d) (h4 : d ≤ da) (h5 : da ≤ 255) :
    Calls Tryz.prog 82 #[.int .i64 mode, .int .i64 s, .int .i64 sa, .int .i64 d, .int .i64 da] w fun e w' => e = .returned (.int .i64 (trm mode s sa d da)) ∧ w = w' := by
  obtain ⟨p1, p2, p3, p4⟩ := trm_parts h0 h1 h2 h3 h4 h5
  have hmx := max_if
  have hmn := min_if
  go_enter Tryz.func82, Tryz.ntmps82
  go_wp2_with (go_at_call 94; refine (overlay_any _ _ _ _ _ (by assumption) (by assumption) (by assumption) (by assumption) (by assumption) (by assumption)).mono ?_; rintro e w' ⟨rfl, rfl⟩)
  all_goals
    go_ret
    refine ⟨ret_int ?_, rfl⟩
    simp_all [trm]

set_option maxHeartbeats 400000 in
theorem sep_any (mode : Int) (w : World) :
    Calls Tryz.prog 63 #[.int .i64 mode] w fun e w' => e = .returned (.bool (sepB mode)) ∧ w = w' := by
  go_enter Tryz.func63, Tryz.ntmps63
  go_wp2
  all_goals
    go_ret
    exact ⟨ret_bool (by simp [sepB]; try omega), rfl⟩

set_option maxHeartbeats 400000 in
theorem vmode_any (mode : Int) (w : World) :
    Calls Tryz.prog 18 #[.int .i64 mode] w fun e w' => e = .returned (.bool (validModeB mode)) ∧ w = w' := by
  go_enter Tryz.func18, Tryz.ntmps18
  go_wp2
  all_goals
    go_ret
    exact ⟨ret_bool (by simp [validModeB]; try omega), rfl⟩

set_option maxHeartbeats 400000 in
theorem rvmode_any (mode : Int) (w : World) :
    Calls Tryz.prog 26 #[.int .i64 mode] w fun e w' => e = .returned (.bool (validModeB mode)) ∧ w = w' := by
  go_enter Tryz.func26, Tryz.ntmps26
  go_wp2
  all_goals
    go_ret
    exact ⟨ret_bool (by simp [validModeB]; try omega), rfl⟩

theorem chan_parts {s sa d da : Int} (h0 : 0 ≤ s) (h1 : s ≤ sa) (h2 : sa ≤ 255) (h3 : 0 ≤ d) (h4 : d ≤ da) (h5 : da ≤ 255) :
    (0 ≤ s * (255 - da) ∧ s * (255 - da) ≤ 65025) ∧ (0 ≤ d * (255 - sa) ∧ d * (255 - sa) ≤ 65025) ∧ (0 ≤ sa * da ∧ sa * da ≤ 65025) := by
  have a2 := mul_byte (x := sa) (y := da) (by omega) h2 (by omega) h5
  have a3 := mul_byte (x := s) (y := 255 - da) (by omega) (by omega) (by omega) (by omega)
  have a4 := mul_byte (x := d) (y := 255 - sa) (by omega) (by omega) (by omega) (by omega)
  omega

set_option maxHeartbeats 800000 in
theorem chan_any (mode s sa d da : Int) (w : World) (h0 : 0 ≤ s) (h1 : s ≤ sa) (h2 : sa ≤ 255) (h3 : 0 ≤ d) (h4 : d ≤ da) (h5 : da ≤ 255) :
    Calls Tryz.prog 65 #[.int .i64 mode, .int .i64 s, .int .i64 sa, .int .i64 d, .int .i64 da] w fun e w' => e = .returned (.int .u8 (chanP mode s sa d da)) ∧ Below w.heap.size w w' := by
  obtain ⟨p1, p2, p3⟩ := chan_parts h0 h1 h2 h3 h4 h5
  have ht := trm_bd (mode := mode) h0 h1 h3 h4
  unfold chanP
  go_enter Tryz.func65, Tryz.ntmps65
  go_wp2_with fail
  refine (term_any _ _ _ _ _ _ h0 h1 h2 h3 h4 h5).mono ?_
  rintro e w' ⟨rfl, rfl⟩
  go_wp2_with fail
  refine (divnorm_any _ _ (by omega) (by omega)).mono ?_
  rintro e w1 ⟨rfl, hb1⟩
  go_wp2_with fail
  go_ret
  exact ⟨rfl, (by repeat (first | (with_reducible exact Below.refl _ _) | (with_reducible refine balloc ?_ _) | (with_reducible refine Below.drew ?_) | (with_reducible refine bdrewN ?_ _) | ((with_reducible refine bset ?_ ?_ _); rotate_left; focus (first | (with_reducible exact Nat.le_refl _) | (simp; done) | (simp; omega) | omega)) | (with_reducible refine bstep (by with_reducible assumption) ?_)))⟩
end Go.Proofs.YtnefnnhnjmmebaaGreat

namespace Go.Proofs.YtnefnnhnjmmebaaGreat
open Go.RowKit
set_option linter.unusedSimpArgs false
set_option linter.unusedVariables false


set_option maxHeartbeats 400000 in
theorem scaled_any (p : Px) (n : Int) (c : C3) (hc : Hid (scaledP p n = c)) (w : World) (hp : p.byte) (h0 : 0 ≤ n) (h1 : n ≤ 255) :
    Calls Tryz.prog 79 #[.agg #[.int .u8 p.r, .int .u8 p.g, .int .u8 p.b, .int .u8 p.a], .int .i64 n] w fun e w' => e = .returned (.agg #[.int .i64 c.r, .int .i64 c.g, .int .i64 c.b]) ∧ Below w.heap.size w w' := by
  have h := hc.out; subst h
  obtain ⟨r0, r1, g0, g1, b0, b1, a0, a1⟩ := hp
  have m1 := mul_byte r0 r1 h0 h1
  have m2 := mul_byte g0 g1 h0 h1
  have m3 := mul_byte b0 b1 h0 h1
  unfold scaledP
  go_enter Tryz.func79, Tryz.ntmps79
  go_wp2
  refine bodyPost_ret (v := _) ?_ rfl ⟨rfl, (by repeat (first | (with_reducible exact Below.refl _ _) | (with_reducible refine balloc ?_ _) | (with_reducible refine Below.drew ?_) | (with_reducible refine bdrewN ?_ _) | ((with_reducible refine bset ?_ ?_ _); rotate_left; focus (first | (with_reducible exact Nat.le_refl _) | (simp; done) | (simp; omega) | omega)) | (with_reducible refine bstep (by with_reducible assumption) ?_)))⟩
  simp [results, Tryz.results79, go_sem, List.getElem?_cons_zero]

set_option maxHeartbeats 400000 in
theorem low_any (r g b : Int) (w : World) :
    Calls Tryz.prog 106 #[.agg #[.int .i64 r, .int .i64 g, .int .i64 b]] w fun e w' => e = .returned (.int .i64 (C3.low ⟨r, g, b⟩)) ∧ Below w.heap.size w w' := by
  have hmn := min_if
  go_enter Tryz.func106, Tryz.ntmps106
  go_wp2
  go_ret
  exact ⟨rfl, (by repeat (first | (with_reducible exact Below.refl _ _) | (with_reducible refine balloc ?_ _) | (with_reducible refine Below.drew ?_) | (with_reducible refine bdrewN ?_ _) | ((with_reducible refine bset ?_ ?_ _); rotate_left; focus (first | (with_reducible exact Nat.le_refl _) | (simp; done) | (simp; omega) | omega)) | (with_reducible refine bstep (by with_reducible assumption) ?_)))⟩
set_option maxHeartbeats 400000 in
theorem high_any (r g b : Int) (w : World) :
    Calls Tryz.prog 105 #[.agg #[.int .i64 r, .int .i64 g, .int .i64 b]] w fun e w' => e = .returned (.int .i64 (C3.high ⟨r, g, b⟩)) ∧ Below w.heap.size w w' := by
  have hmx := max_if
  go_enter Tryz.func105, Tryz.ntmps105
  go_wp2
  go_ret
  exact ⟨rfl, (by repeat (first | (with_reducible exact Below.refl _ _) | (with_reducible refine balloc ?_ _) | (with_reducible refine Below.drew ?_) | (with_reducible refine bdrewN ?_ _) | ((with_reducible refine bset ?_ ?_ _); rotate_left; focus (first | (with_reducible exact Nat.le_refl _) | (simp; done) | (simp; omega) | omega)) | (with_reducible refine bstep (by with_reducible assumption) ?_)))⟩

/-- The components lie from 0 to 65025. -/
def C3.inR (c : C3) : Prop := 0 ≤ c.r ∧ c.r ≤ 65025 ∧ 0 ≤ c.g ∧ c.g ≤ 65025 ∧ 0 ≤ c.b ∧ c.b ≤ 65025

set_option maxHeartbeats 400000 in
theorem sat_any (r g b : Int) (w : World) (hc : C3.inR ⟨r, g, b⟩) :
    Calls Tryz.prog 91 #[.agg #[.int .i64 r, .int .i64 g, .int .i64 b]] w fun e w' => e = .returned (.int .i64 (C3.sat ⟨r, g, b⟩)) ∧ Below w.heap.size w w' := by
  obtain ⟨u, v⟩ := low_in hc
  obtain ⟨lh1, _, _, lh2, _⟩ := low_high ⟨r, g, b⟩
  obtain ⟨lo, Hlo⟩ : ∃ q, Hid (C3.low ⟨r, g, b⟩ = q) := ⟨_, rfl⟩
  obtain ⟨hi, Hhi⟩ : ∃ q, Hid (C3.high ⟨r, g, b⟩ = q) := ⟨_, rfl⟩
  have HL := Lib.hid (low_any r g b)
  have HH := Lib.hid (high_any r g b)
  unfold C3.sat
  rw [Hlo.out] at u lh1 HL
  rw [Hhi.out] at v lh2 HH
  rw [Hlo.out, Hhi.out]
  have e0 : IntKind.i64.wrap (hi - lo) = hi - lo := IntWalk.i64_in _ (by simp only at lh1 lh2; omega)
  clear u v lh1 lh2 hc
  go_enter Tryz.func91, Tryz.ntmps91
  go_wp2_with fail
  refine wp_region_gob 6 [(0, true), (2, true), (1, false), (3, false), (4, true), (5, true)] (by kernel_rfl) (by kernel_rfl) (fun c a d v w h => by cases d <;> exact h) ?_
  repeat (refine wpGo_pure (v := ?_) rfl rfl (fun w' hS => ?_) ?_; rotate_left; (· have kXp : Bk w' (w.heap.size) 81 #[.int .i64 r, .int .i64 g, .int .i64 b] := (by repeat (first | (with_reducible assumption) | ((with_reducible refine Bk.new _ _ _ ?_); first | (with_reducible rfl) | (simp; done)) | (with_reducible refine Bk.alloc ?_ _) | (with_reducible refine Bk.drew ?_) | (with_reducible refine Bk.drewN ?_ _) | ((with_reducible refine Bk.far ?_ ?_ _); rotate_left; focus (first | (simp; done) | (simp; omega))) | (with_reducible refine Bk.below ?_ (by with_reducible assumption)))); obtain ⟨kcXp, kfXp, kaXp, kgXp, klXp⟩ := kXp.rules; go_simp; exact rfl); (try simp only [Act.put, List.setIfInBounds_toArray, List.set_cons_zero, List.set_cons_succ]))
  refine wpGo_eff rfl (fun K hK => ?_)
  go_simp
  refine (HH.out _).mono ?_
  rintro e w1 ⟨rfl, hb1⟩
  refine hK.out _ _ (by repeat (first | (with_reducible exact Below.refl _ _) | (with_reducible refine balloc ?_ _) | (with_reducible refine Below.drew ?_) | (with_reducible refine bdrewN ?_ _) | ((with_reducible refine bset ?_ ?_ _); rotate_left; focus (first | (with_reducible exact Nat.le_refl _) | (simp; done) | (simp; omega) | omega)) | (with_reducible refine bstep (by with_reducible assumption) ?_))) (fun hS1 => ?_)
  clear hK K
  refine wpGo_eff rfl (fun K hK => ?_)
  go_simp
  refine (HL.out _).mono ?_
  rintro e w2 ⟨rfl, hb2⟩
  refine hK.out _ _ (by repeat (first | (with_reducible exact Below.refl _ _) | (with_reducible refine balloc ?_ _) | (with_reducible refine Below.drew ?_) | (with_reducible refine bdrewN ?_ _) | ((with_reducible refine bset ?_ ?_ _); rotate_left; focus (first | (with_reducible exact Nat.le_refl _) | (simp; done) | (simp; omega) | omega)) | (with_reducible refine bstep (by with_reducible assumption) ?_))) (fun hS2 => ?_)
  clear hK K
  repeat (refine wpGo_pure (v := ?_) rfl rfl (fun w' hS => ?_) ?_; rotate_left; (· have kXp : Bk w' (w.heap.size) 81 #[.int .i64 r, .int .i64 g, .int .i64 b] := (by repeat (first | (with_reducible assumption) | ((with_reducible refine Bk.new _ _ _ ?_); first | (with_reducible rfl) | (simp; done)) | (with_reducible refine Bk.alloc ?_ _) | (with_reducible refine Bk.drew ?_) | (with_reducible refine Bk.drewN ?_ _) | ((with_reducible refine Bk.far ?_ ?_ _); rotate_left; focus (first | (simp; done) | (simp; omega))) | (with_reducible refine Bk.below ?_ (by with_reducible assumption)))); obtain ⟨kcXp, kfXp, kaXp, kgXp, klXp⟩ := kXp.rules; go_simp; exact rfl); (try simp only [Act.put, List.setIfInBounds_toArray, List.set_cons_zero, List.set_cons_succ]))
  refine wpGo_nil ?_
  simp only [List.drop_succ_cons, List.drop_zero]
  go_wp2
  go_ret
  exact ⟨rfl, (by repeat (first | (with_reducible exact Below.refl _ _) | (with_reducible refine balloc ?_ _) | (with_reducible refine Below.drew ?_) | (with_reducible refine bdrewN ?_ _) | ((with_reducible refine bset ?_ ?_ _); rotate_left; focus (first | (with_reducible exact Nat.le_refl _) | (simp; done) | (simp; omega) | omega)) | (with_reducible refine bstep (by with_reducible assumption) ?_)))⟩

set_option maxHeartbeats 400000 in
theorem lum_any (r g b : Int) (w : World) (hc : C3.inR ⟨r, g, b⟩) :
    Calls Tryz.prog 92 #[.agg #[.int .i64 r, .int .i64 g, .int .i64 b]] w fun e w' => e = .returned (.int .i64 (C3.lum ⟨r, g, b⟩)) ∧ Below w.heap.size w w' := by
  obtain ⟨c0, c1, c2, c3, c4, c5⟩ := hc
  simp only at c0 c1 c2 c3 c4 c5
  unfold C3.lum
  go_enter Tryz.func92, Tryz.ntmps92
  go_wp2
  go_ret
  exact ⟨rfl, (by repeat (first | (with_reducible exact Below.refl _ _) | (with_reducible refine balloc ?_ _) | (with_reducible refine Below.drew ?_) | (with_reducible refine bdrewN ?_ _) | ((with_reducible refine bset ?_ ?_ _); rotate_left; focus (first | (with_reducible exact Nat.le_refl _) | (simp; done) | (simp; omega) | omega)) | (with_reducible refine bstep (by with_reducible assumption) ?_)))⟩
theorem sat_q (c : C3) (n : Int) (hn : Hid (c.sat = n)) (w : World) (hc : c.inR) :
    Calls Tryz.prog 91 #[.agg #[.int .i64 c.r, .int .i64 c.g, .int .i64 c.b]] w fun e w' => e = .returned (.int .i64 n) ∧ Below w.heap.size w w' := by
  have h := hn.out; subst h; exact sat_any c.r c.g c.b w hc
theorem lum_q (c : C3) (n : Int) (hn : Hid (c.lum = n)) (w : World) (hc : c.inR) :
    Calls Tryz.prog 92 #[.agg #[.int .i64 c.r, .int .i64 c.g, .int .i64 c.b]] w fun e w' => e = .returned (.int .i64 n) ∧ Below w.heap.size w w' := by
  have h := hn.out; subst h; exact lum_any c.r c.g c.b w hc


set_option maxHeartbeats 1600000 in
theorem recipe_any (mode : Int) (s d : C3) (a : Int) (w : World) (hs : Hid s.inR) (hd : Hid d.inR) :
    Calls Tryz.prog 78 #[.int .i64 mode, .agg #[.int .i64 s.r, .int .i64 s.g, .int .i64 s.b], .agg #[.int .i64 d.r, .int .i64 d.g, .int .i64 d.b], .int .i64 a] w fun e w' =>
      e = .returned (.agg #[.int .i64 (recipeP mode s d a).c.r, .int .i64 (recipeP mode s d a).c.g, .int .i64 (recipeP mode s d a).c.b, .int .i64 (recipeP mode s d a).t, .int .i64 (recipeP mode s d a).l, .int .i64 (recipeP mode s d a).a]) ∧ Below w.heap.size w w' := by
  obtain ⟨ss, Hss⟩ : ∃ q, Hid (s.sat = q) := ⟨_, rfl⟩
  obtain ⟨ds, Hds⟩ : ∃ q, Hid (d.sat = q) := ⟨_, rfl⟩
  obtain ⟨sl, Hsl⟩ : ∃ q, Hid (s.lum = q) := ⟨_, rfl⟩
  obtain ⟨dl, Hdl⟩ : ∃ q, Hid (d.lum = q) := ⟨_, rfl⟩
  by_cases h10 : mode = 10
  · subst h10
    have hE : recipeP 10 s d a = ⟨s, ds, dl, a⟩ := by unfold recipeP; rw [if_pos rfl, Hds.out, Hdl.out]
    rw [hE]; clear hE
    go_enter Tryz.func78, Tryz.ntmps78
    go_wp2_with fail
    refine wp_region_gob 7 [(0, true), (1, true), (3, true), (5, true), (2, false), (4, false), (6, true)] (by kernel_rfl) (by kernel_rfl) (fun c a d v w h => by cases d <;> exact h) ?_
    repeat (refine wpGo_pure (v := ?_) rfl rfl (fun w' hS => ?_) ?_; rotate_left; (· have kSp : Bk w' (w.heap.size) 81 #[.int .i64 s.r, .int .i64 s.g, .int .i64 s.b] := (by repeat (first | (with_reducible assumption) | ((with_reducible refine Bk.new _ _ _ ?_); first | (with_reducible rfl) | (simp; done)) | (with_reducible refine Bk.alloc ?_ _) | (with_reducible refine Bk.drew ?_) | (with_reducible refine Bk.drewN ?_ _) | ((with_reducible refine Bk.far ?_ ?_ _); rotate_left; focus (first | (simp; done) | (simp; omega))) | (with_reducible refine Bk.below ?_ (by with_reducible assumption)))); obtain ⟨kcSp, kfSp, kaSp, kgSp, klSp⟩ := kSp.rules; have kDp : Bk w' (w.heap.size + 1) 81 #[.int .i64 d.r, .int .i64 d.g, .int .i64 d.b] := (by repeat (first | (with_reducible assumption) | ((with_reducible refine Bk.new _ _ _ ?_); first | (with_reducible rfl) | (simp; done)) | (with_reducible refine Bk.alloc ?_ _) | (with_reducible refine Bk.drew ?_) | (with_reducible refine Bk.drewN ?_ _) | ((with_reducible refine Bk.far ?_ ?_ _); rotate_left; focus (first | (simp; done) | (simp; omega))) | (with_reducible refine Bk.below ?_ (by with_reducible assumption)))); obtain ⟨kcDp, kfDp, kaDp, kgDp, klDp⟩ := kDp.rules; go_simp; exact rfl); (try simp only [Act.put, List.setIfInBounds_toArray, List.set_cons_zero, List.set_cons_succ]))
    refine wpGo_eff rfl (fun K hK => ?_)
    go_simp
    refine (sat_q d ds Hds _ hd.out).mono ?_
    rintro e w1 ⟨rfl, hb1⟩
    refine hK.out _ _ (by repeat (first | (with_reducible exact Below.refl _ _) | (with_reducible refine balloc ?_ _) | (with_reducible refine Below.drew ?_) | (with_reducible refine bdrewN ?_ _) | ((with_reducible refine bset ?_ ?_ _); rotate_left; focus (first | (with_reducible exact Nat.le_refl _) | (simp; done) | (simp; omega) | omega)) | (with_reducible refine bstep (by with_reducible assumption) ?_))) (fun hS1 => ?_)
    clear hK K
    refine wpGo_eff rfl (fun K hK => ?_)
    go_simp
    refine (lum_q d dl Hdl _ hd.out).mono ?_
    rintro e w2 ⟨rfl, hb2⟩
    refine hK.out _ _ (by repeat (first | (with_reducible exact Below.refl _ _) | (with_reducible refine balloc ?_ _) | (with_reducible refine Below.drew ?_) | (with_reducible refine bdrewN ?_ _) | ((with_reducible refine bset ?_ ?_ _); rotate_left; focus (first | (with_reducible exact Nat.le_refl _) | (simp; done) | (simp; omega) | omega)) | (with_reducible refine bstep (by with_reducible assumption) ?_))) (fun hS2 => ?_)
    clear hK K
    repeat (refine wpGo_pure (v := ?_) rfl rfl (fun w' hS => ?_) ?_; rotate_left; (· have kSp : Bk w' (w.heap.size) 81 #[.int .i64 s.r, .int .i64 s.g, .int .i64 s.b] := (by repeat (first | (with_reducible assumption) | ((with_reducible refine Bk.new _ _ _ ?_); first | (with_reducible rfl) | (simp; done)) | (with_reducible refine Bk.alloc ?_ _) | (with_reducible refine Bk.drew ?_) | (with_reducible refine Bk.drewN ?_ _) | ((with_reducible refine Bk.far ?_ ?_ _); rotate_left; focus (first | (simp; done) | (simp; omega))) | (with_reducible refine Bk.below ?_ (by with_reducible assumption)))); obtain ⟨kcSp, kfSp, kaSp, kgSp, klSp⟩ := kSp.rules; have kDp : Bk w' (w.heap.size + 1) 81 #[.int .i64 d.r, .int .i64 d.g, .int .i64 d.b] := (by repeat (first | (with_reducible assumption) | ((with_reducible refine Bk.new _ _ _ ?_); first | (with_reducible rfl) | (simp; done)) | (with_reducible refine Bk.alloc ?_ _) | (with_reducible refine Bk.drew ?_) | (with_reducible refine Bk.drewN ?_ _) | ((with_reducible refine Bk.far ?_ ?_ _); rotate_left; focus (first | (simp; done) | (simp; omega))) | (with_reducible refine Bk.below ?_ (by with_reducible assumption)))); obtain ⟨kcDp, kfDp, kaDp, kgDp, klDp⟩ := kDp.rules; go_simp; exact rfl); (try simp only [Act.put, List.setIfInBounds_toArray, List.set_cons_zero, List.set_cons_succ]))
    refine wpGo_nil ?_
    simp only [List.drop_succ_cons, List.drop_zero]
    have kO2 : Bk w2 (w.heap.size + 1 + 1) 83 #[.int .i64 0, .int .i64 0, .int .i64 0, .int .i64 0, .int .i64 0, .int .i64 0] := (by repeat (first | (with_reducible assumption) | ((with_reducible refine Bk.new _ _ _ ?_); first | (with_reducible rfl) | (simp; done)) | (with_reducible refine Bk.alloc ?_ _) | (with_reducible refine Bk.drew ?_) | (with_reducible refine Bk.drewN ?_ _) | ((with_reducible refine Bk.far ?_ ?_ _); rotate_left; focus (first | (simp; done) | (simp; omega))) | (with_reducible refine Bk.below ?_ (by with_reducible assumption)))); obtain ⟨kcO2, kfO2, kaO2, kgO2, klO2⟩ := kO2.rules
    go_wp2
    refine bodyPost_ret (v := _) ?_ rfl ⟨rfl, (by repeat (first | (with_reducible exact Below.refl _ _) | (with_reducible refine balloc ?_ _) | (with_reducible refine Below.drew ?_) | (with_reducible refine bdrewN ?_ _) | ((with_reducible refine bset ?_ ?_ _); rotate_left; focus (first | (with_reducible exact Nat.le_refl _) | (simp; done) | (simp; omega) | omega)) | (with_reducible refine bstep (by with_reducible assumption) ?_)))⟩
    simp [results, Tryz.results78, go_sem, kcO2]
  by_cases h11 : mode = 11
  · subst h11
    have hE : recipeP 11 s d a = ⟨d, ss, dl, a⟩ := by unfold recipeP; rw [if_neg (by omega), if_pos rfl, Hss.out, Hdl.out]
    rw [hE]; clear hE h10
    go_enter Tryz.func78, Tryz.ntmps78
    go_wp2_with fail
    refine wp_region_gob 7 [(0, true), (1, true), (3, true), (5, true), (2, false), (4, false), (6, true)] (by kernel_rfl) (by kernel_rfl) (fun c a d v w h => by cases d <;> exact h) ?_
    repeat (refine wpGo_pure (v := ?_) rfl rfl (fun w' hS => ?_) ?_; rotate_left; (· have kSp : Bk w' (w.heap.size) 81 #[.int .i64 s.r, .int .i64 s.g, .int .i64 s.b] := (by repeat (first | (with_reducible assumption) | ((with_reducible refine Bk.new _ _ _ ?_); first | (with_reducible rfl) | (simp; done)) | (with_reducible refine Bk.alloc ?_ _) | (with_reducible refine Bk.drew ?_) | (with_reducible refine Bk.drewN ?_ _) | ((with_reducible refine Bk.far ?_ ?_ _); rotate_left; focus (first | (simp; done) | (simp; omega))) | (with_reducible refine Bk.below ?_ (by with_reducible assumption)))); obtain ⟨kcSp, kfSp, kaSp, kgSp, klSp⟩ := kSp.rules; have kDp : Bk w' (w.heap.size + 1) 81 #[.int .i64 d.r, .int .i64 d.g, .int .i64 d.b] := (by repeat (first | (with_reducible assumption) | ((with_reducible refine Bk.new _ _ _ ?_); first | (with_reducible rfl) | (simp; done)) | (with_reducible refine Bk.alloc ?_ _) | (with_reducible refine Bk.drew ?_) | (with_reducible refine Bk.drewN ?_ _) | ((with_reducible refine Bk.far ?_ ?_ _); rotate_left; focus (first | (simp; done) | (simp; omega))) | (with_reducible refine Bk.below ?_ (by with_reducible assumption)))); obtain ⟨kcDp, kfDp, kaDp, kgDp, klDp⟩ := kDp.rules; go_simp; exact rfl); (try simp only [Act.put, List.setIfInBounds_toArray, List.set_cons_zero, List.set_cons_succ]))
    refine wpGo_eff rfl (fun K hK => ?_)
    go_simp
    refine (sat_q s ss Hss _ hs.out).mono ?_
    rintro e w1 ⟨rfl, hb1⟩
    refine hK.out _ _ (by repeat (first | (with_reducible exact Below.refl _ _) | (with_reducible refine balloc ?_ _) | (with_reducible refine Below.drew ?_) | (with_reducible refine bdrewN ?_ _) | ((with_reducible refine bset ?_ ?_ _); rotate_left; focus (first | (with_reducible exact Nat.le_refl _) | (simp; done) | (simp; omega) | omega)) | (with_reducible refine bstep (by with_reducible assumption) ?_))) (fun hS1 => ?_)
    clear hK K
    refine wpGo_eff rfl (fun K hK => ?_)
    go_simp
    refine (lum_q d dl Hdl _ hd.out).mono ?_
    rintro e w2 ⟨rfl, hb2⟩
    refine hK.out _ _ (by repeat (first | (with_reducible exact Below.refl _ _) | (with_reducible refine balloc ?_ _) | (with_reducible refine Below.drew ?_) | (with_reducible refine bdrewN ?_ _) | ((with_reducible refine bset ?_ ?_ _); rotate_left; focus (first | (with_reducible exact Nat.le_refl _) | (simp; done) | (simp; omega) | omega)) | (with_reducible refine bstep (by with_reducible assumption) ?_))) (fun hS2 => ?_)
    clear hK K
    repeat (refine wpGo_pure (v := ?_) rfl rfl (fun w' hS => ?_) ?_; rotate_left; (· have kSp : Bk w' (w.heap.size) 81 #[.int .i64 s.r, .int .i64 s.g, .int .i64 s.b] := (by repeat (first | (with_reducible assumption) | ((with_reducible refine Bk.new _ _ _ ?_); first | (with_reducible rfl) | (simp; done)) | (with_reducible refine Bk.alloc ?_ _) | (with_reducible refine Bk.drew ?_) | (with_reducible refine Bk.drewN ?_ _) | ((with_reducible refine Bk.far ?_ ?_ _); rotate_left; focus (first | (simp; done) | (simp; omega))) | (with_reducible refine Bk.below ?_ (by with_reducible assumption)))); obtain ⟨kcSp, kfSp, kaSp, kgSp, klSp⟩ := kSp.rules; have kDp : Bk w' (w.heap.size + 1) 81 #[.int .i64 d.r, .int .i64 d.g, .int .i64 d.b] := (by repeat (first | (with_reducible assumption) | ((with_reducible refine Bk.new _ _ _ ?_); first | (with_reducible rfl) | (simp; done)) | (with_reducible refine Bk.alloc ?_ _) | (with_reducible refine Bk.drew ?_) | (with_reducible refine Bk.drewN ?_ _) | ((with_reducible refine Bk.far ?_ ?_ _); rotate_left; focus (first | (simp; done) | (simp; omega))) | (with_reducible refine Bk.below ?_ (by with_reducible assumption)))); obtain ⟨kcDp, kfDp, kaDp, kgDp, klDp⟩ := kDp.rules; go_simp; exact rfl); (try simp only [Act.put, List.setIfInBounds_toArray, List.set_cons_zero, List.set_cons_succ]))
    refine wpGo_nil ?_
    simp only [List.drop_succ_cons, List.drop_zero]
    have kO2 : Bk w2 (w.heap.size + 1 + 1) 83 #[.int .i64 0, .int .i64 0, .int .i64 0, .int .i64 0, .int .i64 0, .int .i64 0] := (by repeat (first | (with_reducible assumption) | ((with_reducible refine Bk.new _ _ _ ?_); first | (with_reducible rfl) | (simp; done)) | (with_reducible refine Bk.alloc ?_ _) | (with_reducible refine Bk.drew ?_) | (with_reducible refine Bk.drewN ?_ _) | ((with_reducible refine Bk.far ?_ ?_ _); rotate_left; focus (first | (simp; done) | (simp; omega))) | (with_reducible refine Bk.below ?_ (by with_reducible assumption)))); obtain ⟨kcO2, kfO2, kaO2, kgO2, klO2⟩ := kO2.rules
    go_wp2
    refine bodyPost_ret (v := _) ?_ rfl ⟨rfl, (by repeat (first | (with_reducible exact Below.refl _ _) | (with_reducible refine balloc ?_ _) | (with_reducible refine Below.drew ?_) | (with_reducible refine bdrewN ?_ _) | ((with_reducible refine bset ?_ ?_ _); rotate_left; focus (first | (with_reducible exact Nat.le_refl _) | (simp; done) | (simp; omega) | omega)) | (with_reducible refine bstep (by with_reducible assumption) ?_)))⟩
    simp [results, Tryz.results78, go_sem, kcO2]
  by_cases h12 : mode = 12
  · subst h12
    have hE : recipeP 12 s d a = ⟨s, ss, dl, a⟩ := by unfold recipeP; rw [if_neg (by omega), if_neg (by omega), if_pos rfl, Hss.out, Hdl.out]
    rw [hE]; clear hE h10 h11
    go_enter Tryz.func78, Tryz.ntmps78
    go_wp2_with fail
    refine wp_region_gob 7 [(0, true), (1, true), (3, true), (5, true), (2, false), (4, false), (6, true)] (by kernel_rfl) (by kernel_rfl) (fun c a d v w h => by cases d <;> exact h) ?_
    repeat (refine wpGo_pure (v := ?_) rfl rfl (fun w' hS => ?_) ?_; rotate_left; (· have kSp : Bk w' (w.heap.size) 81 #[.int .i64 s.r, .int .i64 s.g, .int .i64 s.b] := (by repeat (first | (with_reducible assumption) | ((with_reducible refine Bk.new _ _ _ ?_); first | (with_reducible rfl) | (simp; done)) | (with_reducible refine Bk.alloc ?_ _) | (with_reducible refine Bk.drew ?_) | (with_reducible refine Bk.drewN ?_ _) | ((with_reducible refine Bk.far ?_ ?_ _); rotate_left; focus (first | (simp; done) | (simp; omega))) | (with_reducible refine Bk.below ?_ (by with_reducible assumption)))); obtain ⟨kcSp, kfSp, kaSp, kgSp, klSp⟩ := kSp.rules; have kDp : Bk w' (w.heap.size + 1) 81 #[.int .i64 d.r, .int .i64 d.g, .int .i64 d.b] := (by repeat (first | (with_reducible assumption) | ((with_reducible refine Bk.new _ _ _ ?_); first | (with_reducible rfl) | (simp; done)) | (with_reducible refine Bk.alloc ?_ _) | (with_reducible refine Bk.drew ?_) | (with_reducible refine Bk.drewN ?_ _) | ((with_reducible refine Bk.far ?_ ?_ _); rotate_left; focus (first | (simp; done) | (simp; omega))) | (with_reducible refine Bk.below ?_ (by with_reducible assumption)))); obtain ⟨kcDp, kfDp, kaDp, kgDp, klDp⟩ := kDp.rules; go_simp; exact rfl); (try simp only [Act.put, List.setIfInBounds_toArray, List.set_cons_zero, List.set_cons_succ]))
    refine wpGo_eff rfl (fun K hK => ?_)
    go_simp
    refine (sat_q s ss Hss _ hs.out).mono ?_
    rintro e w1 ⟨rfl, hb1⟩
    refine hK.out _ _ (by repeat (first | (with_reducible exact Below.refl _ _) | (with_reducible refine balloc ?_ _) | (with_reducible refine Below.drew ?_) | (with_reducible refine bdrewN ?_ _) | ((with_reducible refine bset ?_ ?_ _); rotate_left; focus (first | (with_reducible exact Nat.le_refl _) | (simp; done) | (simp; omega) | omega)) | (with_reducible refine bstep (by with_reducible assumption) ?_))) (fun hS1 => ?_)
    clear hK K
    refine wpGo_eff rfl (fun K hK => ?_)
    go_simp
    refine (lum_q d dl Hdl _ hd.out).mono ?_
    rintro e w2 ⟨rfl, hb2⟩
    refine hK.out _ _ (by repeat (first | (with_reducible exact Below.refl _ _) | (with_reducible refine balloc ?_ _) | (with_reducible refine Below.drew ?_) | (with_reducible refine bdrewN ?_ _) | ((with_reducible refine bset ?_ ?_ _); rotate_left; focus (first | (with_reducible exact Nat.le_refl _) | (simp; done) | (simp; omega) | omega)) | (with_reducible refine bstep (by with_reducible assumption) ?_))) (fun hS2 => ?_)
    clear hK K
    repeat (refine wpGo_pure (v := ?_) rfl rfl (fun w' hS => ?_) ?_; rotate_left; (· have kSp : Bk w' (w.heap.size) 81 #[.int .i64 s.r, .int .i64 s.g, .int .i64 s.b] := (by repeat (first | (with_reducible assumption) | ((with_reducible refine Bk.new _ _ _ ?_); first | (with_reducible rfl) | (simp; done)) | (with_reducible refine Bk.alloc ?_ _) | (with_reducible refine Bk.drew ?_) | (with_reducible refine Bk.drewN ?_ _) | ((with_reducible refine Bk.far ?_ ?_ _); rotate_left; focus (first | (simp; done) | (simp; omega))) | (with_reducible refine Bk.below ?_ (by with_reducible assumption)))); obtain ⟨kcSp, kfSp, kaSp, kgSp, klSp⟩ := kSp.rules; have kDp : Bk w' (w.heap.size + 1) 81 #[.int .i64 d.r, .int .i64 d.g, .int .i64 d.b] := (by repeat (first | (with_reducible assumption) | ((with_reducible refine Bk.new _ _ _ ?_); first | (with_reducible rfl) | (simp; done)) | (with_reducible refine Bk.alloc ?_ _) | (with_reducible refine Bk.drew ?_) | (with_reducible refine Bk.drewN ?_ _) | ((with_reducible refine Bk.far ?_ ?_ _); rotate_left; focus (first | (simp; done) | (simp; omega))) | (with_reducible refine Bk.below ?_ (by with_reducible assumption)))); obtain ⟨kcDp, kfDp, kaDp, kgDp, klDp⟩ := kDp.rules; go_simp; exact rfl); (try simp only [Act.put, List.setIfInBounds_toArray, List.set_cons_zero, List.set_cons_succ]))
    refine wpGo_nil ?_
    simp only [List.drop_succ_cons, List.drop_zero]
    have kO2 : Bk w2 (w.heap.size + 1 + 1) 83 #[.int .i64 0, .int .i64 0, .int .i64 0, .int .i64 0, .int .i64 0, .int .i64 0] := (by repeat (first | (with_reducible assumption) | ((with_reducible refine Bk.new _ _ _ ?_); first | (with_reducible rfl) | (simp; done)) | (with_reducible refine Bk.alloc ?_ _) | (with_reducible refine Bk.drew ?_) | (with_reducible refine Bk.drewN ?_ _) | ((with_reducible refine Bk.far ?_ ?_ _); rotate_left; focus (first | (simp; done) | (simp; omega))) | (with_reducible refine Bk.below ?_ (by with_reducible assumption)))); obtain ⟨kcO2, kfO2, kaO2, kgO2, klO2⟩ := kO2.rules
    go_wp2
    refine bodyPost_ret (v := _) ?_ rfl ⟨rfl, (by repeat (first | (with_reducible exact Below.refl _ _) | (with_reducible refine balloc ?_ _) | (with_reducible refine Below.drew ?_) | (with_reducible refine bdrewN ?_ _) | ((with_reducible refine bset ?_ ?_ _); rotate_left; focus (first | (with_reducible exact Nat.le_refl _) | (simp; done) | (simp; omega) | omega)) | (with_reducible refine bstep (by with_reducible assumption) ?_)))⟩
    simp [results, Tryz.results78, go_sem, kcO2]
  · have hE : recipeP mode s d a = ⟨d, ds, sl, a⟩ := by unfold recipeP; rw [if_neg h10, if_neg h11, if_neg h12, Hds.out, Hsl.out]
    rw [hE]; clear hE
    have m0 : (mode == 10) = false := by simpa using h10
    have m1 : (mode == 11) = false := by simpa using h11
    have m2 : (mode == 12) = false := by simpa using h12
    clear h10 h11 h12
    go_enter Tryz.func78, Tryz.ntmps78
    go_wp2_with fail
    refine wp_region_gob 7 [(0, true), (1, true), (3, true), (5, true), (2, false), (4, false), (6, true)] (by kernel_rfl) (by kernel_rfl) (fun c a d v w h => by cases d <;> exact h) ?_
    repeat (refine wpGo_pure (v := ?_) rfl rfl (fun w' hS => ?_) ?_; rotate_left; (· have kSp : Bk w' (w.heap.size) 81 #[.int .i64 s.r, .int .i64 s.g, .int .i64 s.b] := (by repeat (first | (with_reducible assumption) | ((with_reducible refine Bk.new _ _ _ ?_); first | (with_reducible rfl) | (simp; done)) | (with_reducible refine Bk.alloc ?_ _) | (with_reducible refine Bk.drew ?_) | (with_reducible refine Bk.drewN ?_ _) | ((with_reducible refine Bk.far ?_ ?_ _); rotate_left; focus (first | (simp; done) | (simp; omega))) | (with_reducible refine Bk.below ?_ (by with_reducible assumption)))); obtain ⟨kcSp, kfSp, kaSp, kgSp, klSp⟩ := kSp.rules; have kDp : Bk w' (w.heap.size + 1) 81 #[.int .i64 d.r, .int .i64 d.g, .int .i64 d.b] := (by repeat (first | (with_reducible assumption) | ((with_reducible refine Bk.new _ _ _ ?_); first | (with_reducible rfl) | (simp; done)) | (with_reducible refine Bk.alloc ?_ _) | (with_reducible refine Bk.drew ?_) | (with_reducible refine Bk.drewN ?_ _) | ((with_reducible refine Bk.far ?_ ?_ _); rotate_left; focus (first | (simp; done) | (simp; omega))) | (with_reducible refine Bk.below ?_ (by with_reducible assumption)))); obtain ⟨kcDp, kfDp, kaDp, kgDp, klDp⟩ := kDp.rules; go_simp; exact rfl); (try simp only [Act.put, List.setIfInBounds_toArray, List.set_cons_zero, List.set_cons_succ]))
    refine wpGo_eff rfl (fun K hK => ?_)
    go_simp
    refine (sat_q d ds Hds _ hd.out).mono ?_
    rintro e w1 ⟨rfl, hb1⟩
    refine hK.out _ _ (by repeat (first | (with_reducible exact Below.refl _ _) | (with_reducible refine balloc ?_ _) | (with_reducible refine Below.drew ?_) | (with_reducible refine bdrewN ?_ _) | ((with_reducible refine bset ?_ ?_ _); rotate_left; focus (first | (with_reducible exact Nat.le_refl _) | (simp; done) | (simp; omega) | omega)) | (with_reducible refine bstep (by with_reducible assumption) ?_))) (fun hS1 => ?_)
    clear hK K
    refine wpGo_eff rfl (fun K hK => ?_)
    go_simp
    refine (lum_q s sl Hsl _ hs.out).mono ?_
    rintro e w2 ⟨rfl, hb2⟩
    refine hK.out _ _ (by repeat (first | (with_reducible exact Below.refl _ _) | (with_reducible refine balloc ?_ _) | (with_reducible refine Below.drew ?_) | (with_reducible refine bdrewN ?_ _) | ((with_reducible refine bset ?_ ?_ _); rotate_left; focus (first | (with_reducible exact Nat.le_refl _) | (simp; done) | (simp; omega) | omega)) | (with_reducible refine bstep (by with_reducible assumption) ?_))) (fun hS2 => ?_)
    clear hK K
    repeat (refine wpGo_pure (v := ?_) rfl rfl (fun w' hS => ?_) ?_; rotate_left; (· have kSp : Bk w' (w.heap.size) 81 #[.int .i64 s.r, .int .i64 s.g, .int .i64 s.b] := (by repeat (first | (with_reducible assumption) | ((with_reducible refine Bk.new _ _ _ ?_); first | (with_reducible rfl) | (simp; done)) | (with_reducible refine Bk.alloc ?_ _) | (with_reducible refine Bk.drew ?_) | (with_reducible refine Bk.drewN ?_ _) | ((with_reducible refine Bk.far ?_ ?_ _); rotate_left; focus (first | (simp; done) | (simp; omega))) | (with_reducible refine Bk.below ?_ (by with_reducible assumption)))); obtain ⟨kcSp, kfSp, kaSp, kgSp, klSp⟩ := kSp.rules; have kDp : Bk w' (w.heap.size + 1) 81 #[.int .i64 d.r, .int .i64 d.g, .int .i64 d.b] := (by repeat (first | (with_reducible assumption) | ((with_reducible refine Bk.new _ _ _ ?_); first | (with_reducible rfl) | (simp; done)) | (with_reducible refine Bk.alloc ?_ _) | (with_reducible refine Bk.drew ?_) | (with_reducible refine Bk.drewN ?_ _) | ((with_reducible refine Bk.far ?_ ?_ _); rotate_left; focus (first | (simp; done) | (simp; omega))) | (with_reducible refine Bk.below ?_ (by with_reducible assumption)))); obtain ⟨kcDp, kfDp, kaDp, kgDp, klDp⟩ := kDp.rules; go_simp; exact rfl); (try simp only [Act.put, List.setIfInBounds_toArray, List.set_cons_zero, List.set_cons_succ]))
    refine wpGo_nil ?_
    simp only [List.drop_succ_cons, List.drop_zero]
    have kO2 : Bk w2 (w.heap.size + 1 + 1) 83 #[.int .i64 0, .int .i64 0, .int .i64 0, .int .i64 0, .int .i64 0, .int .i64 0] := (by repeat (first | (with_reducible assumption) | ((with_reducible refine Bk.new _ _ _ ?_); first | (with_reducible rfl) | (simp; done)) | (with_reducible refine Bk.alloc ?_ _) | (with_reducible refine Bk.drew ?_) | (with_reducible refine Bk.drewN ?_ _) | ((with_reducible refine Bk.far ?_ ?_ _); rotate_left; focus (first | (simp; done) | (simp; omega))) | (with_reducible refine Bk.below ?_ (by with_reducible assumption)))); obtain ⟨kcO2, kfO2, kaO2, kgO2, klO2⟩ := kO2.rules
    go_wp2
    refine bodyPost_ret (v := _) ?_ rfl ⟨rfl, (by repeat (first | (with_reducible exact Below.refl _ _) | (with_reducible refine balloc ?_ _) | (with_reducible refine Below.drew ?_) | (with_reducible refine bdrewN ?_ _) | ((with_reducible refine bset ?_ ?_ _); rotate_left; focus (first | (with_reducible exact Nat.le_refl _) | (simp; done) | (simp; omega) | omega)) | (with_reducible refine bstep (by with_reducible assumption) ?_)))⟩
    simp [results, Tryz.results78, go_sem, kcO2]
end Go.Proofs.YtnefnnhnjmmebaaGreat

namespace Go.Proofs.YtnefnnhnjmmebaaGreat
open Go.RowKit
set_option linter.unusedSimpArgs false
set_option linter.unusedVariables false

theorem low_q (c : C3) (n : Int) (hn : Hid (c.low = n)) (w : World) :
    Calls Tryz.prog 106 #[.agg #[.int .i64 c.r, .int .i64 c.g, .int .i64 c.b]] w fun e w' => e = .returned (.int .i64 n) ∧ Below w.heap.size w w' := by
  have h := hn.out; subst h; exact low_any c.r c.g c.b w
theorem high_q (c : C3) (n : Int) (hn : Hid (c.high = n)) (w : World) :
    Calls Tryz.prog 105 #[.agg #[.int .i64 c.r, .int .i64 c.g, .int .i64 c.b]] w fun e w' => e = .returned (.int .i64 n) ∧ Below w.heap.size w w' := by
  have h := hn.out; subst h; exact high_any c.r c.g c.b w

theorem Rcp.fit.inR {q : Rcp} (h : q.fit) (ha : q.a ≤ 65025) : q.c.inR := by
  obtain ⟨r0, r1, g0, g1, b0, b1, t0, t1, l0, l1⟩ := h
  unfold C3.inR; omega


set_option maxHeartbeats 3200000 in
theorem rterm_any (q : Rcp) (x : Int) (w : World) (hf : q.fit) (ha : q.a ≤ 65025) (hx0 : q.c.low ≤ x) (hx1 : x ≤ q.c.high) :
    Calls Tryz.prog 93 #[.agg #[.int .i64 q.c.r, .int .i64 q.c.g, .int .i64 q.c.b, .int .i64 q.t, .int .i64 q.l, .int .i64 q.a], .int .i64 x] w fun e w' =>
      e = .returned (.tuple #[.int .i64 (q.num x), .int .i64 q.den]) ∧ Below w.heap.size w w' := by
  obtain ⟨k0, k1, k2, k3, k4, k5, k6, k7, k8⟩ := hf.lin
  obtain ⟨p1, p2, p3, p4, p5, p6, p7, p8⟩ := hf.parts ha hx0 hx1
  have HC := Lib.hid (hf.inR ha)
  obtain ⟨r0, r1, g0, g1, b0, b1, t0, t1, l0, l1⟩ := hf
  have hlv : q.level = q.l * q.c.sat - q.t * q.dark := rfl
  obtain ⟨nm, Hnm⟩ : ∃ n, Hid (q.num x = n) := ⟨_, rfl⟩
  obtain ⟨dn, Hdn⟩ : ∃ n, Hid (q.den = n) := ⟨_, rfl⟩
  rw [Hnm.out, Hdn.out]
  unfold Rcp.num at Hnm
  unfold Rcp.den at Hdn
  generalize Hlo' : q.c.low = lo at *
  generalize Hhi' : q.c.high = hi at *
  generalize Hm' : q.c.sat = m at *
  generalize Hlu' : q.c.lum = lu at *
  generalize q.dark = dk at *
  generalize q.bright = br at *
  generalize q.level = lv at *
  have Hlo := Lib.hid Hlo'
  have Hhi := Lib.hid Hhi'
  have Hm := Lib.hid Hm'
  have Hlu := Lib.hid Hlu'
  clear Hlo' Hhi' Hm' Hlu'
  have e1 := k7.symm
  have e2 := k8.symm
  have e3 := hlv.symm
  have k3' : m ≤ hi - lo ∧ hi - lo ≤ m := by omega
  have k6' : dk + br ≤ 100 * m ∧ 100 * m ≤ dk + br := by omega
  have k7' : -500000000000 ≤ lv ∧ lv ≤ 500000000000 := by omega
  clear k3 k6 k7 k8 hlv
  by_cases hm : m = 0
  · subst hm
    have h1 := Hnm.out
    have h2 := Hdn.out
    rw [if_pos rfl] at h1 h2
    subst h1
    subst h2
    clear e1 e2 e3 Hnm Hdn
    go_enter Tryz.func93, Tryz.ntmps93
    go_wp2_with fail
    refine wp_region_gob 12 [(0, true), (1, true), (3, true), (4, true), (6, true), (7, true), (2, false), (5, false), (8, false), (9, true), (10, true), (11, true)] (by kernel_rfl) (by kernel_rfl) (fun c a d v w h => by cases d <;> exact h) ?_
    repeat (refine wpGo_pure (v := ?_) rfl rfl (fun w' hS => ?_) ?_; rotate_left; (· have kRp : Bk w' (w.heap.size) 83 #[.int .i64 q.c.r, .int .i64 q.c.g, .int .i64 q.c.b, .int .i64 q.t, .int .i64 q.l, .int .i64 q.a] := (by repeat (first | (with_reducible assumption) | ((with_reducible refine Bk.new _ _ _ ?_); first | (with_reducible rfl) | (simp; done)) | (with_reducible refine Bk.alloc ?_ _) | (with_reducible refine Bk.drew ?_) | (with_reducible refine Bk.drewN ?_ _) | ((with_reducible refine Bk.far ?_ ?_ _); rotate_left; focus (first | (simp; done) | (simp; omega))) | (with_reducible refine Bk.below ?_ (by with_reducible assumption)))); obtain ⟨kcRp, kfRp, kaRp, kgRp, klRp⟩ := kRp.rules; go_simp; exact rfl); (try simp only [Act.put, List.setIfInBounds_toArray, List.set_cons_zero, List.set_cons_succ]))
    refine wpGo_eff rfl (fun K hK => ?_)
    go_simp
    refine (sat_q q.c _ Hm _ HC.out).mono ?_
    rintro e w1 ⟨rfl, hb1⟩
    refine hK.out _ _ (by repeat (first | (with_reducible exact Below.refl _ _) | (with_reducible refine balloc ?_ _) | (with_reducible refine Below.drew ?_) | (with_reducible refine bdrewN ?_ _) | ((with_reducible refine bset ?_ ?_ _); rotate_left; focus (first | (with_reducible exact Nat.le_refl _) | (simp; done) | (simp; omega) | omega)) | (with_reducible refine bstep (by with_reducible assumption) ?_))) (fun hS1 => ?_)
    clear hK K
    refine wpGo_eff rfl (fun K hK => ?_)
    go_simp
    refine (low_q q.c lo Hlo _).mono ?_
    rintro e w2 ⟨rfl, hb2⟩
    refine hK.out _ _ (by repeat (first | (with_reducible exact Below.refl _ _) | (with_reducible refine balloc ?_ _) | (with_reducible refine Below.drew ?_) | (with_reducible refine bdrewN ?_ _) | ((with_reducible refine bset ?_ ?_ _); rotate_left; focus (first | (with_reducible exact Nat.le_refl _) | (simp; done) | (simp; omega) | omega)) | (with_reducible refine bstep (by with_reducible assumption) ?_))) (fun hS2 => ?_)
    clear hK K
    refine wpGo_eff rfl (fun K hK => ?_)
    go_simp
    refine (high_q q.c hi Hhi _).mono ?_
    rintro e w3 ⟨rfl, hb3⟩
    refine hK.out _ _ (by repeat (first | (with_reducible exact Below.refl _ _) | (with_reducible refine balloc ?_ _) | (with_reducible refine Below.drew ?_) | (with_reducible refine bdrewN ?_ _) | ((with_reducible refine bset ?_ ?_ _); rotate_left; focus (first | (with_reducible exact Nat.le_refl _) | (simp; done) | (simp; omega) | omega)) | (with_reducible refine bstep (by with_reducible assumption) ?_))) (fun hS3 => ?_)
    clear hK K
    repeat (refine wpGo_pure (v := ?_) rfl rfl (fun w' hS => ?_) ?_; rotate_left; (· have kRp : Bk w' (w.heap.size) 83 #[.int .i64 q.c.r, .int .i64 q.c.g, .int .i64 q.c.b, .int .i64 q.t, .int .i64 q.l, .int .i64 q.a] := (by repeat (first | (with_reducible assumption) | ((with_reducible refine Bk.new _ _ _ ?_); first | (with_reducible rfl) | (simp; done)) | (with_reducible refine Bk.alloc ?_ _) | (with_reducible refine Bk.drew ?_) | (with_reducible refine Bk.drewN ?_ _) | ((with_reducible refine Bk.far ?_ ?_ _); rotate_left; focus (first | (simp; done) | (simp; omega))) | (with_reducible refine Bk.below ?_ (by with_reducible assumption)))); obtain ⟨kcRp, kfRp, kaRp, kgRp, klRp⟩ := kRp.rules; go_simp; exact rfl); (try simp only [Act.put, List.setIfInBounds_toArray, List.set_cons_zero, List.set_cons_succ]))
    refine wpGo_nil ?_
    simp only [List.drop_succ_cons, List.drop_zero]
    have kR3 : Bk w3 (w.heap.size) 83 #[.int .i64 q.c.r, .int .i64 q.c.g, .int .i64 q.c.b, .int .i64 q.t, .int .i64 q.l, .int .i64 q.a] := (by repeat (first | (with_reducible assumption) | ((with_reducible refine Bk.new _ _ _ ?_); first | (with_reducible rfl) | (simp; done)) | (with_reducible refine Bk.alloc ?_ _) | (with_reducible refine Bk.drew ?_) | (with_reducible refine Bk.drewN ?_ _) | ((with_reducible refine Bk.far ?_ ?_ _); rotate_left; focus (first | (simp; done) | (simp; omega))) | (with_reducible refine Bk.below ?_ (by with_reducible assumption)))); obtain ⟨kcR3, kfR3, kaR3, kgR3, klR3⟩ := kR3.rules
    go_wp2_with fail
    go_ret2
    exact ⟨rfl, (by repeat (first | (with_reducible exact Below.refl _ _) | (with_reducible refine balloc ?_ _) | (with_reducible refine Below.drew ?_) | (with_reducible refine bdrewN ?_ _) | ((with_reducible refine bset ?_ ?_ _); rotate_left; focus (first | (with_reducible exact Nat.le_refl _) | (simp; done) | (simp; omega) | omega)) | (with_reducible refine bstep (by with_reducible assumption) ?_)))⟩
  have hm0 : (m == 0) = false := by simpa using hm
  by_cases hl : lv < 0
  · have h1 := Hnm.out
    have h2 := Hdn.out
    rw [if_neg hm, if_pos hl] at h1 h2
    subst h1
    subst h2
    clear Hnm Hdn hm
    go_enter Tryz.func93, Tryz.ntmps93
    go_wp2_with fail
    refine wp_region_gob 12 [(0, true), (1, true), (3, true), (4, true), (6, true), (7, true), (2, false), (5, false), (8, false), (9, true), (10, true), (11, true)] (by kernel_rfl) (by kernel_rfl) (fun c a d v w h => by cases d <;> exact h) ?_
    repeat (refine wpGo_pure (v := ?_) rfl rfl (fun w' hS => ?_) ?_; rotate_left; (· have kRp : Bk w' (w.heap.size) 83 #[.int .i64 q.c.r, .int .i64 q.c.g, .int .i64 q.c.b, .int .i64 q.t, .int .i64 q.l, .int .i64 q.a] := (by repeat (first | (with_reducible assumption) | ((with_reducible refine Bk.new _ _ _ ?_); first | (with_reducible rfl) | (simp; done)) | (with_reducible refine Bk.alloc ?_ _) | (with_reducible refine Bk.drew ?_) | (with_reducible refine Bk.drewN ?_ _) | ((with_reducible refine Bk.far ?_ ?_ _); rotate_left; focus (first | (simp; done) | (simp; omega))) | (with_reducible refine Bk.below ?_ (by with_reducible assumption)))); obtain ⟨kcRp, kfRp, kaRp, kgRp, klRp⟩ := kRp.rules; go_simp; exact rfl); (try simp only [Act.put, List.setIfInBounds_toArray, List.set_cons_zero, List.set_cons_succ]))
    refine wpGo_eff rfl (fun K hK => ?_)
    go_simp
    refine (sat_q q.c _ Hm _ HC.out).mono ?_
    rintro e w1 ⟨rfl, hb1⟩
    refine hK.out _ _ (by repeat (first | (with_reducible exact Below.refl _ _) | (with_reducible refine balloc ?_ _) | (with_reducible refine Below.drew ?_) | (with_reducible refine bdrewN ?_ _) | ((with_reducible refine bset ?_ ?_ _); rotate_left; focus (first | (with_reducible exact Nat.le_refl _) | (simp; done) | (simp; omega) | omega)) | (with_reducible refine bstep (by with_reducible assumption) ?_))) (fun hS1 => ?_)
    clear hK K
    refine wpGo_eff rfl (fun K hK => ?_)
    go_simp
    refine (low_q q.c lo Hlo _).mono ?_
    rintro e w2 ⟨rfl, hb2⟩
    refine hK.out _ _ (by repeat (first | (with_reducible exact Below.refl _ _) | (with_reducible refine balloc ?_ _) | (with_reducible refine Below.drew ?_) | (with_reducible refine bdrewN ?_ _) | ((with_reducible refine bset ?_ ?_ _); rotate_left; focus (first | (with_reducible exact Nat.le_refl _) | (simp; done) | (simp; omega) | omega)) | (with_reducible refine bstep (by with_reducible assumption) ?_))) (fun hS2 => ?_)
    clear hK K
    refine wpGo_eff rfl (fun K hK => ?_)
    go_simp
    refine (high_q q.c hi Hhi _).mono ?_
    rintro e w3 ⟨rfl, hb3⟩
    refine hK.out _ _ (by repeat (first | (with_reducible exact Below.refl _ _) | (with_reducible refine balloc ?_ _) | (with_reducible refine Below.drew ?_) | (with_reducible refine bdrewN ?_ _) | ((with_reducible refine bset ?_ ?_ _); rotate_left; focus (first | (with_reducible exact Nat.le_refl _) | (simp; done) | (simp; omega) | omega)) | (with_reducible refine bstep (by with_reducible assumption) ?_))) (fun hS3 => ?_)
    clear hK K
    repeat (refine wpGo_pure (v := ?_) rfl rfl (fun w' hS => ?_) ?_; rotate_left; (· have kRp : Bk w' (w.heap.size) 83 #[.int .i64 q.c.r, .int .i64 q.c.g, .int .i64 q.c.b, .int .i64 q.t, .int .i64 q.l, .int .i64 q.a] := (by repeat (first | (with_reducible assumption) | ((with_reducible refine Bk.new _ _ _ ?_); first | (with_reducible rfl) | (simp; done)) | (with_reducible refine Bk.alloc ?_ _) | (with_reducible refine Bk.drew ?_) | (with_reducible refine Bk.drewN ?_ _) | ((with_reducible refine Bk.far ?_ ?_ _); rotate_left; focus (first | (simp; done) | (simp; omega))) | (with_reducible refine Bk.below ?_ (by with_reducible assumption)))); obtain ⟨kcRp, kfRp, kaRp, kgRp, klRp⟩ := kRp.rules; go_simp; exact rfl); (try simp only [Act.put, List.setIfInBounds_toArray, List.set_cons_zero, List.set_cons_succ]))
    refine wpGo_nil ?_
    simp only [List.drop_succ_cons, List.drop_zero]
    have kR3 : Bk w3 (w.heap.size) 83 #[.int .i64 q.c.r, .int .i64 q.c.g, .int .i64 q.c.b, .int .i64 q.t, .int .i64 q.l, .int .i64 q.a] := (by repeat (first | (with_reducible assumption) | ((with_reducible refine Bk.new _ _ _ ?_); first | (with_reducible rfl) | (simp; done)) | (with_reducible refine Bk.alloc ?_ _) | (with_reducible refine Bk.drew ?_) | (with_reducible refine Bk.drewN ?_ _) | ((with_reducible refine Bk.far ?_ ?_ _); rotate_left; focus (first | (simp; done) | (simp; omega))) | (with_reducible refine Bk.below ?_ (by with_reducible assumption)))); obtain ⟨kcR3, kfR3, kaR3, kgR3, klR3⟩ := kR3.rules
    go_wp2_with fail
    refine (lum_q q.c lu Hlu _ HC.out).mono ?_
    rintro e w4 ⟨rfl, hb4⟩
    clear kcR3 kfR3 kaR3 kgR3
    have kR4 : Bk w4 (w.heap.size) 83 #[.int .i64 q.c.r, .int .i64 q.c.g, .int .i64 q.c.b, .int .i64 q.t, .int .i64 q.l, .int .i64 q.a] := (by repeat (first | (with_reducible assumption) | ((with_reducible refine Bk.new _ _ _ ?_); first | (with_reducible rfl) | (simp; done)) | (with_reducible refine Bk.alloc ?_ _) | (with_reducible refine Bk.drew ?_) | (with_reducible refine Bk.drewN ?_ _) | ((with_reducible refine Bk.far ?_ ?_ _); rotate_left; focus (first | (simp; done) | (simp; omega))) | (with_reducible refine Bk.below ?_ (by with_reducible assumption)))); obtain ⟨kcR4, kfR4, kaR4, kgR4, klR4⟩ := kR4.rules
    go_wp2_with fail
    refine (lum_q q.c lu Hlu _ HC.out).mono ?_
    rintro e w5 ⟨rfl, hb5⟩
    clear kcR4 kfR4 kaR4 kgR4
    have kR5 : Bk w5 (w.heap.size) 83 #[.int .i64 q.c.r, .int .i64 q.c.g, .int .i64 q.c.b, .int .i64 q.t, .int .i64 q.l, .int .i64 q.a] := (by repeat (first | (with_reducible assumption) | ((with_reducible refine Bk.new _ _ _ ?_); first | (with_reducible rfl) | (simp; done)) | (with_reducible refine Bk.alloc ?_ _) | (with_reducible refine Bk.drew ?_) | (with_reducible refine Bk.drewN ?_ _) | ((with_reducible refine Bk.far ?_ ?_ _); rotate_left; focus (first | (simp; done) | (simp; omega))) | (with_reducible refine Bk.below ?_ (by with_reducible assumption)))); obtain ⟨kcR5, kfR5, kaR5, kgR5, klR5⟩ := kR5.rules
    go_wp2
    go_ret2
    exact ⟨rfl, (by repeat (first | (with_reducible exact Below.refl _ _) | (with_reducible refine balloc ?_ _) | (with_reducible refine Below.drew ?_) | (with_reducible refine bdrewN ?_ _) | ((with_reducible refine bset ?_ ?_ _); rotate_left; focus (first | (with_reducible exact Nat.le_refl _) | (simp; done) | (simp; omega) | omega)) | (with_reducible refine bstep (by with_reducible assumption) ?_)))⟩
  by_cases hb : 100 * q.a * m < 100 * m * q.t + lv
  · have h1 := Hnm.out
    have h2 := Hdn.out
    rw [if_neg hm, if_neg hl, if_pos hb] at h1 h2
    subst h1
    subst h2
    clear Hnm Hdn hm
    go_enter Tryz.func93, Tryz.ntmps93
    go_wp2_with fail
    refine wp_region_gob 12 [(0, true), (1, true), (3, true), (4, true), (6, true), (7, true), (2, false), (5, false), (8, false), (9, true), (10, true), (11, true)] (by kernel_rfl) (by kernel_rfl) (fun c a d v w h => by cases d <;> exact h) ?_
    repeat (refine wpGo_pure (v := ?_) rfl rfl (fun w' hS => ?_) ?_; rotate_left; (· have kRp : Bk w' (w.heap.size) 83 #[.int .i64 q.c.r, .int .i64 q.c.g, .int .i64 q.c.b, .int .i64 q.t, .int .i64 q.l, .int .i64 q.a] := (by repeat (first | (with_reducible assumption) | ((with_reducible refine Bk.new _ _ _ ?_); first | (with_reducible rfl) | (simp; done)) | (with_reducible refine Bk.alloc ?_ _) | (with_reducible refine Bk.drew ?_) | (with_reducible refine Bk.drewN ?_ _) | ((with_reducible refine Bk.far ?_ ?_ _); rotate_left; focus (first | (simp; done) | (simp; omega))) | (with_reducible refine Bk.below ?_ (by with_reducible assumption)))); obtain ⟨kcRp, kfRp, kaRp, kgRp, klRp⟩ := kRp.rules; go_simp; exact rfl); (try simp only [Act.put, List.setIfInBounds_toArray, List.set_cons_zero, List.set_cons_succ]))
    refine wpGo_eff rfl (fun K hK => ?_)
    go_simp
    refine (sat_q q.c _ Hm _ HC.out).mono ?_
    rintro e w1 ⟨rfl, hb1⟩
    refine hK.out _ _ (by repeat (first | (with_reducible exact Below.refl _ _) | (with_reducible refine balloc ?_ _) | (with_reducible refine Below.drew ?_) | (with_reducible refine bdrewN ?_ _) | ((with_reducible refine bset ?_ ?_ _); rotate_left; focus (first | (with_reducible exact Nat.le_refl _) | (simp; done) | (simp; omega) | omega)) | (with_reducible refine bstep (by with_reducible assumption) ?_))) (fun hS1 => ?_)
    clear hK K
    refine wpGo_eff rfl (fun K hK => ?_)
    go_simp
    refine (low_q q.c lo Hlo _).mono ?_
    rintro e w2 ⟨rfl, hb2⟩
    refine hK.out _ _ (by repeat (first | (with_reducible exact Below.refl _ _) | (with_reducible refine balloc ?_ _) | (with_reducible refine Below.drew ?_) | (with_reducible refine bdrewN ?_ _) | ((with_reducible refine bset ?_ ?_ _); rotate_left; focus (first | (with_reducible exact Nat.le_refl _) | (simp; done) | (simp; omega) | omega)) | (with_reducible refine bstep (by with_reducible assumption) ?_))) (fun hS2 => ?_)
    clear hK K
    refine wpGo_eff rfl (fun K hK => ?_)
    go_simp
    refine (high_q q.c hi Hhi _).mono ?_
    rintro e w3 ⟨rfl, hb3⟩
    refine hK.out _ _ (by repeat (first | (with_reducible exact Below.refl _ _) | (with_reducible refine balloc ?_ _) | (with_reducible refine Below.drew ?_) | (with_reducible refine bdrewN ?_ _) | ((with_reducible refine bset ?_ ?_ _); rotate_left; focus (first | (with_reducible exact Nat.le_refl _) | (simp; done) | (simp; omega) | omega)) | (with_reducible refine bstep (by with_reducible assumption) ?_))) (fun hS3 => ?_)
    clear hK K
    repeat (refine wpGo_pure (v := ?_) rfl rfl (fun w' hS => ?_) ?_; rotate_left; (· have kRp : Bk w' (w.heap.size) 83 #[.int .i64 q.c.r, .int .i64 q.c.g, .int .i64 q.c.b, .int .i64 q.t, .int .i64 q.l, .int .i64 q.a] := (by repeat (first | (with_reducible assumption) | ((with_reducible refine Bk.new _ _ _ ?_); first | (with_reducible rfl) | (simp; done)) | (with_reducible refine Bk.alloc ?_ _) | (with_reducible refine Bk.drew ?_) | (with_reducible refine Bk.drewN ?_ _) | ((with_reducible refine Bk.far ?_ ?_ _); rotate_left; focus (first | (simp; done) | (simp; omega))) | (with_reducible refine Bk.below ?_ (by with_reducible assumption)))); obtain ⟨kcRp, kfRp, kaRp, kgRp, klRp⟩ := kRp.rules; go_simp; exact rfl); (try simp only [Act.put, List.setIfInBounds_toArray, List.set_cons_zero, List.set_cons_succ]))
    refine wpGo_nil ?_
    simp only [List.drop_succ_cons, List.drop_zero]
    have kR3 : Bk w3 (w.heap.size) 83 #[.int .i64 q.c.r, .int .i64 q.c.g, .int .i64 q.c.b, .int .i64 q.t, .int .i64 q.l, .int .i64 q.a] := (by repeat (first | (with_reducible assumption) | ((with_reducible refine Bk.new _ _ _ ?_); first | (with_reducible rfl) | (simp; done)) | (with_reducible refine Bk.alloc ?_ _) | (with_reducible refine Bk.drew ?_) | (with_reducible refine Bk.drewN ?_ _) | ((with_reducible refine Bk.far ?_ ?_ _); rotate_left; focus (first | (simp; done) | (simp; omega))) | (with_reducible refine Bk.below ?_ (by with_reducible assumption)))); obtain ⟨kcR3, kfR3, kaR3, kgR3, klR3⟩ := kR3.rules
    go_wp2_with fail
    refine (lum_q q.c lu Hlu _ HC.out).mono ?_
    rintro e w4 ⟨rfl, hb4⟩
    clear kcR3 kfR3 kaR3 kgR3
    have kR4 : Bk w4 (w.heap.size) 83 #[.int .i64 q.c.r, .int .i64 q.c.g, .int .i64 q.c.b, .int .i64 q.t, .int .i64 q.l, .int .i64 q.a] := (by repeat (first | (with_reducible assumption) | ((with_reducible refine Bk.new _ _ _ ?_); first | (with_reducible rfl) | (simp; done)) | (with_reducible refine Bk.alloc ?_ _) | (with_reducible refine Bk.drew ?_) | (with_reducible refine Bk.drewN ?_ _) | ((with_reducible refine Bk.far ?_ ?_ _); rotate_left; focus (first | (simp; done) | (simp; omega))) | (with_reducible refine Bk.below ?_ (by with_reducible assumption)))); obtain ⟨kcR4, kfR4, kaR4, kgR4, klR4⟩ := kR4.rules
    go_wp2_with fail
    refine (lum_q q.c lu Hlu _ HC.out).mono ?_
    rintro e w5 ⟨rfl, hb5⟩
    clear kcR4 kfR4 kaR4 kgR4
    have kR5 : Bk w5 (w.heap.size) 83 #[.int .i64 q.c.r, .int .i64 q.c.g, .int .i64 q.c.b, .int .i64 q.t, .int .i64 q.l, .int .i64 q.a] := (by repeat (first | (with_reducible assumption) | ((with_reducible refine Bk.new _ _ _ ?_); first | (with_reducible rfl) | (simp; done)) | (with_reducible refine Bk.alloc ?_ _) | (with_reducible refine Bk.drew ?_) | (with_reducible refine Bk.drewN ?_ _) | ((with_reducible refine Bk.far ?_ ?_ _); rotate_left; focus (first | (simp; done) | (simp; omega))) | (with_reducible refine Bk.below ?_ (by with_reducible assumption)))); obtain ⟨kcR5, kfR5, kaR5, kgR5, klR5⟩ := kR5.rules
    go_wp2
    go_ret2
    exact ⟨rfl, (by repeat (first | (with_reducible exact Below.refl _ _) | (with_reducible refine balloc ?_ _) | (with_reducible refine Below.drew ?_) | (with_reducible refine bdrewN ?_ _) | ((with_reducible refine bset ?_ ?_ _); rotate_left; focus (first | (with_reducible exact Nat.le_refl _) | (simp; done) | (simp; omega) | omega)) | (with_reducible refine bstep (by with_reducible assumption) ?_)))⟩
  · have h1 := Hnm.out
    have h2 := Hdn.out
    rw [if_neg hm, if_neg hl, if_neg hb] at h1 h2
    subst h1
    subst h2
    clear Hnm Hdn hm
    go_enter Tryz.func93, Tryz.ntmps93
    go_wp2_with fail
    refine wp_region_gob 12 [(0, true), (1, true), (3, true), (4, true), (6, true), (7, true), (2, false), (5, false), (8, false), (9, true), (10, true), (11, true)] (by kernel_rfl) (by kernel_rfl) (fun c a d v w h => by cases d <;> exact h) ?_
    repeat (refine wpGo_pure (v := ?_) rfl rfl (fun w' hS => ?_) ?_; rotate_left; (· have kRp : Bk w' (w.heap.size) 83 #[.int .i64 q.c.r, .int .i64 q.c.g, .int .i64 q.c.b, .int .i64 q.t, .int .i64 q.l, .int .i64 q.a] := (by repeat (first | (with_reducible assumption) | ((with_reducible refine Bk.new _ _ _ ?_); first | (with_reducible rfl) | (simp; done)) | (with_reducible refine Bk.alloc ?_ _) | (with_reducible refine Bk.drew ?_) | (with_reducible refine Bk.drewN ?_ _) | ((with_reducible refine Bk.far ?_ ?_ _); rotate_left; focus (first | (simp; done) | (simp; omega))) | (with_reducible refine Bk.below ?_ (by with_reducible assumption)))); obtain ⟨kcRp, kfRp, kaRp, kgRp, klRp⟩ := kRp.rules; go_simp; exact rfl); (try simp only [Act.put, List.setIfInBounds_toArray, List.set_cons_zero, List.set_cons_succ]))
    refine wpGo_eff rfl (fun K hK => ?_)
    go_simp
    refine (sat_q q.c _ Hm _ HC.out).mono ?_
    rintro e w1 ⟨rfl, hb1⟩
    refine hK.out _ _ (by repeat (first | (with_reducible exact Below.refl _ _) | (with_reducible refine balloc ?_ _) | (with_reducible refine Below.drew ?_) | (with_reducible refine bdrewN ?_ _) | ((with_reducible refine bset ?_ ?_ _); rotate_left; focus (first | (with_reducible exact Nat.le_refl _) | (simp; done) | (simp; omega) | omega)) | (with_reducible refine bstep (by with_reducible assumption) ?_))) (fun hS1 => ?_)
    clear hK K
    refine wpGo_eff rfl (fun K hK => ?_)
    go_simp
    refine (low_q q.c lo Hlo _).mono ?_
    rintro e w2 ⟨rfl, hb2⟩
    refine hK.out _ _ (by repeat (first | (with_reducible exact Below.refl _ _) | (with_reducible refine balloc ?_ _) | (with_reducible refine Below.drew ?_) | (with_reducible refine bdrewN ?_ _) | ((with_reducible refine bset ?_ ?_ _); rotate_left; focus (first | (with_reducible exact Nat.le_refl _) | (simp; done) | (simp; omega) | omega)) | (with_reducible refine bstep (by with_reducible assumption) ?_))) (fun hS2 => ?_)
    clear hK K
    refine wpGo_eff rfl (fun K hK => ?_)
    go_simp
    refine (high_q q.c hi Hhi _).mono ?_
    rintro e w3 ⟨rfl, hb3⟩
    refine hK.out _ _ (by repeat (first | (with_reducible exact Below.refl _ _) | (with_reducible refine balloc ?_ _) | (with_reducible refine Below.drew ?_) | (with_reducible refine bdrewN ?_ _) | ((with_reducible refine bset ?_ ?_ _); rotate_left; focus (first | (with_reducible exact Nat.le_refl _) | (simp; done) | (simp; omega) | omega)) | (with_reducible refine bstep (by with_reducible assumption) ?_))) (fun hS3 => ?_)
    clear hK K
    repeat (refine wpGo_pure (v := ?_) rfl rfl (fun w' hS => ?_) ?_; rotate_left; (· have kRp : Bk w' (w.heap.size) 83 #[.int .i64 q.c.r, .int .i64 q.c.g, .int .i64 q.c.b, .int .i64 q.t, .int .i64 q.l, .int .i64 q.a] := (by repeat (first | (with_reducible assumption) | ((with_reducible refine Bk.new _ _ _ ?_); first | (with_reducible rfl) | (simp; done)) | (with_reducible refine Bk.alloc ?_ _) | (with_reducible refine Bk.drew ?_) | (with_reducible refine Bk.drewN ?_ _) | ((with_reducible refine Bk.far ?_ ?_ _); rotate_left; focus (first | (simp; done) | (simp; omega))) | (with_reducible refine Bk.below ?_ (by with_reducible assumption)))); obtain ⟨kcRp, kfRp, kaRp, kgRp, klRp⟩ := kRp.rules; go_simp; exact rfl); (try simp only [Act.put, List.setIfInBounds_toArray, List.set_cons_zero, List.set_cons_succ]))
    refine wpGo_nil ?_
    simp only [List.drop_succ_cons, List.drop_zero]
    have kR3 : Bk w3 (w.heap.size) 83 #[.int .i64 q.c.r, .int .i64 q.c.g, .int .i64 q.c.b, .int .i64 q.t, .int .i64 q.l, .int .i64 q.a] := (by repeat (first | (with_reducible assumption) | ((with_reducible refine Bk.new _ _ _ ?_); first | (with_reducible rfl) | (simp; done)) | (with_reducible refine Bk.alloc ?_ _) | (with_reducible refine Bk.drew ?_) | (with_reducible refine Bk.drewN ?_ _) | ((with_reducible refine Bk.far ?_ ?_ _); rotate_left; focus (first | (simp; done) | (simp; omega))) | (with_reducible refine Bk.below ?_ (by with_reducible assumption)))); obtain ⟨kcR3, kfR3, kaR3, kgR3, klR3⟩ := kR3.rules
    go_wp2_with fail
    refine (lum_q q.c lu Hlu _ HC.out).mono ?_
    rintro e w4 ⟨rfl, hb4⟩
    clear kcR3 kfR3 kaR3 kgR3
    have kR4 : Bk w4 (w.heap.size) 83 #[.int .i64 q.c.r, .int .i64 q.c.g, .int .i64 q.c.b, .int .i64 q.t, .int .i64 q.l, .int .i64 q.a] := (by repeat (first | (with_reducible assumption) | ((with_reducible refine Bk.new _ _ _ ?_); first | (with_reducible rfl) | (simp; done)) | (with_reducible refine Bk.alloc ?_ _) | (with_reducible refine Bk.drew ?_) | (with_reducible refine Bk.drewN ?_ _) | ((with_reducible refine Bk.far ?_ ?_ _); rotate_left; focus (first | (simp; done) | (simp; omega))) | (with_reducible refine Bk.below ?_ (by with_reducible assumption)))); obtain ⟨kcR4, kfR4, kaR4, kgR4, klR4⟩ := kR4.rules
    go_wp2_with fail
    refine (lum_q q.c lu Hlu _ HC.out).mono ?_
    rintro e w5 ⟨rfl, hb5⟩
    clear kcR4 kfR4 kaR4 kgR4
    have kR5 : Bk w5 (w.heap.size) 83 #[.int .i64 q.c.r, .int .i64 q.c.g, .int .i64 q.c.b, .int .i64 q.t, .int .i64 q.l, .int .i64 q.a] := (by repeat (first | (with_reducible assumption) | ((with_reducible refine Bk.new _ _ _ ?_); first | (with_reducible rfl) | (simp; done)) | (with_reducible refine Bk.alloc ?_ _) | (with_reducible refine Bk.drew ?_) | (with_reducible refine Bk.drewN ?_ _) | ((with_reducible refine Bk.far ?_ ?_ _); rotate_left; focus (first | (simp; done) | (simp; omega))) | (with_reducible refine Bk.below ?_ (by with_reducible assumption)))); obtain ⟨kcR5, kfR5, kaR5, kgR5, klR5⟩ := kR5.rules
    go_wp2
    go_ret2
    exact ⟨rfl, (by repeat (first | (with_reducible exact Below.refl _ _) | (with_reducible refine balloc ?_ _) | (with_reducible refine Below.drew ?_) | (with_reducible refine bdrewN ?_ _) | ((with_reducible refine bset ?_ ?_ _); rotate_left; focus (first | (with_reducible exact Nat.le_refl _) | (simp; done) | (simp; omega) | omega)) | (with_reducible refine bstep (by with_reducible assumption) ?_)))⟩
end Go.Proofs.YtnefnnhnjmmebaaGreat

namespace Go.Proofs.YtnefnnhnjmmebaaGreat
open Go.RowKit
set_option linter.unusedSimpArgs false
set_option linter.unusedVariables false


theorem chan_bd {nm dn base a : Int} (h0 : 1 ≤ dn) (h1 : 0 ≤ nm) (h2 : nm ≤ a * dn) (h3 : 0 ≤ base) (h4 : base + a ≤ 65025) (h5 : 0 ≤ a) (h6 : dn ≤ 6502600) :
    (0 ≤ base * dn ∧ base * dn ≤ 500000000000) ∧ nm ≤ 500000000000 ∧ 0 ≤ (2 * (base * dn + nm) + 255 * dn) / (510 * dn) ∧ (2 * (base * dn + nm) + 255 * dn) / (510 * dn) ≤ 255 := by
  have a1 := mul_le (x := base) (y := dn) (a := 65025) (b := 6502600) h3 (by omega) (by omega) h6
  have a2 := mul_le (x := a) (y := dn) (a := 65025) (b := 6502600) h5 (by omega) (by omega) h6
  have a3 : base * dn + a * dn ≤ 65025 * dn := by rw [← Int.add_mul]; exact Int.mul_le_mul_of_nonneg_right h4 (by omega)
  refine ⟨by omega, by omega, Int.ediv_nonneg (by omega) (by omega), ?_⟩
  have : (2 * (base * dn + nm) + 255 * dn) / (510 * dn) < 256 := Int.ediv_lt_of_lt_mul (by omega) (by omega)
  omega

set_option maxHeartbeats 800000 in
theorem rchan_any (q : Rcp) (base x : Int) (w : World) (hf : q.fit) (ha : q.a ≤ 65025) (hx0 : q.c.low ≤ x) (hx1 : x ≤ q.c.high) (h0 : 0 ≤ base) (h1 : base + q.a ≤ 65025) :
    Calls Tryz.prog 81 #[.agg #[.int .i64 q.c.r, .int .i64 q.c.g, .int .i64 q.c.b, .int .i64 q.t, .int .i64 q.l, .int .i64 q.a], .int .i64 base, .int .i64 x] w fun e w' =>
      e = .returned (.int .u8 (q.chan base x)) ∧ Below w.heap.size w w' := by
  have HT := Lib.hid (fun w => rterm_any q x w hf ha hx0 hx1)
  obtain ⟨d0, d1, n0, n1⟩ := hf.kinds hx0 hx1
  have hb := chan_bd d0 n0 n1 h0 h1 (by have := hf.r0; have := hf.r1; omega) (by omega)
  unfold Rcp.chan
  generalize q.num x = nm at *
  generalize q.den = dn at *
  obtain ⟨b1, b2, b3, b4⟩ := hb
  clear n1
  go_enter Tryz.func81, Tryz.ntmps81
  go_wp2_with fail
  refine (HT.out _).mono ?_
  rintro e w1 ⟨rfl, hb1⟩
  have hd0 : ¬ 510 * dn = 0 := by omega
  go_wp2
  go_ret
  exact ⟨rfl, (by repeat (first | (with_reducible exact Below.refl _ _) | (with_reducible refine balloc ?_ _) | (with_reducible refine Below.drew ?_) | (with_reducible refine bdrewN ?_ _) | ((with_reducible refine bset ?_ ?_ _); rotate_left; focus (first | (with_reducible exact Nat.le_refl _) | (simp; done) | (simp; omega) | omega)) | (with_reducible refine bstep (by with_reducible assumption) ?_)))⟩

set_option maxHeartbeats 400000 in
theorem base_any (x y sa da : Int) (b7 b8 : Nat) (w : World) (x0 : 0 ≤ x) (x1 : x ≤ 255) (y0 : 0 ≤ y) (y1 : y ≤ 255) (s0 : 0 ≤ sa) (s1 : sa ≤ 255) (d0 : 0 ≤ da) (d1 : da ≤ 255) (k8 : Bk w b8 3 #[.int .i64 da]) (k7 : Bk w b7 3 #[.int .i64 sa]) :
    Calls Tryz.prog 80 #[.int .u8 x, .int .u8 y, .pointer (some ⟨b8, 0, none⟩), .pointer (some ⟨b7, 0, none⟩)] w fun e w' => e = .returned (.int .i64 (baseP x y sa da)) ∧ w = w' := by
  obtain ⟨kc7, kf7, ka7, kg7, kl7⟩ := k7.rules
  obtain ⟨kc8, kf8, ka8, kg8, kl8⟩ := k8.rules
  have m1 := mul_byte (x := x) (y := 255 - da) x0 x1 (by omega) (by omega)
  have m2 := mul_byte (x := y) (y := 255 - sa) y0 y1 (by omega) (by omega)
  unfold baseP
  go_enter Tryz.func80, Tryz.ntmps80
  go_wp2
  go_ret
  exact ⟨rfl, rfl⟩


theorem scaled_inR {s d : Px} (hs : s.ok) (hd : d.ok) : (scaledP s d.a).inR := by
  obtain ⟨r0, r1, g0, g1, b0, b1, a0, a1⟩ := hs
  obtain ⟨r0', r1', g0', g1', b0', b1', a0', a1'⟩ := hd
  have e1 := mul_byte r0 (by omega) a0' a1'
  have e2 := mul_byte g0 (by omega) a0' a1'
  have e3 := mul_byte b0 (by omega) a0' a1'
  unfold C3.inR scaledP; simp only; omega
theorem recipe_q (mode : Int) (s d : C3) (a : Int) (q : Rcp) (hq : Hid (recipeP mode s d a = q)) (w : World) (hs : Hid s.inR) (hd : Hid d.inR) :
    Calls Tryz.prog 78 #[.int .i64 mode, .agg #[.int .i64 s.r, .int .i64 s.g, .int .i64 s.b], .agg #[.int .i64 d.r, .int .i64 d.g, .int .i64 d.b], .int .i64 a] w fun e w' =>
      e = .returned (.agg #[.int .i64 q.c.r, .int .i64 q.c.g, .int .i64 q.c.b, .int .i64 q.t, .int .i64 q.l, .int .i64 q.a]) ∧ Below w.heap.size w w' := by
  have h := hq.out; subst h; exact recipe_any mode s d a w hs hd

theorem base_bd {x y sa da : Int} (h0 : 0 ≤ x) (h1 : x ≤ sa) (h2 : sa ≤ 255) (h3 : 0 ≤ y) (h4 : y ≤ da) (h5 : da ≤ 255) : 0 ≤ baseP x y sa da ∧ baseP x y sa da + sa * da ≤ 65025 := by
  have a1 := mul_le h0 h1 (show 0 ≤ 255 - da by omega) (Int.le_refl (255 - da))
  have a2 := mul_le h3 h4 (show 0 ≤ 255 - sa by omega) (Int.le_refl (255 - sa))
  have a3 := Int.mul_nonneg (show 0 ≤ 255 - sa by omega) (show 0 ≤ 255 - da by omega)
  have e1 : sa * (255 - da) = 255 * sa - sa * da := by rw [Int.mul_sub]; omega
  have e2 : da * (255 - sa) = 255 * da - sa * da := by rw [Int.mul_sub, Int.mul_comm da sa]; omega
  have e3 : (255 - sa) * (255 - da) = 65025 - 255 * sa - 255 * da + sa * da := by rw [Int.sub_mul, Int.mul_sub, Int.mul_sub]; omega
  unfold baseP
  omega

set_option maxHeartbeats 4000000 in
theorem colors_any (mode : Int) (s d : Px) (w : World) (hs : s.ok) (hd : d.ok) (P : Px) (HP : Hid (wholeBlend mode s d = P)) :
    Calls Tryz.prog 64 #[.int .i64 mode, .agg #[.int .u8 s.r, .int .u8 s.g, .int .u8 s.b, .int .u8 s.a], .agg #[.int .u8 d.r, .int .u8 d.g, .int .u8 d.b, .int .u8 d.a]] w fun e w' =>
      e = .returned (.agg #[.int .u8 P.r, .int .u8 P.g, .int .u8 P.b, .int .u8 P.a]) ∧ Below w.heap.size w w' := by
  obtain ⟨q, Hq0⟩ : ∃ q, Hid (recipeP mode (scaledP s d.a) (scaledP d s.a) (s.a * d.a) = q) := ⟨_, rfl⟩
  have hfit := recipe_fit mode hs hd
  rw [Hq0.out] at hfit
  have hE := HP.out
  unfold wholeBlend at hE
  simp only [Hq0.out] at hE
  subst hE
  clear HP
  have HI1 := Lib.hid (scaled_inR hs hd)
  have HI2 := Lib.hid (scaled_inR hd hs)
  obtain ⟨cs, Hcs⟩ : ∃ q, Hid (scaledP s d.a = q) := ⟨_, rfl⟩
  obtain ⟨cd, Hcd⟩ : ∃ q, Hid (scaledP d s.a = q) := ⟨_, rfl⟩
  rw [Hcs.out] at HI1
  rw [Hcd.out] at HI2
  obtain ⟨a, Ha⟩ : ∃ q, Hid (s.a * d.a = q) := ⟨_, rfl⟩
  have Hq : Hid (recipeP mode cs cd a = q) := by have h := Hq0.out; rw [Hcs.out, Hcd.out, Ha.out] at h; exact h
  clear Hq0
  obtain ⟨HF0, hqa⟩ := hfit
  have HF := Lib.hid HF0
  have hsb := Lib.hid hs.byte
  have hdb := Lib.hid hd.byte
  obtain ⟨r0, r1, g0, g1, b0, b1, a0, a1⟩ := hs
  obtain ⟨r0', r1', g0', g1', b0', b1', a0', a1'⟩ := hd
  have eA0 := mul_byte a0 a1 a0' a1'
  have ea : IntKind.i64.wrap (s.a * d.a) = a := by rw [← Ha.out]; exact IntWalk.i64_in _ (by omega)
  rw [Ha.out] at hqa eA0
  have f1 : IntKind.i64.wrap s.a = s.a := IntWalk.i64_in _ (by omega)
  have f2 : IntKind.i64.wrap d.a = d.a := IntWalk.i64_in _ (by omega)
  have Hqa := Lib.hid hqa
  obtain ⟨n4, Hn4⟩ : ∃ n, Hid (s.a * (255 - d.a) + d.a * (255 - s.a) + s.a * d.a = n) := ⟨_, rfl⟩
  have hal : alphaP s.a d.a = dn8 n4 := by unfold alphaP; rw [Hn4.out]
  rw [hal]
  clear hal
  clear HF0 hqa
  go_enter Tryz.func64, Tryz.ntmps64
  go_wp2_with fail
  refine wp_region_mixs 10 [0, 1, 2, 3, 4, 5] [] [6, 7] [8, 9] (fun _ => 3) (fun _ => #[.int .i64 0]) (by kernel_rfl) (by kernel_rfl) (fun c a d v w h => by cases d <;> exact h) (fun c a d v w h => by cases d <;> exact h) (fun j hj => by simp only [List.mem_cons, List.not_mem_nil, or_false] at hj; rcases hj with rfl | rfl <;> exact ⟨_, rfl, rfl, fun a w => by go_simp; rfl⟩) ?_
  simp only [List.map_cons, List.map_nil]
  repeat (refine wpGo_pure (v := ?_) rfl rfl (fun w' hS => ?_) ?_; rotate_left; (· have kSp : Bk w' (w.heap.size) 45 #[.int .u8 s.r, .int .u8 s.g, .int .u8 s.b, .int .u8 s.a] := (by repeat (first | (with_reducible assumption) | ((with_reducible refine Bk.new _ _ _ ?_); first | (with_reducible rfl) | (simp; done)) | (with_reducible refine Bk.alloc ?_ _) | (with_reducible refine Bk.drew ?_) | (with_reducible refine Bk.drewN ?_ _) | ((with_reducible refine Bk.far ?_ ?_ _); rotate_left; focus (first | (simp; done) | (simp; omega))) | (with_reducible refine Bk.below ?_ (by with_reducible assumption)))); obtain ⟨kcSp, kfSp, kaSp, kgSp, klSp⟩ := kSp.rules; have kDp : Bk w' (w.heap.size + 1) 45 #[.int .u8 d.r, .int .u8 d.g, .int .u8 d.b, .int .u8 d.a] := (by repeat (first | (with_reducible assumption) | ((with_reducible refine Bk.new _ _ _ ?_); first | (with_reducible rfl) | (simp; done)) | (with_reducible refine Bk.alloc ?_ _) | (with_reducible refine Bk.drew ?_) | (with_reducible refine Bk.drewN ?_ _) | ((with_reducible refine Bk.far ?_ ?_ _); rotate_left; focus (first | (simp; done) | (simp; omega))) | (with_reducible refine Bk.below ?_ (by with_reducible assumption)))); obtain ⟨kcDp, kfDp, kaDp, kgDp, klDp⟩ := kDp.rules; go_simp; exact rfl); (try simp only [Act.put, List.setIfInBounds_toArray, List.set_cons_zero, List.set_cons_succ]))
  refine wpGo_nil ?_
  refine wpMix_end (fun β w1 hb1 hbk hne => ?_)
  obtain ⟨k6, l6⟩ := hbk 6 (by simp)
  obtain ⟨k7, l7⟩ := hbk 7 (by simp)
  have ne67 := hne 6 (by simp) 7 (by simp) (by decide)
  clear hbk hne
  simp only [putAll, dstOf, ptrTo, List.foldl_cons, List.foldl_nil, List.getElem?_toArray, List.getElem?_cons_succ, List.getElem?_cons_zero, Option.bind_some, Act.put, List.setIfInBounds_toArray, List.set_cons_zero, List.set_cons_succ, List.drop_succ_cons, List.drop_zero]
  generalize β 6 = b6 at *
  generalize β 7 = b7 at *
  clear β
  have l6' : w.heap.size + 1 + 1 + 1 ≤ b6 := by simpa using l6
  have l7' : w.heap.size + 1 + 1 + 1 ≤ b7 := by simpa using l7
  clear l6 l7
  obtain ⟨kc6, kf6, ka6, kg6, kl6⟩ := k6.rules
  obtain ⟨kc7, kf7, ka7, kg7, kl7⟩ := k7.rules
  have kS1 : Bk w1 (w.heap.size) 45 #[.int .u8 s.r, .int .u8 s.g, .int .u8 s.b, .int .u8 s.a] := (by repeat (first | (with_reducible assumption) | ((with_reducible refine Bk.new _ _ _ ?_); first | (with_reducible rfl) | (simp; done)) | (with_reducible refine Bk.alloc ?_ _) | (with_reducible refine Bk.drew ?_) | (with_reducible refine Bk.drewN ?_ _) | ((with_reducible refine Bk.far ?_ ?_ _); rotate_left; focus (first | (simp; done) | (simp; omega))) | (with_reducible refine Bk.below ?_ (by with_reducible assumption)))); obtain ⟨kcS1, kfS1, kaS1, kgS1, klS1⟩ := kS1.rules; have kD1 : Bk w1 (w.heap.size + 1) 45 #[.int .u8 d.r, .int .u8 d.g, .int .u8 d.b, .int .u8 d.a] := (by repeat (first | (with_reducible assumption) | ((with_reducible refine Bk.new _ _ _ ?_); first | (with_reducible rfl) | (simp; done)) | (with_reducible refine Bk.alloc ?_ _) | (with_reducible refine Bk.drew ?_) | (with_reducible refine Bk.drewN ?_ _) | ((with_reducible refine Bk.far ?_ ?_ _); rotate_left; focus (first | (simp; done) | (simp; omega))) | (with_reducible refine Bk.below ?_ (by with_reducible assumption)))); obtain ⟨kcD1, kfD1, kaD1, kgD1, klD1⟩ := kD1.rules; have kO1 : Bk w1 (w.heap.size + 1 + 1) 45 #[.int .u8 0, .int .u8 0, .int .u8 0, .int .u8 0] := (by repeat (first | (with_reducible assumption) | ((with_reducible refine Bk.new _ _ _ ?_); first | (with_reducible rfl) | (simp; done)) | (with_reducible refine Bk.alloc ?_ _) | (with_reducible refine Bk.drew ?_) | (with_reducible refine Bk.drewN ?_ _) | ((with_reducible refine Bk.far ?_ ?_ _); rotate_left; focus (first | (simp; done) | (simp; omega))) | (with_reducible refine Bk.below ?_ (by with_reducible assumption)))); obtain ⟨kcO1, kfO1, kaO1, kgO1, klO1⟩ := kO1.rules
  clear kcS1 kfS1 kaS1 kgS1 kcD1 kfD1 kaD1 kgD1 kcO1 kfO1 kaO1 kgO1
  refine wpGo_eff rfl (fun K hK => ?_)
  go_simp
  refine hK.out _ _ (by repeat (first | (with_reducible exact Below.refl _ _) | (with_reducible refine balloc ?_ _) | (with_reducible refine Below.drew ?_) | (with_reducible refine bdrewN ?_ _) | ((with_reducible refine bset ?_ ?_ _); rotate_left; focus (first | (with_reducible exact Nat.le_refl _) | (simp; done) | (simp; omega) | omega)) | (with_reducible refine bstep (by with_reducible assumption) ?_))) (fun hS2 => ?_)
  clear hK K
  refine wpGo_eff rfl (fun K hK => ?_)
  go_simp
  refine hK.out _ _ (by repeat (first | (with_reducible exact Below.refl _ _) | (with_reducible refine balloc ?_ _) | (with_reducible refine Below.drew ?_) | (with_reducible refine bdrewN ?_ _) | ((with_reducible refine bset ?_ ?_ _); rotate_left; focus (first | (with_reducible exact Nat.le_refl _) | (simp; done) | (simp; omega) | omega)) | (with_reducible refine bstep (by with_reducible assumption) ?_))) (fun hS3 => ?_)
  clear hK K
  refine wpGo_nil ?_
  have kS : Bk _ (w.heap.size) 45 #[.int .u8 s.r, .int .u8 s.g, .int .u8 s.b, .int .u8 s.a] := ((kS1.far (p := ⟨b6, 0, none⟩) (by simp; omega) (.int .i64 s.a)).far (p := ⟨b7, 0, none⟩) (by simp; omega) (.int .i64 d.a))
  have kD : Bk _ (w.heap.size + 1) 45 #[.int .u8 d.r, .int .u8 d.g, .int .u8 d.b, .int .u8 d.a] := ((kD1.far (p := ⟨b6, 0, none⟩) (by simp; omega) (.int .i64 s.a)).far (p := ⟨b7, 0, none⟩) (by simp; omega) (.int .i64 d.a))
  have kO : Bk _ (w.heap.size + 1 + 1) 45 #[.int .u8 0, .int .u8 0, .int .u8 0, .int .u8 0] := ((kO1.far (p := ⟨b6, 0, none⟩) (by simp; omega) (.int .i64 s.a)).far (p := ⟨b7, 0, none⟩) (by simp; omega) (.int .i64 d.a))
  have kA : Bk _ b6 3 #[.int .i64 s.a] := ((k6.set 0 (.int .i64 s.a)).far (p := ⟨b7, 0, none⟩) ne67 (.int .i64 d.a))
  have kB : Bk _ b7 3 #[.int .i64 d.a] := ((k7.far (p := ⟨b6, 0, none⟩) ne67.symm (.int .i64 s.a)).set 0 (.int .i64 d.a))
  have hW0 : Below w.heap.size w w1 := (by repeat (first | (with_reducible exact Below.refl _ _) | (with_reducible refine balloc ?_ _) | (with_reducible refine Below.drew ?_) | (with_reducible refine bdrewN ?_ _) | ((with_reducible refine bset ?_ ?_ _); rotate_left; focus (first | (with_reducible exact Nat.le_refl _) | (simp; done) | (simp; omega) | omega)) | (with_reducible refine bstep (by with_reducible assumption) ?_)))
  have hW := (bset (bset hW0 (p := ⟨b6, 0, none⟩) (by show _ ≤ b6; omega) (.int .i64 s.a)) (p := ⟨b7, 0, none⟩) (by show _ ≤ b7; omega) (.int .i64 d.a))
  clear k6 k7 kS1 kD1 kO1 kc6 kf6 ka6 kg6 kl6 kc7 kf7 ka7 kg7 kl7 hb1 hS2 hS3 klS1 klD1 klO1 hW0 f1 f2
  go_wp2_with fail
  generalize ((w1.setCell ⟨b6, 0, none⟩ (.int .i64 s.a)).setCell ⟨b7, 0, none⟩ (.int .i64 d.a)) = w2 at hW kS kD kO kA kB ⊢
  clear w1
  refine wp_region_mix 12 [0, 1, 2, 4, 5, 7, 8, 9] [3, 6, 10] [11] (fun _ => 83) (fun _ => #[.int .i64 0, .int .i64 0, .int .i64 0, .int .i64 0, .int .i64 0, .int .i64 0]) (by kernel_rfl) (by kernel_rfl) (fun c a d v w h => by cases d <;> exact h) (fun c a d v w h => by cases d <;> exact h) (fun j hj => by simp only [List.mem_cons, List.not_mem_nil, or_false] at hj; rcases hj with rfl <;> exact ⟨_, rfl, rfl, fun a w => by go_simp; rfl⟩) ?_
  simp only [List.map_cons, List.map_nil]
  repeat (refine wpGo_pure (v := ?_) rfl rfl (fun w' hS => ?_) ?_; rotate_left; (· have kSp : Bk w' (w.heap.size) 45 #[.int .u8 s.r, .int .u8 s.g, .int .u8 s.b, .int .u8 s.a] := (by repeat (first | (with_reducible assumption) | ((with_reducible refine Bk.new _ _ _ ?_); first | (with_reducible rfl) | (simp; done)) | (with_reducible refine Bk.alloc ?_ _) | (with_reducible refine Bk.drew ?_) | (with_reducible refine Bk.drewN ?_ _) | ((with_reducible refine Bk.far ?_ ?_ _); rotate_left; focus (first | (simp; done) | (simp; omega))) | (with_reducible refine Bk.below ?_ (by with_reducible assumption)))); obtain ⟨kcSp, kfSp, kaSp, kgSp, klSp⟩ := kSp.rules; have kDp : Bk w' (w.heap.size + 1) 45 #[.int .u8 d.r, .int .u8 d.g, .int .u8 d.b, .int .u8 d.a] := (by repeat (first | (with_reducible assumption) | ((with_reducible refine Bk.new _ _ _ ?_); first | (with_reducible rfl) | (simp; done)) | (with_reducible refine Bk.alloc ?_ _) | (with_reducible refine Bk.drew ?_) | (with_reducible refine Bk.drewN ?_ _) | ((with_reducible refine Bk.far ?_ ?_ _); rotate_left; focus (first | (simp; done) | (simp; omega))) | (with_reducible refine Bk.below ?_ (by with_reducible assumption)))); obtain ⟨kcDp, kfDp, kaDp, kgDp, klDp⟩ := kDp.rules; have kAp : Bk w' (b6) 3 #[.int .i64 s.a] := (by repeat (first | (with_reducible assumption) | ((with_reducible refine Bk.new _ _ _ ?_); first | (with_reducible rfl) | (simp; done)) | (with_reducible refine Bk.alloc ?_ _) | (with_reducible refine Bk.drew ?_) | (with_reducible refine Bk.drewN ?_ _) | ((with_reducible refine Bk.far ?_ ?_ _); rotate_left; focus (first | (simp; done) | (simp; omega))) | (with_reducible refine Bk.below ?_ (by with_reducible assumption)))); obtain ⟨kcAp, kfAp, kaAp, kgAp, klAp⟩ := kAp.rules; have kBp : Bk w' (b7) 3 #[.int .i64 d.a] := (by repeat (first | (with_reducible assumption) | ((with_reducible refine Bk.new _ _ _ ?_); first | (with_reducible rfl) | (simp; done)) | (with_reducible refine Bk.alloc ?_ _) | (with_reducible refine Bk.drew ?_) | (with_reducible refine Bk.drewN ?_ _) | ((with_reducible refine Bk.far ?_ ?_ _); rotate_left; focus (first | (simp; done) | (simp; omega))) | (with_reducible refine Bk.below ?_ (by with_reducible assumption)))); obtain ⟨kcBp, kfBp, kaBp, kgBp, klBp⟩ := kBp.rules; go_simp; exact rfl); (try simp only [Act.put, List.setIfInBounds_toArray, List.set_cons_zero, List.set_cons_succ]))
  refine wpGo_nil ?_
  refine wpMix_call rfl (fun w3a hb3a K hK => ?_)
  go_simp
  refine (scaled_any s d.a cs Hcs _ hsb.out a0' a1').mono ?_
  rintro e w3 ⟨rfl, hb3⟩
  refine hK.out _ _ hb3 (fun _ => ?_)
  clear hK K
  refine wpMix_call rfl (fun w4a hb4a K hK => ?_)
  go_simp
  refine (scaled_any d s.a cd Hcd _ hdb.out a0 a1).mono ?_
  rintro e w4 ⟨rfl, hb4⟩
  refine hK.out _ _ hb4 (fun _ => ?_)
  clear hK K
  refine wpMix_call rfl (fun w5a hb5a K hK => ?_)
  go_simp
  refine (recipe_q mode cs cd a q Hq _ HI1 HI2).mono ?_
  rintro e w5 ⟨rfl, hb5⟩
  refine hK.out _ _ hb5 (fun _ => ?_)
  clear hK K
  refine wpMix_end (fun β w6 hb6 hbk hne => ?_)
  obtain ⟨k11, l11⟩ := hbk 11 (by simp)
  clear hbk hne
  simp only [putAll, dstOf, ptrTo, List.foldl_cons, List.foldl_nil, List.getElem?_toArray, List.getElem?_cons_succ, List.getElem?_cons_zero, Option.bind_some, Act.put, List.setIfInBounds_toArray, List.set_cons_zero, List.set_cons_succ, List.drop_succ_cons, List.drop_zero]
  generalize β 11 = b11 at *
  clear β
  have klS := kS.lt
  have klD := kD.lt
  have klO := kO.lt
  have klA := kA.lt
  have klB := kB.lt
  have kS6 : Bk w6 (w.heap.size) 45 #[.int .u8 s.r, .int .u8 s.g, .int .u8 s.b, .int .u8 s.a] := (by repeat (first | (with_reducible assumption) | ((with_reducible refine Bk.new _ _ _ ?_); first | (with_reducible rfl) | (simp; done)) | (with_reducible refine Bk.alloc ?_ _) | (with_reducible refine Bk.drew ?_) | (with_reducible refine Bk.drewN ?_ _) | ((with_reducible refine Bk.far ?_ ?_ _); rotate_left; focus (first | (simp; done) | (simp; omega))) | (with_reducible refine Bk.below ?_ (by with_reducible assumption)))); obtain ⟨kcS6, kfS6, kaS6, kgS6, klS6⟩ := kS6.rules; have kD6 : Bk w6 (w.heap.size + 1) 45 #[.int .u8 d.r, .int .u8 d.g, .int .u8 d.b, .int .u8 d.a] := (by repeat (first | (with_reducible assumption) | ((with_reducible refine Bk.new _ _ _ ?_); first | (with_reducible rfl) | (simp; done)) | (with_reducible refine Bk.alloc ?_ _) | (with_reducible refine Bk.drew ?_) | (with_reducible refine Bk.drewN ?_ _) | ((with_reducible refine Bk.far ?_ ?_ _); rotate_left; focus (first | (simp; done) | (simp; omega))) | (with_reducible refine Bk.below ?_ (by with_reducible assumption)))); obtain ⟨kcD6, kfD6, kaD6, kgD6, klD6⟩ := kD6.rules; have kO6 : Bk w6 (w.heap.size + 1 + 1) 45 #[.int .u8 0, .int .u8 0, .int .u8 0, .int .u8 0] := (by repeat (first | (with_reducible assumption) | ((with_reducible refine Bk.new _ _ _ ?_); first | (with_reducible rfl) | (simp; done)) | (with_reducible refine Bk.alloc ?_ _) | (with_reducible refine Bk.drew ?_) | (with_reducible refine Bk.drewN ?_ _) | ((with_reducible refine Bk.far ?_ ?_ _); rotate_left; focus (first | (simp; done) | (simp; omega))) | (with_reducible refine Bk.below ?_ (by with_reducible assumption)))); obtain ⟨kcO6, kfO6, kaO6, kgO6, klO6⟩ := kO6.rules; have kA6 : Bk w6 (b6) 3 #[.int .i64 s.a] := (by repeat (first | (with_reducible assumption) | ((with_reducible refine Bk.new _ _ _ ?_); first | (with_reducible rfl) | (simp; done)) | (with_reducible refine Bk.alloc ?_ _) | (with_reducible refine Bk.drew ?_) | (with_reducible refine Bk.drewN ?_ _) | ((with_reducible refine Bk.far ?_ ?_ _); rotate_left; focus (first | (simp; done) | (simp; omega))) | (with_reducible refine Bk.below ?_ (by with_reducible assumption)))); obtain ⟨kcA6, kfA6, kaA6, kgA6, klA6⟩ := kA6.rules; have kB6 : Bk w6 (b7) 3 #[.int .i64 d.a] := (by repeat (first | (with_reducible assumption) | ((with_reducible refine Bk.new _ _ _ ?_); first | (with_reducible rfl) | (simp; done)) | (with_reducible refine Bk.alloc ?_ _) | (with_reducible refine Bk.drew ?_) | (with_reducible refine Bk.drewN ?_ _) | ((with_reducible refine Bk.far ?_ ?_ _); rotate_left; focus (first | (simp; done) | (simp; omega))) | (with_reducible refine Bk.below ?_ (by with_reducible assumption)))); obtain ⟨kcB6, kfB6, kaB6, kgB6, klB6⟩ := kB6.rules
  obtain ⟨kc11, kf11, ka11, kg11, kl11⟩ := k11.rules
  have nS : w.heap.size ≠ b11 := by omega
  have nD : w.heap.size + 1 ≠ b11 := by omega
  have nO : w.heap.size + 1 + 1 ≠ b11 := by omega
  have nA : b6 ≠ b11 := by omega
  have nB : b7 ≠ b11 := by omega
  have jS : Bk _ (w.heap.size) 45 #[.int .u8 s.r, .int .u8 s.g, .int .u8 s.b, .int .u8 s.a] := ((((((kS6.far (p := ⟨b11, 0, none⟩) nS (.int .i64 q.c.r)).far (p := ⟨b11, 1, none⟩) nS (.int .i64 q.c.g)).far (p := ⟨b11, 2, none⟩) nS (.int .i64 q.c.b)).far (p := ⟨b11, 3, none⟩) nS (.int .i64 q.t)).far (p := ⟨b11, 4, none⟩) nS (.int .i64 q.l)).far (p := ⟨b11, 5, none⟩) nS (.int .i64 q.a))
  have jD : Bk _ (w.heap.size + 1) 45 #[.int .u8 d.r, .int .u8 d.g, .int .u8 d.b, .int .u8 d.a] := ((((((kD6.far (p := ⟨b11, 0, none⟩) nD (.int .i64 q.c.r)).far (p := ⟨b11, 1, none⟩) nD (.int .i64 q.c.g)).far (p := ⟨b11, 2, none⟩) nD (.int .i64 q.c.b)).far (p := ⟨b11, 3, none⟩) nD (.int .i64 q.t)).far (p := ⟨b11, 4, none⟩) nD (.int .i64 q.l)).far (p := ⟨b11, 5, none⟩) nD (.int .i64 q.a))
  have jO : Bk _ (w.heap.size + 1 + 1) 45 #[.int .u8 0, .int .u8 0, .int .u8 0, .int .u8 0] := ((((((kO6.far (p := ⟨b11, 0, none⟩) nO (.int .i64 q.c.r)).far (p := ⟨b11, 1, none⟩) nO (.int .i64 q.c.g)).far (p := ⟨b11, 2, none⟩) nO (.int .i64 q.c.b)).far (p := ⟨b11, 3, none⟩) nO (.int .i64 q.t)).far (p := ⟨b11, 4, none⟩) nO (.int .i64 q.l)).far (p := ⟨b11, 5, none⟩) nO (.int .i64 q.a))
  have jA : Bk _ b6 3 #[.int .i64 s.a] := ((((((kA6.far (p := ⟨b11, 0, none⟩) nA (.int .i64 q.c.r)).far (p := ⟨b11, 1, none⟩) nA (.int .i64 q.c.g)).far (p := ⟨b11, 2, none⟩) nA (.int .i64 q.c.b)).far (p := ⟨b11, 3, none⟩) nA (.int .i64 q.t)).far (p := ⟨b11, 4, none⟩) nA (.int .i64 q.l)).far (p := ⟨b11, 5, none⟩) nA (.int .i64 q.a))
  have jB : Bk _ b7 3 #[.int .i64 d.a] := ((((((kB6.far (p := ⟨b11, 0, none⟩) nB (.int .i64 q.c.r)).far (p := ⟨b11, 1, none⟩) nB (.int .i64 q.c.g)).far (p := ⟨b11, 2, none⟩) nB (.int .i64 q.c.b)).far (p := ⟨b11, 3, none⟩) nB (.int .i64 q.t)).far (p := ⟨b11, 4, none⟩) nB (.int .i64 q.l)).far (p := ⟨b11, 5, none⟩) nB (.int .i64 q.a))
  have jQ : Bk _ b11 83 #[.int .i64 q.c.r, .int .i64 q.c.g, .int .i64 q.c.b, .int .i64 q.t, .int .i64 q.l, .int .i64 q.a] := ((((((k11.set 0 (.int .i64 q.c.r)).set 1 (.int .i64 q.c.g)).set 2 (.int .i64 q.c.b)).set 3 (.int .i64 q.t)).set 4 (.int .i64 q.l)).set 5 (.int .i64 q.a))
  have hW6 : Below w.heap.size w w6 := (by repeat (first | (with_reducible exact Below.refl _ _) | (with_reducible refine balloc ?_ _) | (with_reducible refine Below.drew ?_) | (with_reducible refine bdrewN ?_ _) | ((with_reducible refine bset ?_ ?_ _); rotate_left; focus (first | (with_reducible exact Nat.le_refl _) | (simp; done) | (simp; omega) | omega)) | (with_reducible refine bstep (by with_reducible assumption) ?_)))
  have hV := (bset (bset (bset (bset (bset (bset hW6 (p := ⟨b11, 0, none⟩) (by show _ ≤ b11; omega) (.int .i64 q.c.r)) (p := ⟨b11, 1, none⟩) (by show _ ≤ b11; omega) (.int .i64 q.c.g)) (p := ⟨b11, 2, none⟩) (by show _ ≤ b11; omega) (.int .i64 q.c.b)) (p := ⟨b11, 3, none⟩) (by show _ ≤ b11; omega) (.int .i64 q.t)) (p := ⟨b11, 4, none⟩) (by show _ ≤ b11; omega) (.int .i64 q.l)) (p := ⟨b11, 5, none⟩) (by show _ ≤ b11; omega) (.int .i64 q.a))
  clear kS kD kO kA kB kcS6 kfS6 kaS6 kgS6 klS6 kcD6 kfD6 kaD6 kgD6 klD6 kcO6 kfO6 kaO6 kgO6 klO6 kcA6 kfA6 kaA6 kgA6 klA6 kcB6 kfB6 kaB6 kgB6 klB6 kS6 kD6 kO6 kA6 kB6 k11 hW6 hb6 hb5 hb5a hb4 hb4a hb3 hb3a hW nS nD nO nA nB klS klD klO klA klB
  go_wp2_with fail
  generalize ((((((w6.setCell ⟨b11, 0, none⟩ (.int .i64 q.c.r)).setCell ⟨b11, 1, none⟩ (.int .i64 q.c.g)).setCell ⟨b11, 2, none⟩ (.int .i64 q.c.b)).setCell ⟨b11, 3, none⟩ (.int .i64 q.t)).setCell ⟨b11, 4, none⟩ (.int .i64 q.l)).setCell ⟨b11, 5, none⟩ (.int .i64 q.a)) = w7 at hV jS jD jO jA jB jQ ⊢
  clear kc11 kf11 ka11 kg11 kl11 l11
  obtain ⟨u1, u2⟩ := base_bd r0 r1 a1 r0' r1' a1'
  obtain ⟨u3, u4⟩ := base_bd g0 g1 a1 g0' g1' a1'
  obtain ⟨u5, u6⟩ := base_bd b0 b1 a1 b0' b1' a1'
  obtain ⟨y1, y2, y3, y4, y5, y6⟩ := low_high q.c
  have m1 := mul_byte (x := s.a) (y := 255 - d.a) a0 a1 (by omega) (by omega)
  have m2 := mul_byte (x := d.a) (y := 255 - s.a) a0' a1' (by omega) (by omega)
  have hn4 : 0 ≤ n4 ∧ n4 ≤ 200000 := by have h1 := Hn4.out; have h2 := Ha.out; omega
  have x1 : IntKind.i64.wrap (255 - d.a) = 255 - d.a := IntWalk.i64_in _ (by omega)
  have x2 : IntKind.i64.wrap (s.a * (255 - d.a)) = s.a * (255 - d.a) := IntWalk.i64_in _ (by omega)
  have x3 : IntKind.i64.wrap (255 - s.a) = 255 - s.a := IntWalk.i64_in _ (by omega)
  have x4 : IntKind.i64.wrap (d.a * (255 - s.a)) = d.a * (255 - s.a) := IntWalk.i64_in _ (by omega)
  have x5 : IntKind.i64.wrap (s.a * (255 - d.a) + d.a * (255 - s.a)) = s.a * (255 - d.a) + d.a * (255 - s.a) := IntWalk.i64_in _ (by omega)
  have x6 : IntKind.i64.wrap (s.a * (255 - d.a) + d.a * (255 - s.a) + a) = n4 := by rw [← Ha.out, Hn4.out]; exact IntWalk.i64_in _ (by omega)
  go_wp2_with fail
  refine wp_region_gob 48 [(0, true), (1, true), (2, true), (3, true), (4, true), (5, true), (7, true), (8, true), (9, true), (11, true), (12, true), (13, true), (14, true), (15, true), (16, true), (18, true), (19, true), (20, true), (22, true), (23, true), (24, true), (25, true), (26, true), (27, true), (29, true), (30, true), (31, true), (33, true), (34, true), (35, true), (36, true), (37, true), (38, true), (39, true), (40, true), (41, true), (42, true), (43, true), (44, true), (45, true), (6, false), (10, false), (17, false), (21, false), (28, false), (32, false), (46, false), (47, true)] (by kernel_rfl) (by kernel_rfl) (fun c a d v w h => by cases d <;> exact h) ?_
  repeat (refine wpGo_pure (v := ?_) rfl rfl (fun w' hS => ?_) ?_; rotate_left; (· have kSp : Bk w' (w.heap.size) 45 #[.int .u8 s.r, .int .u8 s.g, .int .u8 s.b, .int .u8 s.a] := (by repeat (first | (with_reducible assumption) | ((with_reducible refine Bk.new _ _ _ ?_); first | (with_reducible rfl) | (simp; done)) | (with_reducible refine Bk.alloc ?_ _) | (with_reducible refine Bk.drew ?_) | (with_reducible refine Bk.drewN ?_ _) | ((with_reducible refine Bk.far ?_ ?_ _); rotate_left; focus (first | (simp; done) | (simp; omega))) | (with_reducible refine Bk.below ?_ (by with_reducible assumption)))); obtain ⟨kcSp, kfSp, kaSp, kgSp, klSp⟩ := kSp.rules; have kDp : Bk w' (w.heap.size + 1) 45 #[.int .u8 d.r, .int .u8 d.g, .int .u8 d.b, .int .u8 d.a] := (by repeat (first | (with_reducible assumption) | ((with_reducible refine Bk.new _ _ _ ?_); first | (with_reducible rfl) | (simp; done)) | (with_reducible refine Bk.alloc ?_ _) | (with_reducible refine Bk.drew ?_) | (with_reducible refine Bk.drewN ?_ _) | ((with_reducible refine Bk.far ?_ ?_ _); rotate_left; focus (first | (simp; done) | (simp; omega))) | (with_reducible refine Bk.below ?_ (by with_reducible assumption)))); obtain ⟨kcDp, kfDp, kaDp, kgDp, klDp⟩ := kDp.rules; have kAp : Bk w' (b6) 3 #[.int .i64 s.a] := (by repeat (first | (with_reducible assumption) | ((with_reducible refine Bk.new _ _ _ ?_); first | (with_reducible rfl) | (simp; done)) | (with_reducible refine Bk.alloc ?_ _) | (with_reducible refine Bk.drew ?_) | (with_reducible refine Bk.drewN ?_ _) | ((with_reducible refine Bk.far ?_ ?_ _); rotate_left; focus (first | (simp; done) | (simp; omega))) | (with_reducible refine Bk.below ?_ (by with_reducible assumption)))); obtain ⟨kcAp, kfAp, kaAp, kgAp, klAp⟩ := kAp.rules; have kBp : Bk w' (b7) 3 #[.int .i64 d.a] := (by repeat (first | (with_reducible assumption) | ((with_reducible refine Bk.new _ _ _ ?_); first | (with_reducible rfl) | (simp; done)) | (with_reducible refine Bk.alloc ?_ _) | (with_reducible refine Bk.drew ?_) | (with_reducible refine Bk.drewN ?_ _) | ((with_reducible refine Bk.far ?_ ?_ _); rotate_left; focus (first | (simp; done) | (simp; omega))) | (with_reducible refine Bk.below ?_ (by with_reducible assumption)))); obtain ⟨kcBp, kfBp, kaBp, kgBp, klBp⟩ := kBp.rules; have kQp : Bk w' (b11) 83 #[.int .i64 q.c.r, .int .i64 q.c.g, .int .i64 q.c.b, .int .i64 q.t, .int .i64 q.l, .int .i64 q.a] := (by repeat (first | (with_reducible assumption) | ((with_reducible refine Bk.new _ _ _ ?_); first | (with_reducible rfl) | (simp; done)) | (with_reducible refine Bk.alloc ?_ _) | (with_reducible refine Bk.drew ?_) | (with_reducible refine Bk.drewN ?_ _) | ((with_reducible refine Bk.far ?_ ?_ _); rotate_left; focus (first | (simp; done) | (simp; omega))) | (with_reducible refine Bk.below ?_ (by with_reducible assumption)))); obtain ⟨kcQp, kfQp, kaQp, kgQp, klQp⟩ := kQp.rules; go_simp; exact rfl); (try simp only [Act.put, List.setIfInBounds_toArray, List.set_cons_zero, List.set_cons_succ]))
  clear x1 x2 x3 x4 x5 x6 ea
  refine wpGo_eff rfl (fun K hK => ?_)
  go_simp
  refine (base_any s.r d.r s.a d.a b6 b7 _ r0 (by omega) r0' (by omega) a0 a1 a0' a1' (by repeat (first | (with_reducible assumption) | ((with_reducible refine Bk.new _ _ _ ?_); first | (with_reducible rfl) | (simp; done)) | (with_reducible refine Bk.alloc ?_ _) | (with_reducible refine Bk.drew ?_) | (with_reducible refine Bk.drewN ?_ _) | ((with_reducible refine Bk.far ?_ ?_ _); rotate_left; focus (first | (simp; done) | (simp; omega))) | (with_reducible refine Bk.below ?_ (by with_reducible assumption)))) (by repeat (first | (with_reducible assumption) | ((with_reducible refine Bk.new _ _ _ ?_); first | (with_reducible rfl) | (simp; done)) | (with_reducible refine Bk.alloc ?_ _) | (with_reducible refine Bk.drew ?_) | (with_reducible refine Bk.drewN ?_ _) | ((with_reducible refine Bk.far ?_ ?_ _); rotate_left; focus (first | (simp; done) | (simp; omega))) | (with_reducible refine Bk.below ?_ (by with_reducible assumption))))).mono ?_
  rintro e w8 ⟨rfl, rfl⟩
  refine hK.out _ _ (by repeat (first | (with_reducible exact Below.refl _ _) | (with_reducible refine balloc ?_ _) | (with_reducible refine Below.drew ?_) | (with_reducible refine bdrewN ?_ _) | ((with_reducible refine bset ?_ ?_ _); rotate_left; focus (first | (with_reducible exact Nat.le_refl _) | (simp; done) | (simp; omega) | omega)) | (with_reducible refine bstep (by with_reducible assumption) ?_))) (fun hS8 => ?_)
  clear hK K
  refine wpGo_eff rfl (fun K hK => ?_)
  go_simp
  refine (rchan_any q _ _ _ HF.out (by have := Hqa.out; omega) y1 y4 u1 (by have h1 := Hqa.out; have h2 := Ha.out; omega)).mono ?_
  rintro e w9 ⟨rfl, hb9⟩
  refine hK.out _ _ (by repeat (first | (with_reducible exact Below.refl _ _) | (with_reducible refine balloc ?_ _) | (with_reducible refine Below.drew ?_) | (with_reducible refine bdrewN ?_ _) | ((with_reducible refine bset ?_ ?_ _); rotate_left; focus (first | (with_reducible exact Nat.le_refl _) | (simp; done) | (simp; omega) | omega)) | (with_reducible refine bstep (by with_reducible assumption) ?_))) (fun hS9 => ?_)
  clear hK K
  refine wpGo_eff rfl (fun K hK => ?_)
  go_simp
  refine (base_any s.g d.g s.a d.a b6 b7 _ g0 (by omega) g0' (by omega) a0 a1 a0' a1' (by repeat (first | (with_reducible assumption) | ((with_reducible refine Bk.new _ _ _ ?_); first | (with_reducible rfl) | (simp; done)) | (with_reducible refine Bk.alloc ?_ _) | (with_reducible refine Bk.drew ?_) | (with_reducible refine Bk.drewN ?_ _) | ((with_reducible refine Bk.far ?_ ?_ _); rotate_left; focus (first | (simp; done) | (simp; omega))) | (with_reducible refine Bk.below ?_ (by with_reducible assumption)))) (by repeat (first | (with_reducible assumption) | ((with_reducible refine Bk.new _ _ _ ?_); first | (with_reducible rfl) | (simp; done)) | (with_reducible refine Bk.alloc ?_ _) | (with_reducible refine Bk.drew ?_) | (with_reducible refine Bk.drewN ?_ _) | ((with_reducible refine Bk.far ?_ ?_ _); rotate_left; focus (first | (simp; done) | (simp; omega))) | (with_reducible refine Bk.below ?_ (by with_reducible assumption))))).mono ?_
  rintro e w10 ⟨rfl, rfl⟩
  refine hK.out _ _ (by repeat (first | (with_reducible exact Below.refl _ _) | (with_reducible refine balloc ?_ _) | (with_reducible refine Below.drew ?_) | (with_reducible refine bdrewN ?_ _) | ((with_reducible refine bset ?_ ?_ _); rotate_left; focus (first | (with_reducible exact Nat.le_refl _) | (simp; done) | (simp; omega) | omega)) | (with_reducible refine bstep (by with_reducible assumption) ?_))) (fun hS10 => ?_)
  clear hK K
  refine wpGo_eff rfl (fun K hK => ?_)
  go_simp
  refine (rchan_any q _ _ _ HF.out (by have := Hqa.out; omega) y2 y5 u3 (by have h1 := Hqa.out; have h2 := Ha.out; omega)).mono ?_
  rintro e w11 ⟨rfl, hb11⟩
  refine hK.out _ _ (by repeat (first | (with_reducible exact Below.refl _ _) | (with_reducible refine balloc ?_ _) | (with_reducible refine Below.drew ?_) | (with_reducible refine bdrewN ?_ _) | ((with_reducible refine bset ?_ ?_ _); rotate_left; focus (first | (with_reducible exact Nat.le_refl _) | (simp; done) | (simp; omega) | omega)) | (with_reducible refine bstep (by with_reducible assumption) ?_))) (fun hS11 => ?_)
  clear hK K
  refine wpGo_eff rfl (fun K hK => ?_)
  go_simp
  refine (base_any s.b d.b s.a d.a b6 b7 _ b0 (by omega) b0' (by omega) a0 a1 a0' a1' (by repeat (first | (with_reducible assumption) | ((with_reducible refine Bk.new _ _ _ ?_); first | (with_reducible rfl) | (simp; done)) | (with_reducible refine Bk.alloc ?_ _) | (with_reducible refine Bk.drew ?_) | (with_reducible refine Bk.drewN ?_ _) | ((with_reducible refine Bk.far ?_ ?_ _); rotate_left; focus (first | (simp; done) | (simp; omega))) | (with_reducible refine Bk.below ?_ (by with_reducible assumption)))) (by repeat (first | (with_reducible assumption) | ((with_reducible refine Bk.new _ _ _ ?_); first | (with_reducible rfl) | (simp; done)) | (with_reducible refine Bk.alloc ?_ _) | (with_reducible refine Bk.drew ?_) | (with_reducible refine Bk.drewN ?_ _) | ((with_reducible refine Bk.far ?_ ?_ _); rotate_left; focus (first | (simp; done) | (simp; omega))) | (with_reducible refine Bk.below ?_ (by with_reducible assumption))))).mono ?_
  rintro e w12 ⟨rfl, rfl⟩
  refine hK.out _ _ (by repeat (first | (with_reducible exact Below.refl _ _) | (with_reducible refine balloc ?_ _) | (with_reducible refine Below.drew ?_) | (with_reducible refine bdrewN ?_ _) | ((with_reducible refine bset ?_ ?_ _); rotate_left; focus (first | (with_reducible exact Nat.le_refl _) | (simp; done) | (simp; omega) | omega)) | (with_reducible refine bstep (by with_reducible assumption) ?_))) (fun hS12 => ?_)
  clear hK K
  refine wpGo_eff rfl (fun K hK => ?_)
  go_simp
  refine (rchan_any q _ _ _ HF.out (by have := Hqa.out; omega) y3 y6 u5 (by have h1 := Hqa.out; have h2 := Ha.out; omega)).mono ?_
  rintro e w13 ⟨rfl, hb13⟩
  refine hK.out _ _ (by repeat (first | (with_reducible exact Below.refl _ _) | (with_reducible refine balloc ?_ _) | (with_reducible refine Below.drew ?_) | (with_reducible refine bdrewN ?_ _) | ((with_reducible refine bset ?_ ?_ _); rotate_left; focus (first | (with_reducible exact Nat.le_refl _) | (simp; done) | (simp; omega) | omega)) | (with_reducible refine bstep (by with_reducible assumption) ?_))) (fun hS13 => ?_)
  clear hK K
  refine wpGo_eff rfl (fun K hK => ?_)
  go_simp
  refine (divnorm_any n4 _ (by omega) (by omega)).mono ?_
  rintro e w14 ⟨rfl, hb14⟩
  refine hK.out _ _ (by repeat (first | (with_reducible exact Below.refl _ _) | (with_reducible refine balloc ?_ _) | (with_reducible refine Below.drew ?_) | (with_reducible refine bdrewN ?_ _) | ((with_reducible refine bset ?_ ?_ _); rotate_left; focus (first | (with_reducible exact Nat.le_refl _) | (simp; done) | (simp; omega) | omega)) | (with_reducible refine bstep (by with_reducible assumption) ?_))) (fun hS14 => ?_)
  clear hK K
  repeat (refine wpGo_pure (v := ?_) rfl rfl (fun w' hS => ?_) ?_; rotate_left; (· skip; go_simp; exact rfl); (try simp only [Act.put, List.setIfInBounds_toArray, List.set_cons_zero, List.set_cons_succ]))
  refine wpGo_nil ?_
  simp only [List.drop_succ_cons, List.drop_zero]
  have kO14 : Bk w14 (w.heap.size + 1 + 1) 45 #[.int .u8 0, .int .u8 0, .int .u8 0, .int .u8 0] := (by repeat (first | (with_reducible assumption) | ((with_reducible refine Bk.new _ _ _ ?_); first | (with_reducible rfl) | (simp; done)) | (with_reducible refine Bk.alloc ?_ _) | (with_reducible refine Bk.drew ?_) | (with_reducible refine Bk.drewN ?_ _) | ((with_reducible refine Bk.far ?_ ?_ _); rotate_left; focus (first | (simp; done) | (simp; omega))) | (with_reducible refine Bk.below ?_ (by with_reducible assumption)))); obtain ⟨kcO14, kfO14, kaO14, kgO14, klO14⟩ := kO14.rules
  have hZ : Below w.heap.size w w14 := bstep hS14 hV
  go_wp2
  refine bodyPost_ret (v := _) ?_ rfl ⟨rfl, (by repeat (first | (with_reducible exact Below.refl _ _) | (with_reducible refine balloc ?_ _) | (with_reducible refine Below.drew ?_) | (with_reducible refine bdrewN ?_ _) | ((with_reducible refine bset ?_ ?_ _); rotate_left; focus (first | (with_reducible exact Nat.le_refl _) | (simp; done) | (simp; omega) | omega)) | (with_reducible refine bstep (by with_reducible assumption) ?_)))⟩
  simp [results, Tryz.results64, go_sem, kcO14]
end Go.Proofs.YtnefnnhnjmmebaaGreat

namespace Go.Proofs.YtnefnnhnjmmebaaGreat
open Go.RowKit
set_option linter.unusedSimpArgs false
set_option linter.unusedVariables false


set_option maxHeartbeats 4000000 in
theorem blend_q (mode : Int) (s d : Px) (w : World) (hs : s.byte) (hd : d.byte) (P : Px) (HP : Hid (blendP mode s d = P)) :
    Calls Tryz.prog 41 #[.int .i64 mode, .agg #[.int .u8 s.r, .int .u8 s.g, .int .u8 s.b, .int .u8 s.a], .agg #[.int .u8 d.r, .int .u8 d.g, .int .u8 d.b, .int .u8 d.a]] w fun e w' =>
      e = .returned (.agg #[.int .u8 P.r, .int .u8 P.g, .int .u8 P.b, .int .u8 P.a]) ∧ Below w.heap.size w w' := by
  obtain ⟨v, Hv⟩ : ∃ v, Hid (validModeB mode = v) := ⟨_, rfl⟩
  have HV : Hid (∀ w, Calls Tryz.prog 18 #[.int .i64 mode] w fun e w' => e = .returned (.bool v) ∧ w = w') := fun w => by rw [← Hv.out]; exact vmode_any mode w
  obtain ⟨v', Hv'⟩ : ∃ v, Hid (sepB mode = v) := ⟨_, rfl⟩
  have HS : Hid (∀ w, Calls Tryz.prog 63 #[.int .i64 mode] w fun e w' => e = .returned (.bool v') ∧ w = w') := fun w => by rw [← Hv'.out]; exact sep_any mode w
  have hE := HP.out
  unfold blendP at hE
  rw [Hv.out, Hv'.out] at hE
  cases v with
  | false =>
    rw [if_neg (by simp)] at hE
    subst hE
    clear HP
    go_enter Tryz.func41, Tryz.ntmps41
    go_wp2_with fail
    refine (HV.out _).mono ?_
    rintro e w' ⟨rfl, rfl⟩
    go_wp2_with fail
    refine bodyPost_ret (v := _) ?_ rfl ⟨rfl, (by repeat (first | (with_reducible exact Below.refl _ _) | (with_reducible refine balloc ?_ _) | (with_reducible refine Below.drew ?_) | (with_reducible refine bdrewN ?_ _) | ((with_reducible refine bset ?_ ?_ _); rotate_left; focus (first | (with_reducible exact Nat.le_refl _) | (simp; done) | (simp; omega) | omega)) | (with_reducible refine bstep (by with_reducible assumption) ?_)))⟩
    simp [results, Tryz.results41, go_sem, List.getElem?_cons_zero]
  | true =>
    rw [if_pos rfl] at hE
    obtain ⟨x, Hx⟩ : ∃ x, Hid (clampP s = x) := ⟨_, rfl⟩
    obtain ⟨y, Hy⟩ : ∃ y, Hid (clampP d = y) := ⟨_, rfl⟩
    have hx := clamp_ok hs
    have hy := clamp_ok hd
    rw [Hx.out] at hx
    rw [Hy.out] at hy
    rw [Hx.out, Hy.out] at hE
    cases v' with
    | false =>
      rw [if_neg (by simp)] at hE
      have HW := Lib.hid hE
      have HX := Lib.hid hx
      have HY := Lib.hid hy
      clear hE HP hx hy
      go_enter Tryz.func41, Tryz.ntmps41
      go_wp2_with fail
      refine (HV.out _).mono ?_
      rintro e w' ⟨rfl, rfl⟩
      go_wp2_with fail
      refine wp_region_gob 3 [(0, true), (2, true), (1, false)] (by kernel_rfl) (by kernel_rfl) (fun c a d v w h => by cases d <;> exact h) ?_
      repeat (refine wpGo_pure (v := ?_) rfl rfl (fun w' hS => ?_) ?_; rotate_left; (· have kSp : Bk w' (w.heap.size) 45 #[.int .u8 s.r, .int .u8 s.g, .int .u8 s.b, .int .u8 s.a] := (by repeat (first | (with_reducible assumption) | ((with_reducible refine Bk.new _ _ _ ?_); first | (with_reducible rfl) | (simp; done)) | (with_reducible refine Bk.alloc ?_ _) | (with_reducible refine Bk.drew ?_) | (with_reducible refine Bk.drewN ?_ _) | ((with_reducible refine Bk.far ?_ ?_ _); rotate_left; focus (first | (simp; done) | (simp; omega))) | (with_reducible refine Bk.below ?_ (by with_reducible assumption)))); obtain ⟨kcSp, kfSp, kaSp, kgSp, klSp⟩ := kSp.rules; have kDp : Bk w' (w.heap.size + 1) 45 #[.int .u8 d.r, .int .u8 d.g, .int .u8 d.b, .int .u8 d.a] := (by repeat (first | (with_reducible assumption) | ((with_reducible refine Bk.new _ _ _ ?_); first | (with_reducible rfl) | (simp; done)) | (with_reducible refine Bk.alloc ?_ _) | (with_reducible refine Bk.drew ?_) | (with_reducible refine Bk.drewN ?_ _) | ((with_reducible refine Bk.far ?_ ?_ _); rotate_left; focus (first | (simp; done) | (simp; omega))) | (with_reducible refine Bk.below ?_ (by with_reducible assumption)))); obtain ⟨kcDp, kfDp, kaDp, kgDp, klDp⟩ := kDp.rules; go_simp; exact rfl); (try simp only [Act.put, List.setIfInBounds_toArray, List.set_cons_zero, List.set_cons_succ]))
      refine wpGo_eff rfl (fun K hK => ?_)
      go_simp
      refine (clamp_q s.r s.g s.b s.a x Hx _).mono ?_
      rintro e w1 ⟨rfl, hb1⟩
      refine hK.out _ _ (by repeat (first | (with_reducible exact Below.refl _ _) | (with_reducible refine balloc ?_ _) | (with_reducible refine Below.drew ?_) | (with_reducible refine bdrewN ?_ _) | ((with_reducible refine bset ?_ ?_ _); rotate_left; focus (first | (with_reducible exact Nat.le_refl _) | (simp; done) | (simp; omega) | omega)) | (with_reducible refine bstep (by with_reducible assumption) ?_))) (fun hS1 => ?_)
      clear hK K
      refine wpGo_nil ?_
      simp only [List.drop_succ_cons, List.drop_zero]
      go_wp2_with fail
      refine (clamp_q d.r d.g d.b d.a y Hy _).mono ?_
      rintro e w2 ⟨rfl, hb2⟩
      have kS2 : Bk w2 (w.heap.size) 45 #[.int .u8 s.r, .int .u8 s.g, .int .u8 s.b, .int .u8 s.a] := (by repeat (first | (with_reducible assumption) | ((with_reducible refine Bk.new _ _ _ ?_); first | (with_reducible rfl) | (simp; done)) | (with_reducible refine Bk.alloc ?_ _) | (with_reducible refine Bk.drew ?_) | (with_reducible refine Bk.drewN ?_ _) | ((with_reducible refine Bk.far ?_ ?_ _); rotate_left; focus (first | (simp; done) | (simp; omega))) | (with_reducible refine Bk.below ?_ (by with_reducible assumption)))); obtain ⟨kcS2, kfS2, kaS2, kgS2, klS2⟩ := kS2.rules; have kD2 : Bk w2 (w.heap.size + 1) 45 #[.int .u8 d.r, .int .u8 d.g, .int .u8 d.b, .int .u8 d.a] := (by repeat (first | (with_reducible assumption) | ((with_reducible refine Bk.new _ _ _ ?_); first | (with_reducible rfl) | (simp; done)) | (with_reducible refine Bk.alloc ?_ _) | (with_reducible refine Bk.drew ?_) | (with_reducible refine Bk.drewN ?_ _) | ((with_reducible refine Bk.far ?_ ?_ _); rotate_left; focus (first | (simp; done) | (simp; omega))) | (with_reducible refine Bk.below ?_ (by with_reducible assumption)))); obtain ⟨kcD2, kfD2, kaD2, kgD2, klD2⟩ := kD2.rules; have kO2 : Bk w2 (w.heap.size + 1 + 1) 45 #[.int .u8 0, .int .u8 0, .int .u8 0, .int .u8 0] := (by repeat (first | (with_reducible assumption) | ((with_reducible refine Bk.new _ _ _ ?_); first | (with_reducible rfl) | (simp; done)) | (with_reducible refine Bk.alloc ?_ _) | (with_reducible refine Bk.drew ?_) | (with_reducible refine Bk.drewN ?_ _) | ((with_reducible refine Bk.far ?_ ?_ _); rotate_left; focus (first | (simp; done) | (simp; omega))) | (with_reducible refine Bk.below ?_ (by with_reducible assumption)))); obtain ⟨kcO2, kfO2, kaO2, kgO2, klO2⟩ := kO2.rules
      have jX : Bk _ (w.heap.size) 45 #[.int .u8 x.r, .int .u8 x.g, .int .u8 x.b, .int .u8 x.a] := ((((((((kS2.set 0 (.int .u8 x.r)).set 1 (.int .u8 x.g)).set 2 (.int .u8 x.b)).set 3 (.int .u8 x.a)).far (p := ⟨w.heap.size + 1, 0, none⟩) (by simp) (.int .u8 y.r)).far (p := ⟨w.heap.size + 1, 1, none⟩) (by simp) (.int .u8 y.g)).far (p := ⟨w.heap.size + 1, 2, none⟩) (by simp) (.int .u8 y.b)).far (p := ⟨w.heap.size + 1, 3, none⟩) (by simp) (.int .u8 y.a))
      have jY : Bk _ (w.heap.size + 1) 45 #[.int .u8 y.r, .int .u8 y.g, .int .u8 y.b, .int .u8 y.a] := ((((((((kD2.far (p := ⟨w.heap.size, 0, none⟩) (by simp) (.int .u8 x.r)).far (p := ⟨w.heap.size, 1, none⟩) (by simp) (.int .u8 x.g)).far (p := ⟨w.heap.size, 2, none⟩) (by simp) (.int .u8 x.b)).far (p := ⟨w.heap.size, 3, none⟩) (by simp) (.int .u8 x.a)).set 0 (.int .u8 y.r)).set 1 (.int .u8 y.g)).set 2 (.int .u8 y.b)).set 3 (.int .u8 y.a))
      have jO : Bk _ (w.heap.size + 1 + 1) 45 #[.int .u8 0, .int .u8 0, .int .u8 0, .int .u8 0] := ((((((((kO2.far (p := ⟨w.heap.size, 0, none⟩) (by simp <;> omega) (.int .u8 x.r)).far (p := ⟨w.heap.size, 1, none⟩) (by simp <;> omega) (.int .u8 x.g)).far (p := ⟨w.heap.size, 2, none⟩) (by simp <;> omega) (.int .u8 x.b)).far (p := ⟨w.heap.size, 3, none⟩) (by simp <;> omega) (.int .u8 x.a)).far (p := ⟨w.heap.size + 1, 0, none⟩) (by simp <;> omega) (.int .u8 y.r)).far (p := ⟨w.heap.size + 1, 1, none⟩) (by simp <;> omega) (.int .u8 y.g)).far (p := ⟨w.heap.size + 1, 2, none⟩) (by simp <;> omega) (.int .u8 y.b)).far (p := ⟨w.heap.size + 1, 3, none⟩) (by simp <;> omega) (.int .u8 y.a))
      have hW0 : Below w.heap.size w w2 := (by repeat (first | (with_reducible exact Below.refl _ _) | (with_reducible refine balloc ?_ _) | (with_reducible refine Below.drew ?_) | (with_reducible refine bdrewN ?_ _) | ((with_reducible refine bset ?_ ?_ _); rotate_left; focus (first | (with_reducible exact Nat.le_refl _) | (simp; done) | (simp; omega) | omega)) | (with_reducible refine bstep (by with_reducible assumption) ?_)))
      have hV : Below w.heap.size w ((((((((w2.setCell ⟨w.heap.size, 0, none⟩ (.int .u8 x.r)).setCell ⟨w.heap.size, 1, none⟩ (.int .u8 x.g)).setCell ⟨w.heap.size, 2, none⟩ (.int .u8 x.b)).setCell ⟨w.heap.size, 3, none⟩ (.int .u8 x.a)).setCell ⟨w.heap.size + 1, 0, none⟩ (.int .u8 y.r)).setCell ⟨w.heap.size + 1, 1, none⟩ (.int .u8 y.g)).setCell ⟨w.heap.size + 1, 2, none⟩ (.int .u8 y.b)).setCell ⟨w.heap.size + 1, 3, none⟩ (.int .u8 y.a)) := (by repeat (first | (with_reducible exact Below.refl _ _) | (with_reducible refine balloc ?_ _) | (with_reducible refine Below.drew ?_) | (with_reducible refine bdrewN ?_ _) | ((with_reducible refine bset ?_ ?_ _); rotate_left; focus (first | (with_reducible exact Nat.le_refl _) | (simp; done) | (simp; omega) | omega)) | (with_reducible refine bstep (by with_reducible assumption) ?_)))
      go_wp2_with fail
      generalize ((((((((w2.setCell ⟨w.heap.size, 0, none⟩ (.int .u8 x.r)).setCell ⟨w.heap.size, 1, none⟩ (.int .u8 x.g)).setCell ⟨w.heap.size, 2, none⟩ (.int .u8 x.b)).setCell ⟨w.heap.size, 3, none⟩ (.int .u8 x.a)).setCell ⟨w.heap.size + 1, 0, none⟩ (.int .u8 y.r)).setCell ⟨w.heap.size + 1, 1, none⟩ (.int .u8 y.g)).setCell ⟨w.heap.size + 1, 2, none⟩ (.int .u8 y.b)).setCell ⟨w.heap.size + 1, 3, none⟩ (.int .u8 y.a)) = w3 at hV jX jY jO ⊢
      clear kS2 kD2 kO2 kcS2 kfS2 kaS2 kgS2 kcD2 kfD2 kaD2 kgD2 kcO2 kfO2 kaO2 kgO2 klS2 klD2 klO2 hb2 hb1 hS1 hW0
      refine (HS.out _).mono ?_
      rintro e w' ⟨rfl, rfl⟩
      have kX3 : Bk w3 (w.heap.size) 45 #[.int .u8 x.r, .int .u8 x.g, .int .u8 x.b, .int .u8 x.a] := (by repeat (first | (with_reducible assumption) | ((with_reducible refine Bk.new _ _ _ ?_); first | (with_reducible rfl) | (simp; done)) | (with_reducible refine Bk.alloc ?_ _) | (with_reducible refine Bk.drew ?_) | (with_reducible refine Bk.drewN ?_ _) | ((with_reducible refine Bk.far ?_ ?_ _); rotate_left; focus (first | (simp; done) | (simp; omega))) | (with_reducible refine Bk.below ?_ (by with_reducible assumption)))); obtain ⟨kcX3, kfX3, kaX3, kgX3, klX3⟩ := kX3.rules; have kY3 : Bk w3 (w.heap.size + 1) 45 #[.int .u8 y.r, .int .u8 y.g, .int .u8 y.b, .int .u8 y.a] := (by repeat (first | (with_reducible assumption) | ((with_reducible refine Bk.new _ _ _ ?_); first | (with_reducible rfl) | (simp; done)) | (with_reducible refine Bk.alloc ?_ _) | (with_reducible refine Bk.drew ?_) | (with_reducible refine Bk.drewN ?_ _) | ((with_reducible refine Bk.far ?_ ?_ _); rotate_left; focus (first | (simp; done) | (simp; omega))) | (with_reducible refine Bk.below ?_ (by with_reducible assumption)))); obtain ⟨kcY3, kfY3, kaY3, kgY3, klY3⟩ := kY3.rules; have kO3 : Bk w3 (w.heap.size + 1 + 1) 45 #[.int .u8 0, .int .u8 0, .int .u8 0, .int .u8 0] := (by repeat (first | (with_reducible assumption) | ((with_reducible refine Bk.new _ _ _ ?_); first | (with_reducible rfl) | (simp; done)) | (with_reducible refine Bk.alloc ?_ _) | (with_reducible refine Bk.drew ?_) | (with_reducible refine Bk.drewN ?_ _) | ((with_reducible refine Bk.far ?_ ?_ _); rotate_left; focus (first | (simp; done) | (simp; omega))) | (with_reducible refine Bk.below ?_ (by with_reducible assumption)))); obtain ⟨kcO3, kfO3, kaO3, kgO3, klO3⟩ := kO3.rules
      go_wp2_with fail
      refine (colors_any mode x y _ HX.out HY.out P HW).mono ?_
      rintro e w4 ⟨rfl, hb4⟩
      have kO4 : Bk w4 (w.heap.size + 1 + 1) 45 #[.int .u8 0, .int .u8 0, .int .u8 0, .int .u8 0] := (by repeat (first | (with_reducible assumption) | ((with_reducible refine Bk.new _ _ _ ?_); first | (with_reducible rfl) | (simp; done)) | (with_reducible refine Bk.alloc ?_ _) | (with_reducible refine Bk.drew ?_) | (with_reducible refine Bk.drewN ?_ _) | ((with_reducible refine Bk.far ?_ ?_ _); rotate_left; focus (first | (simp; done) | (simp; omega))) | (with_reducible refine Bk.below ?_ (by with_reducible assumption)))); obtain ⟨kcO4, kfO4, kaO4, kgO4, klO4⟩ := kO4.rules
      go_wp2
      refine bodyPost_ret (v := _) ?_ rfl ⟨rfl, (by repeat (first | (with_reducible exact Below.refl _ _) | (with_reducible refine balloc ?_ _) | (with_reducible refine Below.drew ?_) | (with_reducible refine bdrewN ?_ _) | ((with_reducible refine bset ?_ ?_ _); rotate_left; focus (first | (with_reducible exact Nat.le_refl _) | (simp; done) | (simp; omega) | omega)) | (with_reducible refine bstep (by with_reducible assumption) ?_)))⟩
      simp [results, Tryz.results41, go_sem, kcO4]
    | true =>
      rw [if_pos rfl] at hE
      unfold sepBlend at hE
      subst hE
      clear HP
      obtain ⟨r0, r1, g0, g1, b0, b1, a0, a1⟩ := hx
      obtain ⟨r0', r1', g0', g1', b0', b1', a0', a1'⟩ := hy
      have m1 := mul_byte (x := x.a) (y := 255 - y.a) a0 a1 (by omega) (by omega)
      have m2 := mul_byte (x := y.a) (y := 255 - x.a) a0' a1' (by omega) (by omega)
      have m3 := mul_byte a0 a1 a0' a1'
      obtain ⟨n4, Hn4⟩ : ∃ n, Hid (x.a * (255 - y.a) + y.a * (255 - x.a) + x.a * y.a = n) := ⟨_, rfl⟩
      have hn4 : 0 ≤ n4 ∧ n4 ≤ 200000 := by have h1 := Hn4.out; omega
      have hal : alphaP x.a y.a = dn8 n4 := by unfold alphaP; rw [Hn4.out]
      rw [hal]
      clear hal
      go_enter Tryz.func41, Tryz.ntmps41
      go_wp2_with fail
      refine (HV.out _).mono ?_
      rintro e w' ⟨rfl, rfl⟩
      go_wp2_with fail
      refine wp_region_gob 3 [(0, true), (2, true), (1, false)] (by kernel_rfl) (by kernel_rfl) (fun c a d v w h => by cases d <;> exact h) ?_
      repeat (refine wpGo_pure (v := ?_) rfl rfl (fun w' hS => ?_) ?_; rotate_left; (· have kSp : Bk w' (w.heap.size) 45 #[.int .u8 s.r, .int .u8 s.g, .int .u8 s.b, .int .u8 s.a] := (by repeat (first | (with_reducible assumption) | ((with_reducible refine Bk.new _ _ _ ?_); first | (with_reducible rfl) | (simp; done)) | (with_reducible refine Bk.alloc ?_ _) | (with_reducible refine Bk.drew ?_) | (with_reducible refine Bk.drewN ?_ _) | ((with_reducible refine Bk.far ?_ ?_ _); rotate_left; focus (first | (simp; done) | (simp; omega))) | (with_reducible refine Bk.below ?_ (by with_reducible assumption)))); obtain ⟨kcSp, kfSp, kaSp, kgSp, klSp⟩ := kSp.rules; have kDp : Bk w' (w.heap.size + 1) 45 #[.int .u8 d.r, .int .u8 d.g, .int .u8 d.b, .int .u8 d.a] := (by repeat (first | (with_reducible assumption) | ((with_reducible refine Bk.new _ _ _ ?_); first | (with_reducible rfl) | (simp; done)) | (with_reducible refine Bk.alloc ?_ _) | (with_reducible refine Bk.drew ?_) | (with_reducible refine Bk.drewN ?_ _) | ((with_reducible refine Bk.far ?_ ?_ _); rotate_left; focus (first | (simp; done) | (simp; omega))) | (with_reducible refine Bk.below ?_ (by with_reducible assumption)))); obtain ⟨kcDp, kfDp, kaDp, kgDp, klDp⟩ := kDp.rules; go_simp; exact rfl); (try simp only [Act.put, List.setIfInBounds_toArray, List.set_cons_zero, List.set_cons_succ]))
      refine wpGo_eff rfl (fun K hK => ?_)
      go_simp
      refine (clamp_q s.r s.g s.b s.a x Hx _).mono ?_
      rintro e w1 ⟨rfl, hb1⟩
      refine hK.out _ _ (by repeat (first | (with_reducible exact Below.refl _ _) | (with_reducible refine balloc ?_ _) | (with_reducible refine Below.drew ?_) | (with_reducible refine bdrewN ?_ _) | ((with_reducible refine bset ?_ ?_ _); rotate_left; focus (first | (with_reducible exact Nat.le_refl _) | (simp; done) | (simp; omega) | omega)) | (with_reducible refine bstep (by with_reducible assumption) ?_))) (fun hS1 => ?_)
      clear hK K
      refine wpGo_nil ?_
      simp only [List.drop_succ_cons, List.drop_zero]
      go_wp2_with fail
      refine (clamp_q d.r d.g d.b d.a y Hy _).mono ?_
      rintro e w2 ⟨rfl, hb2⟩
      have kS2 : Bk w2 (w.heap.size) 45 #[.int .u8 s.r, .int .u8 s.g, .int .u8 s.b, .int .u8 s.a] := (by repeat (first | (with_reducible assumption) | ((with_reducible refine Bk.new _ _ _ ?_); first | (with_reducible rfl) | (simp; done)) | (with_reducible refine Bk.alloc ?_ _) | (with_reducible refine Bk.drew ?_) | (with_reducible refine Bk.drewN ?_ _) | ((with_reducible refine Bk.far ?_ ?_ _); rotate_left; focus (first | (simp; done) | (simp; omega))) | (with_reducible refine Bk.below ?_ (by with_reducible assumption)))); obtain ⟨kcS2, kfS2, kaS2, kgS2, klS2⟩ := kS2.rules; have kD2 : Bk w2 (w.heap.size + 1) 45 #[.int .u8 d.r, .int .u8 d.g, .int .u8 d.b, .int .u8 d.a] := (by repeat (first | (with_reducible assumption) | ((with_reducible refine Bk.new _ _ _ ?_); first | (with_reducible rfl) | (simp; done)) | (with_reducible refine Bk.alloc ?_ _) | (with_reducible refine Bk.drew ?_) | (with_reducible refine Bk.drewN ?_ _) | ((with_reducible refine Bk.far ?_ ?_ _); rotate_left; focus (first | (simp; done) | (simp; omega))) | (with_reducible refine Bk.below ?_ (by with_reducible assumption)))); obtain ⟨kcD2, kfD2, kaD2, kgD2, klD2⟩ := kD2.rules; have kO2 : Bk w2 (w.heap.size + 1 + 1) 45 #[.int .u8 0, .int .u8 0, .int .u8 0, .int .u8 0] := (by repeat (first | (with_reducible assumption) | ((with_reducible refine Bk.new _ _ _ ?_); first | (with_reducible rfl) | (simp; done)) | (with_reducible refine Bk.alloc ?_ _) | (with_reducible refine Bk.drew ?_) | (with_reducible refine Bk.drewN ?_ _) | ((with_reducible refine Bk.far ?_ ?_ _); rotate_left; focus (first | (simp; done) | (simp; omega))) | (with_reducible refine Bk.below ?_ (by with_reducible assumption)))); obtain ⟨kcO2, kfO2, kaO2, kgO2, klO2⟩ := kO2.rules
      have jX : Bk _ (w.heap.size) 45 #[.int .u8 x.r, .int .u8 x.g, .int .u8 x.b, .int .u8 x.a] := ((((((((kS2.set 0 (.int .u8 x.r)).set 1 (.int .u8 x.g)).set 2 (.int .u8 x.b)).set 3 (.int .u8 x.a)).far (p := ⟨w.heap.size + 1, 0, none⟩) (by simp) (.int .u8 y.r)).far (p := ⟨w.heap.size + 1, 1, none⟩) (by simp) (.int .u8 y.g)).far (p := ⟨w.heap.size + 1, 2, none⟩) (by simp) (.int .u8 y.b)).far (p := ⟨w.heap.size + 1, 3, none⟩) (by simp) (.int .u8 y.a))
      have jY : Bk _ (w.heap.size + 1) 45 #[.int .u8 y.r, .int .u8 y.g, .int .u8 y.b, .int .u8 y.a] := ((((((((kD2.far (p := ⟨w.heap.size, 0, none⟩) (by simp) (.int .u8 x.r)).far (p := ⟨w.heap.size, 1, none⟩) (by simp) (.int .u8 x.g)).far (p := ⟨w.heap.size, 2, none⟩) (by simp) (.int .u8 x.b)).far (p := ⟨w.heap.size, 3, none⟩) (by simp) (.int .u8 x.a)).set 0 (.int .u8 y.r)).set 1 (.int .u8 y.g)).set 2 (.int .u8 y.b)).set 3 (.int .u8 y.a))
      have jO : Bk _ (w.heap.size + 1 + 1) 45 #[.int .u8 0, .int .u8 0, .int .u8 0, .int .u8 0] := ((((((((kO2.far (p := ⟨w.heap.size, 0, none⟩) (by simp <;> omega) (.int .u8 x.r)).far (p := ⟨w.heap.size, 1, none⟩) (by simp <;> omega) (.int .u8 x.g)).far (p := ⟨w.heap.size, 2, none⟩) (by simp <;> omega) (.int .u8 x.b)).far (p := ⟨w.heap.size, 3, none⟩) (by simp <;> omega) (.int .u8 x.a)).far (p := ⟨w.heap.size + 1, 0, none⟩) (by simp <;> omega) (.int .u8 y.r)).far (p := ⟨w.heap.size + 1, 1, none⟩) (by simp <;> omega) (.int .u8 y.g)).far (p := ⟨w.heap.size + 1, 2, none⟩) (by simp <;> omega) (.int .u8 y.b)).far (p := ⟨w.heap.size + 1, 3, none⟩) (by simp <;> omega) (.int .u8 y.a))
      have hW0 : Below w.heap.size w w2 := (by repeat (first | (with_reducible exact Below.refl _ _) | (with_reducible refine balloc ?_ _) | (with_reducible refine Below.drew ?_) | (with_reducible refine bdrewN ?_ _) | ((with_reducible refine bset ?_ ?_ _); rotate_left; focus (first | (with_reducible exact Nat.le_refl _) | (simp; done) | (simp; omega) | omega)) | (with_reducible refine bstep (by with_reducible assumption) ?_)))
      have hV : Below w.heap.size w ((((((((w2.setCell ⟨w.heap.size, 0, none⟩ (.int .u8 x.r)).setCell ⟨w.heap.size, 1, none⟩ (.int .u8 x.g)).setCell ⟨w.heap.size, 2, none⟩ (.int .u8 x.b)).setCell ⟨w.heap.size, 3, none⟩ (.int .u8 x.a)).setCell ⟨w.heap.size + 1, 0, none⟩ (.int .u8 y.r)).setCell ⟨w.heap.size + 1, 1, none⟩ (.int .u8 y.g)).setCell ⟨w.heap.size + 1, 2, none⟩ (.int .u8 y.b)).setCell ⟨w.heap.size + 1, 3, none⟩ (.int .u8 y.a)) := (by repeat (first | (with_reducible exact Below.refl _ _) | (with_reducible refine balloc ?_ _) | (with_reducible refine Below.drew ?_) | (with_reducible refine bdrewN ?_ _) | ((with_reducible refine bset ?_ ?_ _); rotate_left; focus (first | (with_reducible exact Nat.le_refl _) | (simp; done) | (simp; omega) | omega)) | (with_reducible refine bstep (by with_reducible assumption) ?_)))
      go_wp2_with fail
      generalize ((((((((w2.setCell ⟨w.heap.size, 0, none⟩ (.int .u8 x.r)).setCell ⟨w.heap.size, 1, none⟩ (.int .u8 x.g)).setCell ⟨w.heap.size, 2, none⟩ (.int .u8 x.b)).setCell ⟨w.heap.size, 3, none⟩ (.int .u8 x.a)).setCell ⟨w.heap.size + 1, 0, none⟩ (.int .u8 y.r)).setCell ⟨w.heap.size + 1, 1, none⟩ (.int .u8 y.g)).setCell ⟨w.heap.size + 1, 2, none⟩ (.int .u8 y.b)).setCell ⟨w.heap.size + 1, 3, none⟩ (.int .u8 y.a)) = w3 at hV jX jY jO ⊢
      clear kS2 kD2 kO2 kcS2 kfS2 kaS2 kgS2 kcD2 kfD2 kaD2 kgD2 kcO2 kfO2 kaO2 kgO2 klS2 klD2 klO2 hb2 hb1 hS1 hW0
      refine (HS.out _).mono ?_
      rintro e w' ⟨rfl, rfl⟩
      have kX3 : Bk w3 (w.heap.size) 45 #[.int .u8 x.r, .int .u8 x.g, .int .u8 x.b, .int .u8 x.a] := (by repeat (first | (with_reducible assumption) | ((with_reducible refine Bk.new _ _ _ ?_); first | (with_reducible rfl) | (simp; done)) | (with_reducible refine Bk.alloc ?_ _) | (with_reducible refine Bk.drew ?_) | (with_reducible refine Bk.drewN ?_ _) | ((with_reducible refine Bk.far ?_ ?_ _); rotate_left; focus (first | (simp; done) | (simp; omega))) | (with_reducible refine Bk.below ?_ (by with_reducible assumption)))); obtain ⟨kcX3, kfX3, kaX3, kgX3, klX3⟩ := kX3.rules; have kY3 : Bk w3 (w.heap.size + 1) 45 #[.int .u8 y.r, .int .u8 y.g, .int .u8 y.b, .int .u8 y.a] := (by repeat (first | (with_reducible assumption) | ((with_reducible refine Bk.new _ _ _ ?_); first | (with_reducible rfl) | (simp; done)) | (with_reducible refine Bk.alloc ?_ _) | (with_reducible refine Bk.drew ?_) | (with_reducible refine Bk.drewN ?_ _) | ((with_reducible refine Bk.far ?_ ?_ _); rotate_left; focus (first | (simp; done) | (simp; omega))) | (with_reducible refine Bk.below ?_ (by with_reducible assumption)))); obtain ⟨kcY3, kfY3, kaY3, kgY3, klY3⟩ := kY3.rules; have kO3 : Bk w3 (w.heap.size + 1 + 1) 45 #[.int .u8 0, .int .u8 0, .int .u8 0, .int .u8 0] := (by repeat (first | (with_reducible assumption) | ((with_reducible refine Bk.new _ _ _ ?_); first | (with_reducible rfl) | (simp; done)) | (with_reducible refine Bk.alloc ?_ _) | (with_reducible refine Bk.drew ?_) | (with_reducible refine Bk.drewN ?_ _) | ((with_reducible refine Bk.far ?_ ?_ _); rotate_left; focus (first | (simp; done) | (simp; omega))) | (with_reducible refine Bk.below ?_ (by with_reducible assumption)))); obtain ⟨kcO3, kfO3, kaO3, kgO3, klO3⟩ := kO3.rules
      go_wp2_with fail
      have f1 : IntKind.i64.wrap x.a = x.a := IntWalk.i64_in _ (by omega)
      have f2 : IntKind.i64.wrap y.a = y.a := IntWalk.i64_in _ (by omega)
      have f3 : IntKind.i64.wrap x.r = x.r := IntWalk.i64_in _ (by omega)
      have f4 : IntKind.i64.wrap y.r = y.r := IntWalk.i64_in _ (by omega)
      have f5 : IntKind.i64.wrap x.g = x.g := IntWalk.i64_in _ (by omega)
      have f6 : IntKind.i64.wrap y.g = y.g := IntWalk.i64_in _ (by omega)
      have f7 : IntKind.i64.wrap x.b = x.b := IntWalk.i64_in _ (by omega)
      have f8 : IntKind.i64.wrap y.b = y.b := IntWalk.i64_in _ (by omega)
      have x1 : IntKind.i64.wrap (255 - y.a) = 255 - y.a := IntWalk.i64_in _ (by omega)
      have x2 : IntKind.i64.wrap (x.a * (255 - y.a)) = x.a * (255 - y.a) := IntWalk.i64_in _ (by omega)
      have x3 : IntKind.i64.wrap (255 - x.a) = 255 - x.a := IntWalk.i64_in _ (by omega)
      have x4 : IntKind.i64.wrap (y.a * (255 - x.a)) = y.a * (255 - x.a) := IntWalk.i64_in _ (by omega)
      have x5 : IntKind.i64.wrap (x.a * (255 - y.a) + y.a * (255 - x.a)) = x.a * (255 - y.a) + y.a * (255 - x.a) := IntWalk.i64_in _ (by omega)
      have x7 : IntKind.i64.wrap (x.a * y.a) = x.a * y.a := IntWalk.i64_in _ (by omega)
      have x6 : IntKind.i64.wrap (x.a * (255 - y.a) + y.a * (255 - x.a) + x.a * y.a) = n4 := by rw [Hn4.out]; exact IntWalk.i64_in _ (by omega)
      refine wp_region_gob 8 [(0, true), (1, true), (2, true), (3, true), (4, true), (5, true), (6, true), (7, true)] (by kernel_rfl) (by kernel_rfl) (fun c a d v w h => by cases d <;> exact h) ?_
      repeat (refine wpGo_pure (v := ?_) rfl rfl (fun w' hS => ?_) ?_; rotate_left; (· have kXp : Bk w' (w.heap.size) 45 #[.int .u8 x.r, .int .u8 x.g, .int .u8 x.b, .int .u8 x.a] := (by repeat (first | (with_reducible assumption) | ((with_reducible refine Bk.new _ _ _ ?_); first | (with_reducible rfl) | (simp; done)) | (with_reducible refine Bk.alloc ?_ _) | (with_reducible refine Bk.drew ?_) | (with_reducible refine Bk.drewN ?_ _) | ((with_reducible refine Bk.far ?_ ?_ _); rotate_left; focus (first | (simp; done) | (simp; omega))) | (with_reducible refine Bk.below ?_ (by with_reducible assumption)))); obtain ⟨kcXp, kfXp, kaXp, kgXp, klXp⟩ := kXp.rules; have kYp : Bk w' (w.heap.size + 1) 45 #[.int .u8 y.r, .int .u8 y.g, .int .u8 y.b, .int .u8 y.a] := (by repeat (first | (with_reducible assumption) | ((with_reducible refine Bk.new _ _ _ ?_); first | (with_reducible rfl) | (simp; done)) | (with_reducible refine Bk.alloc ?_ _) | (with_reducible refine Bk.drew ?_) | (with_reducible refine Bk.drewN ?_ _) | ((with_reducible refine Bk.far ?_ ?_ _); rotate_left; focus (first | (simp; done) | (simp; omega))) | (with_reducible refine Bk.below ?_ (by with_reducible assumption)))); obtain ⟨kcYp, kfYp, kaYp, kgYp, klYp⟩ := kYp.rules; go_simp; exact rfl); (try simp only [Act.put, List.setIfInBounds_toArray, List.set_cons_zero, List.set_cons_succ]))
      refine wpGo_nil ?_
      simp only [List.drop_succ_cons, List.drop_zero]
      go_wp2_with fail
      refine wp_region_gob 45 [(0, true), (1, true), (2, true), (3, true), (4, true), (5, true), (6, true), (7, true), (8, true), (10, true), (11, true), (12, true), (13, true), (14, true), (15, true), (16, true), (17, true), (18, true), (20, true), (21, true), (22, true), (23, true), (24, true), (25, true), (26, true), (27, true), (28, true), (30, true), (31, true), (32, true), (33, true), (34, true), (35, true), (36, true), (37, true), (38, true), (39, true), (40, true), (41, true), (42, true), (9, false), (19, false), (29, false), (43, false), (44, true)] (by kernel_rfl) (by kernel_rfl) (fun c a d v w h => by cases d <;> exact h) ?_
      repeat (refine wpGo_pure (v := ?_) rfl rfl (fun w' hS => ?_) ?_; rotate_left; (· have kXp : Bk w' (w.heap.size) 45 #[.int .u8 x.r, .int .u8 x.g, .int .u8 x.b, .int .u8 x.a] := (by repeat (first | (with_reducible assumption) | ((with_reducible refine Bk.new _ _ _ ?_); first | (with_reducible rfl) | (simp; done)) | (with_reducible refine Bk.alloc ?_ _) | (with_reducible refine Bk.drew ?_) | (with_reducible refine Bk.drewN ?_ _) | ((with_reducible refine Bk.far ?_ ?_ _); rotate_left; focus (first | (simp; done) | (simp; omega))) | (with_reducible refine Bk.below ?_ (by with_reducible assumption)))); obtain ⟨kcXp, kfXp, kaXp, kgXp, klXp⟩ := kXp.rules; have kYp : Bk w' (w.heap.size + 1) 45 #[.int .u8 y.r, .int .u8 y.g, .int .u8 y.b, .int .u8 y.a] := (by repeat (first | (with_reducible assumption) | ((with_reducible refine Bk.new _ _ _ ?_); first | (with_reducible rfl) | (simp; done)) | (with_reducible refine Bk.alloc ?_ _) | (with_reducible refine Bk.drew ?_) | (with_reducible refine Bk.drewN ?_ _) | ((with_reducible refine Bk.far ?_ ?_ _); rotate_left; focus (first | (simp; done) | (simp; omega))) | (with_reducible refine Bk.below ?_ (by with_reducible assumption)))); obtain ⟨kcYp, kfYp, kaYp, kgYp, klYp⟩ := kYp.rules; go_simp; exact rfl); (try simp only [Act.put, List.setIfInBounds_toArray, List.set_cons_zero, List.set_cons_succ]))
      clear x1 x2 x3 x4 x5 x6 x7 f1 f2 f3 f4 f5 f6 f7 f8
      refine wpGo_eff rfl (fun K hK => ?_)
      go_simp
      refine (chan_any mode _ _ _ _ _ r0 r1 a1 r0' r1' a1').mono ?_
      rintro e w4 ⟨rfl, hb4⟩
      refine hK.out _ _ (by repeat (first | (with_reducible exact Below.refl _ _) | (with_reducible refine balloc ?_ _) | (with_reducible refine Below.drew ?_) | (with_reducible refine bdrewN ?_ _) | ((with_reducible refine bset ?_ ?_ _); rotate_left; focus (first | (with_reducible exact Nat.le_refl _) | (simp; done) | (simp; omega) | omega)) | (with_reducible refine bstep (by with_reducible assumption) ?_))) (fun hS4 => ?_)
      clear hK K
      refine wpGo_eff rfl (fun K hK => ?_)
      go_simp
      refine (chan_any mode _ _ _ _ _ g0 g1 a1 g0' g1' a1').mono ?_
      rintro e w5 ⟨rfl, hb5⟩
      refine hK.out _ _ (by repeat (first | (with_reducible exact Below.refl _ _) | (with_reducible refine balloc ?_ _) | (with_reducible refine Below.drew ?_) | (with_reducible refine bdrewN ?_ _) | ((with_reducible refine bset ?_ ?_ _); rotate_left; focus (first | (with_reducible exact Nat.le_refl _) | (simp; done) | (simp; omega) | omega)) | (with_reducible refine bstep (by with_reducible assumption) ?_))) (fun hS5 => ?_)
      clear hK K
      refine wpGo_eff rfl (fun K hK => ?_)
      go_simp
      refine (chan_any mode _ _ _ _ _ b0 b1 a1 b0' b1' a1').mono ?_
      rintro e w6 ⟨rfl, hb6⟩
      refine hK.out _ _ (by repeat (first | (with_reducible exact Below.refl _ _) | (with_reducible refine balloc ?_ _) | (with_reducible refine Below.drew ?_) | (with_reducible refine bdrewN ?_ _) | ((with_reducible refine bset ?_ ?_ _); rotate_left; focus (first | (with_reducible exact Nat.le_refl _) | (simp; done) | (simp; omega) | omega)) | (with_reducible refine bstep (by with_reducible assumption) ?_))) (fun hS6 => ?_)
      clear hK K
      refine wpGo_eff rfl (fun K hK => ?_)
      go_simp
      refine (divnorm_any n4 _ (by omega) (by omega)).mono ?_
      rintro e w7 ⟨rfl, hb7⟩
      refine hK.out _ _ (by repeat (first | (with_reducible exact Below.refl _ _) | (with_reducible refine balloc ?_ _) | (with_reducible refine Below.drew ?_) | (with_reducible refine bdrewN ?_ _) | ((with_reducible refine bset ?_ ?_ _); rotate_left; focus (first | (with_reducible exact Nat.le_refl _) | (simp; done) | (simp; omega) | omega)) | (with_reducible refine bstep (by with_reducible assumption) ?_))) (fun hS7 => ?_)
      clear hK K
      repeat (refine wpGo_pure (v := ?_) rfl rfl (fun w' hS => ?_) ?_; rotate_left; (· skip; go_simp; exact rfl); (try simp only [Act.put, List.setIfInBounds_toArray, List.set_cons_zero, List.set_cons_succ]))
      refine wpGo_nil ?_
      simp only [List.drop_succ_cons, List.drop_zero]
      have kO7 : Bk w7 (w.heap.size + 1 + 1) 45 #[.int .u8 0, .int .u8 0, .int .u8 0, .int .u8 0] := (by repeat (first | (with_reducible assumption) | ((with_reducible refine Bk.new _ _ _ ?_); first | (with_reducible rfl) | (simp; done)) | (with_reducible refine Bk.alloc ?_ _) | (with_reducible refine Bk.drew ?_) | (with_reducible refine Bk.drewN ?_ _) | ((with_reducible refine Bk.far ?_ ?_ _); rotate_left; focus (first | (simp; done) | (simp; omega))) | (with_reducible refine Bk.below ?_ (by with_reducible assumption)))); obtain ⟨kcO7, kfO7, kaO7, kgO7, klO7⟩ := kO7.rules
      have hZ : Below w.heap.size w w7 := bstep hS7 hV.drew
      go_wp2
      refine bodyPost_ret (v := _) ?_ rfl ⟨rfl, (by repeat (first | (with_reducible exact Below.refl _ _) | (with_reducible refine balloc ?_ _) | (with_reducible refine Below.drew ?_) | (with_reducible refine bdrewN ?_ _) | ((with_reducible refine bset ?_ ?_ _); rotate_left; focus (first | (with_reducible exact Nat.le_refl _) | (simp; done) | (simp; omega) | omega)) | (with_reducible refine bstep (by with_reducible assumption) ?_)))⟩
      simp [results, Tryz.results41, go_sem, kcO7]
end Go.Proofs.YtnefnnhnjmmebaaGreat

namespace Go.Proofs.YtnefnnhnjmmebaaGreat
open Go.RowKit
set_option linter.unusedSimpArgs false
set_option linter.unusedVariables false

theorem inB_true {s sa d da : Int} (h : inB s sa d da = true) : 0 ≤ s ∧ s ≤ sa ∧ sa ≤ 255 ∧ 0 ≤ d ∧ d ≤ da ∧ da ≤ 255 := by
  simp only [inB, Bool.and_eq_true, decide_eq_true_eq] at h; omega
theorem inB_false {s sa d da : Int} (h : inB s sa d da = false) : s < 0 ∨ d < 0 ∨ sa < s ∨ da < d ∨ 255 < sa ∨ 255 < da := by
  simp only [inB, Bool.and_eq_false_iff, decide_eq_false_iff_not] at h; omega

def mayP (s sa : Int) : Bool := decide (0 ≤ s) && decide (s ≤ sa) && decide (sa ≤ 255)
set_option maxHeartbeats 400000 in
theorem rmay28_any (s sa : Int) (w : World) :
    Calls Tryz.prog 99 #[.int .i64 s, .int .i64 sa] w fun e w' => e = .returned (.bool (mayP s sa)) ∧ w = w' := by
  go_enter Tryz.func99, Tryz.ntmps99
  go_wp2
  all_goals
    go_ret
    exact ⟨ret_bool (by simp [mayP]; try omega), rfl⟩
theorem inB_may (s sa d da : Int) : inB s sa d da = (mayP s sa && mayP d da) := by
  unfold inB mayP; simp only [Bool.and_assoc]

def hardP (low : Bool) (s sa d da : Int) : Int := if low then 2 * s * d else sa * da - 2 * (da - d) * (sa - s)
set_option maxHeartbeats 400000 in
theorem hard_any (low : Bool) (s sa d da : Int) (w : World) (h0 : 0 ≤ s) (h1 : s ≤ sa) (h2 : sa ≤ 255) (h3 : 0 ≤ d) (h4 : d ≤ da) (h5 : da ≤ 255) :
    Calls Tryz.prog 100 #[.bool low, .int .i64 s, .int .i64 sa, .int .i64 d, .int .i64 da] w fun e w' => e = .returned (.int .i64 (hardP low s sa d da)) ∧ w = w' := by
  obtain ⟨p1, p2, p3⟩ := ovl_parts h0 h1 h2 h3 h4 h5
  cases low with
  | true =>
    have hE : hardP true s sa d da = 2 * s * d := rfl
    rw [hE]; clear hE
    go_enter Tryz.func100, Tryz.ntmps100
    go_wp2
    go_ret
    exact ⟨rfl, rfl⟩
  | false =>
    have hE : hardP false s sa d da = sa * da - 2 * (da - d) * (sa - s) := rfl
    rw [hE]; clear hE
    go_enter Tryz.func100, Tryz.ntmps100
    go_wp2
    go_ret
    exact ⟨rfl, rfl⟩
theorem hard_ovl (s sa d da : Int) : hardP (decide (2 * d ≤ da)) s sa d da = ovl s sa d da := by
  unfold hardP ovl; by_cases h : 2 * d ≤ da <;> simp [h]
theorem hard_ovl' (s sa d da : Int) : hardP (decide (2 * s ≤ sa)) s sa d da = ovl d da s sa := by
  unfold hardP ovl
  have e1 : 2 * s * d = 2 * d * s := by rw [Int.mul_assoc, Int.mul_comm s d, ← Int.mul_assoc]
  have e2 : sa * da = da * sa := Int.mul_comm _ _
  have e3 : 2 * (da - d) * (sa - s) = 2 * (sa - s) * (da - d) := by rw [Int.mul_assoc, Int.mul_comm (da - d), ← Int.mul_assoc]
  by_cases h : 2 * s ≤ sa <;> simp only [h, decide_true, decide_false, if_true, if_false, Bool.false_eq_true] <;> omega

theorem sepB_cases {mode : Int} (h : sepB mode = true) : mode = 1 ∨ mode = 2 ∨ mode = 3 ∨ mode = 4 ∨ mode = 5 ∨ mode = 6 ∨ mode = 7 ∨ mode = 8 ∨ mode = 9 := by
  simp only [sepB, Bool.and_eq_true, decide_eq_true_eq] at h; omega
theorem sepB_false {mode : Int} (h : sepB mode = false) : (mode == 1) = false ∧ (mode == 2) = false ∧ (mode == 3) = false ∧ (mode == 4) = false ∧ (mode == 5) = false ∧ (mode == 6) = false ∧ (mode == 7) = false ∧ (mode == 8) = false ∧ (mode == 9) = false := by
  simp only [sepB, Bool.and_eq_false_iff, decide_eq_false_iff_not] at h
  simp only [beq_eq_false_iff_ne]
  omega

set_option maxHeartbeats 1600000 in
theorem rTerm_any (mode s sa d da : Int) (w : World) :
    Calls Tryz.prog 89 #[.int .i64 mode, .int .i64 s, .int .i64 sa, .int .i64 d, .int .i64 da] w fun e w' => e = .returned (.int .i64 (TermP mode s sa d da)) ∧ w = w' := by
  obtain ⟨v1, Hv1⟩ : ∃ v, Hid (mayP s sa = v) := ⟨_, rfl⟩
  obtain ⟨v2, Hv2⟩ : ∃ v, Hid (mayP d da = v) := ⟨_, rfl⟩
  have H1 : Hid (∀ w, Calls Tryz.prog 99 #[.int .i64 s, .int .i64 sa] w fun e w' => e = .returned (.bool v1) ∧ w = w') := fun w => by rw [← Hv1.out]; exact rmay28_any s sa w
  have H2 : Hid (∀ w, Calls Tryz.prog 99 #[.int .i64 d, .int .i64 da] w fun e w' => e = .returned (.bool v2) ∧ w = w') := fun w => by rw [← Hv2.out]; exact rmay28_any d da w
  have HI : Hid (inB s sa d da = (v1 && v2)) := by unfold Hid; rw [inB_may, Hv1.out, Hv2.out]
  clear Hv1 Hv2
  cases v1 with
  | false =>
    have hE : TermP mode s sa d da = 0 := by unfold TermP; rw [HI.out]; simp
    rw [hE]; clear hE
    go_enter Tryz.func89, Tryz.ntmps89
    go_wp2_with fail
    refine (H1.out _).mono ?_
    rintro e w' ⟨rfl, rfl⟩
    go_wp2_with fail
    go_ret
    exact ⟨rfl, rfl⟩
  | true =>
    cases v2 with
    | false =>
      have hE : TermP mode s sa d da = 0 := by unfold TermP; rw [HI.out]; simp
      rw [hE]; clear hE
      go_enter Tryz.func89, Tryz.ntmps89
      go_wp2_with fail
      refine (H1.out _).mono ?_
      rintro e w' ⟨rfl, rfl⟩
      go_wp2_with fail
      refine (H2.out _).mono ?_
      rintro e w' ⟨rfl, rfl⟩
      go_wp2_with fail
      go_ret
      exact ⟨rfl, rfl⟩
    | true =>
      obtain ⟨h0, h1, h2, h3, h4, h5⟩ := inB_true HI.out
      obtain ⟨p1, p2, p3, p4⟩ := trm_parts h0 h1 h2 h3 h4 h5
      have hmx := max_if
      have hmn := min_if
      cases hs : sepB mode with
      | false =>
        have hE : TermP mode s sa d da = 0 := by unfold TermP; rw [hs]; simp
        rw [hE]; clear hE
        obtain ⟨m1, m2, m3, m4, m5, m6, m7, m8, m9⟩ := sepB_false hs
        clear hs
        go_enter Tryz.func89, Tryz.ntmps89
        go_wp2_with fail
        refine (H1.out _).mono ?_
        rintro e w' ⟨rfl, rfl⟩
        go_wp2_with fail
        refine (H2.out _).mono ?_
        rintro e w' ⟨rfl, rfl⟩
        go_wp2_with fail
        go_ret
        exact ⟨rfl, rfl⟩
      | true =>
        have hE : TermP mode s sa d da = trm mode s sa d da := by unfold TermP; rw [hs, HI.out]; rfl
        rw [hE]; clear hE
        have hm := sepB_cases hs
        clear hs
        rcases hm with rfl | rfl | rfl | rfl | rfl | rfl | rfl | rfl | rfl
        all_goals
          go_enter Tryz.func89, Tryz.ntmps89
          go_wp2_with fail
          refine (H1.out _).mono ?_
          rintro e w' ⟨rfl, rfl⟩
          go_wp2_with fail
          refine (H2.out _).mono ?_
          rintro e w' ⟨rfl, rfl⟩
          go_wp2_with (go_at_call 100; refine (hard_any _ _ _ _ _ _ h0 h1 h2 h3 h4 h5).mono ?_; rintro e w' ⟨rfl, rfl⟩)
          go_ret
          refine ⟨ret_int ?_, rfl⟩
          first
            | (simp [trm]; done)
            | (simp only [trm]; simp [hard_ovl]; done)
            | (simp only [trm]; simp [hard_ovl']; done)
            | (simp only [trm]; simp; omega)

end Go.Proofs.YtnefnnhnjmmebaaGreat
