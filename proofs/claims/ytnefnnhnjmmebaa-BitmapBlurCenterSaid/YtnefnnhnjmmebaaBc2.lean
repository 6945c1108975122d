/-
  The walk of BitmapBlurCenter for the radius 2.
-/
import Derived.Test.YtnefnnhnjmmebaaCtr
namespace Go.Proofs.Ytnefnnhnjmmebaa
open Go.RowKit
set_option linter.unusedSimpArgs false
set_option linter.unusedVariables false

set_option maxRecDepth 100000 in
set_option maxHeartbeats 6400000 in
theorem bc_2 (n v : Int) (w : World) (hn : n % 4 = 2) (hn0 : 0 ≤ n) (hn1 : n ≤ 255) (hv0 : 0 ≤ v) (hv1 : v ≤ 255) :
    Calls Try.prog 10 #[.int .u8 n, .int .u8 v] w fun e w' => e = .returned (.bool true) ∧ Below w.heap.size w w' := by
  have q1 : n.tmod 4 = 2 := by rw [Int.tmod_eq_emod_of_nonneg hn0]; exact hn
  have HNew : Hid (∀ W, Calls Try.prog 13 #[.agg #[.int .i64 0, .int .i64 0, .int .i64 7, .int .i64 7], .agg #[.int .u8 0, .int .u8 0, .int .u8 0, .int .u8 0]] W (RetBE ⟨0, 0, 7, 7⟩ (List.replicate 49 ⟨0, 0, 0, 0⟩) 0 W)) := fun W => new_any ⟨0, 0, 7, 7⟩ ⟨0, 0, 0, 0⟩ W
  have HBB : Hid (∀ (W : World) (A : Option Addr) (c : Nat), (Bm.ok ⟨ctrR 2, A, 49, c, ctrL 2 v⟩ W) → Calls Try.prog 42 #[.agg #[.int .i64 0, .int .i64 0, .int .i64 7, .int .i64 7, .slice A 49 c], .int .i64 2] W (RetBE ⟨0, 0, 7, 7⟩ (pixL (blurG (ctrL 2 v) (ctrR 2) 2) (ctrR 2)) 0 W)) := fun W A c h => by
    have hb := bb_any ⟨ctrR 2, A, 49, c, ctrL 2 v⟩ 2 W h (by show 49 ≤ _; decide)
    have hV : vBm ⟨ctrR 2, A, 49, c, ctrL 2 v⟩ = true := ctr_valid (by decide) v
    have hbv : bbV ⟨ctrR 2, A, 49, c, ctrL 2 v⟩ 2 = true := by unfold bbV; rw [hV]; rfl
    have e1 : bbR ⟨ctrR 2, A, 49, c, ctrL 2 v⟩ 2 = ctrR 2 := by unfold bbR; rw [hbv]; rfl
    have e2 : bbL ⟨ctrR 2, A, 49, c, ctrL 2 v⟩ 2 = pixL (blurG (ctrL 2 v) (ctrR 2) 2) (ctrR 2) := by unfold bbL; rw [hbv]; rfl
    have e3 : bbE ⟨ctrR 2, A, 49, c, ctrL 2 v⟩ 2 = 0 := by unfold bbE; rw [hV]; rfl
    rw [e1, e2, e3] at hb
    exact hb
  have HPX := Lib.hid (fun (i : Nat) (h : i < 49) => ctr_pix (k := 2) (by decide) v h)
  have hplen : (pixL (blurG (ctrL 2 v) (ctrR 2) 2) (ctrR 2)).length = 49 := rfl
  obtain ⟨PL, HPL⟩ : ∃ l, Hid (pixL (blurG (ctrL 2 v) (ctrR 2) 2) (ctrR 2) = l) := ⟨_, rfl⟩
  rw [HPL.out] at HPX HBB hplen
  obtain ⟨a, Ha⟩ : ∃ a, Hid (rndP v (areaN 2) = a) := ⟨_, rfl⟩
  have ha0 : 0 ≤ a ∧ a ≤ 255 := by rw [← Ha.out]; exact ⟨rndP_nonneg (area_pos _) hv0, rndP_le (area_pos _) (by unfold areaN; simp; omega)⟩
  rw [Ha.out] at HPX
  have qa : (2 * v + 25) / 50 = a := Ha.out
  have HCL : Hid (clampP ⟨255, 255, 255, a⟩ = ⟨a, a, a, a⟩) := by unfold Hid clampP; simp only; rw [show min (255 : Int) a = a by omega]
  have HLEN := Lib.hid hplen
  have heq := fun p w => (neq_px p p w).trans (by rw [eqP_refl])
  clear hplen
  go_enter Try.func10, Try.ntmps10
  go_wp2_with fail
  refine (HNew.out _).mono ?_
  rintro e w1 ⟨v1, rfl, ho1, hb1⟩
  obtain ⟨g, cap, cur, hv1', hbg, kG, hcap, hmx, hsz, htk⟩ := ho1.block (by simp)
  rw [List.length_replicate] at hv1'
  subst hv1'
  have oL : w1.ownsRow w.heap.size 25 4 (.slice (some ⟨g, 0, none⟩) 49 cap) 49 ((List.replicate 49 (⟨0, 0, 0, 0⟩ : Px)).flatMap encP) := by have h := ho1; unfold OwnL at h; rw [List.length_replicate] at h; exact h
  have lg : g < w1.heap.size := kG.lt
  have t0 : cur[96]? = some (.int .u8 0) := (kG.rules.1 96).symm.trans ((World.ownsRow.cellAt (g := g) oL (24 * 4 + 0) (by decide)).trans (flat_at encP_len (List.replicate 49 ⟨0, 0, 0, 0⟩) 24 (by simp) 0 (.int .u8 0) rfl))
  have t1 : cur[97]? = some (.int .u8 0) := (kG.rules.1 97).symm.trans ((World.ownsRow.cellAt (g := g) oL (24 * 4 + 1) (by decide)).trans (flat_at encP_len (List.replicate 49 ⟨0, 0, 0, 0⟩) 24 (by simp) 1 (.int .u8 0) rfl))
  have t2 : cur[98]? = some (.int .u8 0) := (kG.rules.1 98).symm.trans ((World.ownsRow.cellAt (g := g) oL (24 * 4 + 2) (by decide)).trans (flat_at encP_len (List.replicate 49 ⟨0, 0, 0, 0⟩) 24 (by simp) 2 (.int .u8 0) rfl))
  have t3 : cur[99]? = some (.int .u8 0) := (kG.rules.1 99).symm.trans ((World.ownsRow.cellAt (g := g) oL (24 * 4 + 3) (by decide)).trans (flat_at encP_len (List.replicate 49 ⟨0, 0, 0, 0⟩) 24 (by simp) 3 (.int .u8 0) rfl))
  have hst := OwnL.store4P ho1 (i := 24) (by simp) (by simp) ⟨v, v, v, v⟩
  have hst1 : OwnL encP 25 4 ((((w1.setCell ⟨g, 96, none⟩ (.int .u8 v)).setCell ⟨g, 97, none⟩ (.int .u8 v)).setCell ⟨g, 98, none⟩ (.int .u8 v)).setCell ⟨g, 99, none⟩ (.int .u8 v)) w.heap.size (.slice (some ⟨g, 0, none⟩) 49 cap) (ctrL 2 v) := hst
  have hst2 := hst1.alloc (.cells #[.int .i64 0, .int .i64 0, .int .i64 7, .int .i64 7, .slice (some ⟨g, 0, none⟩) 49 cap] 28)
  have kS3 := Bk.new ((((w1.setCell ⟨g, 96, none⟩ (.int .u8 v)).setCell ⟨g, 97, none⟩ (.int .u8 v)).setCell ⟨g, 98, none⟩ (.int .u8 v)).setCell ⟨g, 99, none⟩ (.int .u8 v)) 28 #[.int .i64 0, .int .i64 0, .int .i64 7, .int .i64 7, .slice (some ⟨g, 0, none⟩) 49 cap] (g := w1.heap.size) (by simp)
  have hB3 := balloc (bset (p := ⟨g, 99, none⟩) (bset (p := ⟨g, 98, none⟩) (bset (p := ⟨g, 97, none⟩) (bset (p := ⟨g, 96, none⟩) hb1 hbg (.int .u8 v)) hbg (.int .u8 v)) hbg (.int .u8 v)) hbg (.int .u8 v)) (.cells #[.int .i64 0, .int .i64 0, .int .i64 7, .int .i64 7, .slice (some ⟨g, 0, none⟩) 49 cap] 28)
  obtain ⟨kc, kf, ka, kg, kl⟩ := kG.rules
  obtain ⟨kc', kf', ka', kg', kl'⟩ := kS3.rules
  have kS := Bk.new w1 28 #[.int .i64 0, .int .i64 0, .int .i64 7, .int .i64 7, .slice (some ⟨g, 0, none⟩) 49 cap] (g := w1.heap.size) rfl
  obtain ⟨kc2, kf2, ka2, kg2, kl2⟩ := kS.rules
  clear hst hst1 oL hsz htk hmx hcap kG ho1 kS
  go_wp2_with fail
  generalize (((((w1.setCell ⟨g, 96, none⟩ (.int .u8 v)).setCell ⟨g, 97, none⟩ (.int .u8 v)).setCell ⟨g, 98, none⟩ (.int .u8 v)).setCell ⟨g, 99, none⟩ (.int .u8 v))).alloc (.cells #[.int .i64 0, .int .i64 0, .int .i64 7, .int .i64 7, .slice (some ⟨g, 0, none⟩) 49 cap] 28) = w2 at *
  clear t0 t1 t2 t3 kc kf ka kg kl kc' kf' ka' kg' kl' kc2 kf2 ka2 kg2 kl2 lg
  obtain ⟨gS, hgS⟩ : ∃ x, w1.heap.size = x := ⟨_, rfl⟩
  rw [hgS] at kS3 ⊢
  clear hgS
  obtain ⟨A2, c2, hv2, hr2, hle2, hmx2⟩ := hst2.form2 encP_len
  have hA2 : A2 = some ⟨g, 0, none⟩ ∧ c2 = cap := by injection hv2 with h1 _ h3; exact ⟨h1.symm, h3.symm⟩
  rw [hA2.1] at hr2
  rw [hA2.2] at hle2 hmx2
  have hok : Bm.ok ⟨ctrR 2, some ⟨g, 0, none⟩, 49, cap, ctrL 2 v⟩ w2 := ⟨hr2, rfl, ctr_bytes hv0 hv1, hle2, hmx2⟩
  refine (HBB.out _ _ _ hok).mono ?_
  clear hok hr2 hle2 hmx2 hv2 hA2 hst2
  rintro e w3 ⟨v3, rfl, ho3, hb3⟩
  obtain ⟨A3, c3, hv3, hr3, _, _⟩ := ho3.form2 encP_len
  rw [HLEN.out] at hv3
  subst hv3
  have HR3 : Hid (RdL encP 4 (w3.alloc (.cells #[.int .i64 0, .int .i64 0, .int .i64 7, .int .i64 7, .slice A3 49 c3] 28)) A3 PL) := hr3.below ((Below.refl _ _).alloc (Nat.le_refl _) _)
  have kB := Bk.new w3 28 #[.int .i64 0, .int .i64 0, .int .i64 7, .int .i64 7, .slice A3 49 c3] (g := w3.heap.size) rfl
  have hB4 := balloc (bstep hb3 hB3) (.cells #[.int .i64 0, .int .i64 0, .int .i64 7, .int .i64 7, .slice A3 49 c3] 28)
  obtain ⟨kc, kf, ka, kg, kl⟩ := kB.rules
  go_wp2_with fail
  refine (rclampc_q 255 255 255 a ⟨a, a, a, a⟩ HCL _).mono ?_
  rintro e w5 ⟨rfl, hb5⟩
  have xB := (kB.below hb5).alloc (.cells #[.int .u8 a, .int .u8 a, .int .u8 a, .int .u8 a] 25)
  have xW := Bk.new w5 25 #[.int .u8 a, .int .u8 a, .int .u8 a, .int .u8 a] (g := w5.heap.size) rfl
  have hB5 := balloc (bstep hb5 hB4) (.cells #[.int .u8 a, .int .u8 a, .int .u8 a, .int .u8 a] 25)
  have HR5 : Hid (RdL encP 4 (w5.alloc (.cells #[.int .u8 a, .int .u8 a, .int .u8 a, .int .u8 a] 25)) A3 PL) := HR3.out.below (balloc hb5 _)
  have yB := kB.below hb5
  clear kc kf ka kg kl kB hB4 HR3 hb3 hb5 hr3 ho3 hB3 kS3 hb1 hbg
  obtain ⟨kc, kf, ka, kg, kl⟩ := yB.rules
  go_wp2_with fail
  obtain ⟨gW, hgW⟩ : ∃ x, w5.heap.size = x := ⟨_, rfl⟩
  rw [hgW] at xW ⊢
  obtain ⟨gB, hgB⟩ : ∃ x, w3.heap.size = x := ⟨_, rfl⟩
  rw [hgB] at xB ⊢
  clear hgW hgB kc kf ka kg kl yB
  generalize w5.alloc (.cells #[.int .u8 a, .int .u8 a, .int .u8 a, .int .u8 a] 25) = w6 at *
  have heqA : ∀ w, (binOp .neq 25 (.agg #[.int .u8 a, .int .u8 a, .int .u8 a, .int .u8 a]) (.agg #[.int .u8 a, .int .u8 a, .int .u8 a, .int .u8 a])).run Try.prog w = .ok (.bool false) w := fun w => heq ⟨a, a, a, a⟩ w
  have heqZ : ∀ w, (binOp .neq 25 (.agg #[.int .u8 0, .int .u8 0, .int .u8 0, .int .u8 0]) (.agg #[.int .u8 0, .int .u8 0, .int .u8 0, .int .u8 0])).run Try.prog w = .ok (.bool false) w := fun w => heq ⟨0, 0, 0, 0⟩ w
  clear heq
  go_loopw [96] (fun i wr => ∃ j : Nat, j ≤ 49 ∧ i = .int .i64 (j : Int) ∧ Below w6.heap.size w6 wr) (fun i _ => 49 - (intOf i).toNat)
  case atStart => exact ⟨0, by decide, rfl, Below.refl _ _⟩
  case round =>
    obtain ⟨i, hi, rfl, hbw⟩ := hrel
    have zB := xB.below hbw
    have zW := xW.below hbw
    by_cases hlt : i < 49
    · have hpl := HPX.out i hlt
      have hil : i < PL.length := by rw [HLEN.out]; exact hlt
      rw [List.getElem?_eq_getElem hil] at hpl
      have hpe := Option.some.inj hpl
      obtain ⟨gb, ob, rfl, hg, hcA⟩ := rdp (HR5.out.below hbw) hil
      rw [hpe] at hcA
      have i0 : (0 : Int) ≤ (i : Int) := by omega
      have i1 : (i : Int) < 49 := by omega
      obtain ⟨x, hx⟩ : ∃ x, i % (2 * 2 + 3) = x := ⟨_, rfl⟩
      obtain ⟨y, hy⟩ : ∃ x, i / (2 * 2 + 3) = x := ⟨_, rfl⟩
      rw [hx, hy] at hcA
      have f1 : (i : Int) % 7 = (x : Int) := by omega
      have f2 : (i : Int) / 7 = (y : Int) := by omega
      have hxs : x < 7 := by omega
      have hys : y < 7 := by omega
      have ns : ¬ ((7 : Int) = 0) := by decide
      clear hx hy hpl hpe
      by_cases hin : (0 < x ∧ x < 6) ∧ 0 < y ∧ y < 6
      · have hp : ctrP 2 a x y = ⟨a, a, a, a⟩ := if_pos hin
        rw [hp] at hcA
        have QA := Lib.hid hcA
        have c1 : (0 : Int) < (x : Int) := by omega
        have c2 : (x : Int) < 6 := by omega
        have c3 : (0 : Int) < (y : Int) := by omega
        have c4 : (y : Int) < 6 := by omega
        clear hcA hp hin hxs hys
        go_wp2_with fail
        refine wp_region_gob 8 [(0, true), (1, true), (2, true), (3, true), (4, true), (5, true), (6, true), (7, true)] (by kernel_rfl) (by kernel_rfl) (fun c a d v w h => by cases d <;> exact h) ?_
        repeat (refine wpGo_pure (v := ?_) rfl rfl (fun w' hS => ?_) ?_; rotate_left; (· skip; go_simp; exact rfl); (try simp only [Act.put, List.setIfInBounds_toArray, List.set_cons_zero, List.set_cons_succ]))
        refine wpGo_nil ?_
        simp only [List.drop_succ_cons, List.drop_zero]
        go_wp2_with fail
        refine wp_region_gob 23 [(0, true), (1, true), (2, true), (3, true), (4, true), (5, true), (6, true), (7, true), (8, true), (9, true), (10, true), (11, true), (12, true), (13, true), (14, true), (15, true), (16, true), (17, true), (18, true), (19, true), (20, true), (21, true), (22, true)] (by kernel_rfl) (by kernel_rfl) (fun c a d v w h => by cases d <;> exact h) ?_
        repeat (first | (refine wpGo_pure (v := ?_) rfl rfl (fun w' hS => ?_) ?_; rotate_left; (· obtain ⟨q0, q1, q2, q3⟩ := QA.out; have qr0 := (hS.cell (p := ⟨gb, ob + i * 4, none⟩) hg).trans q0; have qr1 := (hS.cell (p := ⟨gb, ob + i * 4 + 1, none⟩) hg).trans q1; have qr2 := (hS.cell (p := ⟨gb, ob + i * 4 + 2, none⟩) hg).trans q2; have qr3 := (hS.cell (p := ⟨gb, ob + i * 4 + 3, none⟩) hg).trans q3; have jB := zB.drew.below hS; obtain ⟨kc, kf, ka, kg, kl⟩ := jB.rules; have jW := zW.drew.below hS; obtain ⟨kc2, kf2, ka2, kg2, kl2⟩ := jW.rules; go_simp; exact rfl); (try simp only [Act.put, List.setIfInBounds_toArray, List.set_cons_zero, List.set_cons_succ])) | ((refine wpGo_skip rfl rfl ?_); (try simp only [Act.put, List.setIfInBounds_toArray, List.set_cons_zero, List.set_cons_succ])))
        refine wpGo_nil ?_
        simp only [List.drop_succ_cons, List.drop_zero]
        go_wp2
        go_roundw
        case rel => exact ⟨i + 1, by omega, by go_num, (by repeat (first | exact hbw | refine Below.drew ?_))⟩
        case measure => simp [intOf]; omega
      · have hp : ctrP 2 a x y = ⟨0, 0, 0, 0⟩ := if_neg hin
        rw [hp] at hcA
        have QA := Lib.hid hcA
        have hc : x = 0 ∨ (0 < x ∧ x = 6) ∨ (0 < x ∧ x < 6 ∧ y = 0) ∨ (0 < x ∧ x < 6 ∧ 0 < y ∧ y = 6) := by omega
        clear hcA hp hin hxs hys
        rcases hc with rfl | ⟨h1, rfl⟩ | ⟨h1, h2, rfl⟩ | ⟨h1, h2, h3, rfl⟩
        · skip
          go_wp2_with fail
          refine wp_region_gob 8 [(0, true), (1, true), (2, true), (3, true), (4, true), (5, true), (6, true), (7, true)] (by kernel_rfl) (by kernel_rfl) (fun c a d v w h => by cases d <;> exact h) ?_
          repeat (refine wpGo_pure (v := ?_) rfl rfl (fun w' hS => ?_) ?_; rotate_left; (· skip; go_simp; exact rfl); (try simp only [Act.put, List.setIfInBounds_toArray, List.set_cons_zero, List.set_cons_succ]))
          refine wpGo_nil ?_
          simp only [List.drop_succ_cons, List.drop_zero]
          go_wp2_with fail
          refine wp_region_gob 23 [(0, true), (1, true), (2, true), (3, true), (4, true), (5, true), (6, true), (7, true), (8, true), (9, true), (10, true), (11, true), (12, true), (13, true), (14, true), (15, true), (16, true), (17, true), (18, true), (19, true), (20, true), (21, true), (22, true)] (by kernel_rfl) (by kernel_rfl) (fun c a d v w h => by cases d <;> exact h) ?_
          repeat (first | (refine wpGo_pure (v := ?_) rfl rfl (fun w' hS => ?_) ?_; rotate_left; (· obtain ⟨q0, q1, q2, q3⟩ := QA.out; have qr0 := (hS.cell (p := ⟨gb, ob + i * 4, none⟩) hg).trans q0; have qr1 := (hS.cell (p := ⟨gb, ob + i * 4 + 1, none⟩) hg).trans q1; have qr2 := (hS.cell (p := ⟨gb, ob + i * 4 + 2, none⟩) hg).trans q2; have qr3 := (hS.cell (p := ⟨gb, ob + i * 4 + 3, none⟩) hg).trans q3; have jB := zB.drew.below hS; obtain ⟨kc, kf, ka, kg, kl⟩ := jB.rules; have jW := zW.drew.below hS; obtain ⟨kc2, kf2, ka2, kg2, kl2⟩ := jW.rules; go_simp; exact rfl); (try simp only [Act.put, List.setIfInBounds_toArray, List.set_cons_zero, List.set_cons_succ])) | ((refine wpGo_skip rfl rfl ?_); (try simp only [Act.put, List.setIfInBounds_toArray, List.set_cons_zero, List.set_cons_succ])))
          refine wpGo_nil ?_
          simp only [List.drop_succ_cons, List.drop_zero]
          go_wp2
          go_roundw
          case rel => exact ⟨i + 1, by omega, by go_num, (by repeat (first | exact hbw | refine Below.drew ?_))⟩
          case measure => simp [intOf]; omega
        · have c1 : (0 : Int) < (6 : Int) := by decide
          go_wp2_with fail
          refine wp_region_gob 8 [(0, true), (1, true), (2, true), (3, true), (4, true), (5, true), (6, true), (7, true)] (by kernel_rfl) (by kernel_rfl) (fun c a d v w h => by cases d <;> exact h) ?_
          repeat (refine wpGo_pure (v := ?_) rfl rfl (fun w' hS => ?_) ?_; rotate_left; (· skip; go_simp; exact rfl); (try simp only [Act.put, List.setIfInBounds_toArray, List.set_cons_zero, List.set_cons_succ]))
          refine wpGo_nil ?_
          simp only [List.drop_succ_cons, List.drop_zero]
          go_wp2_with fail
          refine wp_region_gob 23 [(0, true), (1, true), (2, true), (3, true), (4, true), (5, true), (6, true), (7, true), (8, true), (9, true), (10, true), (11, true), (12, true), (13, true), (14, true), (15, true), (16, true), (17, true), (18, true), (19, true), (20, true), (21, true), (22, true)] (by kernel_rfl) (by kernel_rfl) (fun c a d v w h => by cases d <;> exact h) ?_
          repeat (first | (refine wpGo_pure (v := ?_) rfl rfl (fun w' hS => ?_) ?_; rotate_left; (· obtain ⟨q0, q1, q2, q3⟩ := QA.out; have qr0 := (hS.cell (p := ⟨gb, ob + i * 4, none⟩) hg).trans q0; have qr1 := (hS.cell (p := ⟨gb, ob + i * 4 + 1, none⟩) hg).trans q1; have qr2 := (hS.cell (p := ⟨gb, ob + i * 4 + 2, none⟩) hg).trans q2; have qr3 := (hS.cell (p := ⟨gb, ob + i * 4 + 3, none⟩) hg).trans q3; have jB := zB.drew.below hS; obtain ⟨kc, kf, ka, kg, kl⟩ := jB.rules; have jW := zW.drew.below hS; obtain ⟨kc2, kf2, ka2, kg2, kl2⟩ := jW.rules; go_simp; exact rfl); (try simp only [Act.put, List.setIfInBounds_toArray, List.set_cons_zero, List.set_cons_succ])) | ((refine wpGo_skip rfl rfl ?_); (try simp only [Act.put, List.setIfInBounds_toArray, List.set_cons_zero, List.set_cons_succ])))
          refine wpGo_nil ?_
          simp only [List.drop_succ_cons, List.drop_zero]
          go_wp2
          go_roundw
          case rel => exact ⟨i + 1, by omega, by go_num, (by repeat (first | exact hbw | refine Below.drew ?_))⟩
          case measure => simp [intOf]; omega
        · have c1 : (0 : Int) < (x : Int) := by omega
          have c2 : (x : Int) < 6 := by omega
          go_wp2_with fail
          refine wp_region_gob 8 [(0, true), (1, true), (2, true), (3, true), (4, true), (5, true), (6, true), (7, true)] (by kernel_rfl) (by kernel_rfl) (fun c a d v w h => by cases d <;> exact h) ?_
          repeat (refine wpGo_pure (v := ?_) rfl rfl (fun w' hS => ?_) ?_; rotate_left; (· skip; go_simp; exact rfl); (try simp only [Act.put, List.setIfInBounds_toArray, List.set_cons_zero, List.set_cons_succ]))
          refine wpGo_nil ?_
          simp only [List.drop_succ_cons, List.drop_zero]
          go_wp2_with fail
          refine wp_region_gob 23 [(0, true), (1, true), (2, true), (3, true), (4, true), (5, true), (6, true), (7, true), (8, true), (9, true), (10, true), (11, true), (12, true), (13, true), (14, true), (15, true), (16, true), (17, true), (18, true), (19, true), (20, true), (21, true), (22, true)] (by kernel_rfl) (by kernel_rfl) (fun c a d v w h => by cases d <;> exact h) ?_
          repeat (first | (refine wpGo_pure (v := ?_) rfl rfl (fun w' hS => ?_) ?_; rotate_left; (· obtain ⟨q0, q1, q2, q3⟩ := QA.out; have qr0 := (hS.cell (p := ⟨gb, ob + i * 4, none⟩) hg).trans q0; have qr1 := (hS.cell (p := ⟨gb, ob + i * 4 + 1, none⟩) hg).trans q1; have qr2 := (hS.cell (p := ⟨gb, ob + i * 4 + 2, none⟩) hg).trans q2; have qr3 := (hS.cell (p := ⟨gb, ob + i * 4 + 3, none⟩) hg).trans q3; have jB := zB.drew.below hS; obtain ⟨kc, kf, ka, kg, kl⟩ := jB.rules; have jW := zW.drew.below hS; obtain ⟨kc2, kf2, ka2, kg2, kl2⟩ := jW.rules; go_simp; exact rfl); (try simp only [Act.put, List.setIfInBounds_toArray, List.set_cons_zero, List.set_cons_succ])) | ((refine wpGo_skip rfl rfl ?_); (try simp only [Act.put, List.setIfInBounds_toArray, List.set_cons_zero, List.set_cons_succ])))
          refine wpGo_nil ?_
          simp only [List.drop_succ_cons, List.drop_zero]
          go_wp2
          go_roundw
          case rel => exact ⟨i + 1, by omega, by go_num, (by repeat (first | exact hbw | refine Below.drew ?_))⟩
          case measure => simp [intOf]; omega
        · have c1 : (0 : Int) < (x : Int) := by omega
          have c2 : (x : Int) < 6 := by omega
          go_wp2_with fail
          refine wp_region_gob 8 [(0, true), (1, true), (2, true), (3, true), (4, true), (5, true), (6, true), (7, true)] (by kernel_rfl) (by kernel_rfl) (fun c a d v w h => by cases d <;> exact h) ?_
          repeat (refine wpGo_pure (v := ?_) rfl rfl (fun w' hS => ?_) ?_; rotate_left; (· skip; go_simp; exact rfl); (try simp only [Act.put, List.setIfInBounds_toArray, List.set_cons_zero, List.set_cons_succ]))
          refine wpGo_nil ?_
          simp only [List.drop_succ_cons, List.drop_zero]
          go_wp2_with fail
          refine wp_region_gob 23 [(0, true), (1, true), (2, true), (3, true), (4, true), (5, true), (6, true), (7, true), (8, true), (9, true), (10, true), (11, true), (12, true), (13, true), (14, true), (15, true), (16, true), (17, true), (18, true), (19, true), (20, true), (21, true), (22, true)] (by kernel_rfl) (by kernel_rfl) (fun c a d v w h => by cases d <;> exact h) ?_
          repeat (first | (refine wpGo_pure (v := ?_) rfl rfl (fun w' hS => ?_) ?_; rotate_left; (· obtain ⟨q0, q1, q2, q3⟩ := QA.out; have qr0 := (hS.cell (p := ⟨gb, ob + i * 4, none⟩) hg).trans q0; have qr1 := (hS.cell (p := ⟨gb, ob + i * 4 + 1, none⟩) hg).trans q1; have qr2 := (hS.cell (p := ⟨gb, ob + i * 4 + 2, none⟩) hg).trans q2; have qr3 := (hS.cell (p := ⟨gb, ob + i * 4 + 3, none⟩) hg).trans q3; have jB := zB.drew.below hS; obtain ⟨kc, kf, ka, kg, kl⟩ := jB.rules; have jW := zW.drew.below hS; obtain ⟨kc2, kf2, ka2, kg2, kl2⟩ := jW.rules; go_simp; exact rfl); (try simp only [Act.put, List.setIfInBounds_toArray, List.set_cons_zero, List.set_cons_succ])) | ((refine wpGo_skip rfl rfl ?_); (try simp only [Act.put, List.setIfInBounds_toArray, List.set_cons_zero, List.set_cons_succ])))
          refine wpGo_nil ?_
          simp only [List.drop_succ_cons, List.drop_zero]
          go_wp2
          go_roundw
          case rel => exact ⟨i + 1, by omega, by go_num, (by repeat (first | exact hbw | refine Below.drew ?_))⟩
          case measure => simp [intOf]; omega
    · go_wp2_with fail
      refine (ex_any _).mono ?_
      rintro e wz ⟨rfl, hbz⟩
      have hBE : Below w.heap.size w wz := bstep hbz (bstep hbw hB5)
      go_wp2
      go_ret
      exact ⟨rfl, hBE⟩
end Go.Proofs.Ytnefnnhnjmmebaa
