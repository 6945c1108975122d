/- BitmapHistogram: for every bitmap the law grisaillelaw30.BitmapHistogram returns true. No conditions. -/
import Derived.Test.YtnefnnhnjmmebaaHist1
import Derived.Test.YtnefnnhnjmmebaaHist2
import Derived.Test.YtnefnnhnjmmebaaEx30
import Derived.Test.YtnefnnhnjmmebaaOpenB
import Derived.Test.YtnefnnhnjmmebaaOpen
namespace Go.Proofs.Ytnefnnhnjmmebaa
open Go.ChangeShapes Go.WideShapes Go.ChangeAt Go.RowKit
set_option linter.unusedSimpArgs false
set_option linter.unusedVariables false
theorem h_exec_load {w : World} {g : Nat} {F : Nat → Int} (h : Bk w g 37 (tabH F)) {a : Act} {x : Operand} (hx : a.eval x = .pointer (some ⟨g, 0, none⟩)) {dst : Option Tmp} {ty : TypeId} {pos : String} {aft : Array Edge} {gd : Option (Nat × Bool)} :
    (execOp a.eval ⟨dst, .load 37 x, ty, pos, aft, gd⟩).run Try.prog w = .ok (.value (.agg (tabH F))) w := by
  unfold execOp
  simp only [hx, Sem.run_bind, Sem.run_pure, h_run_load h, Result.andThen_ok]

set_option maxRecDepth 100000 in
set_option maxHeartbeats 6400000 in
theorem walk_BitmapHistogram (s : Bm) (w : World) (hs : s.ok w) :
    Calls Try.prog 4 #[.agg #[.int .i64 s.r.x0, .int .i64 s.r.y0, .int .i64 s.r.x1, .int .i64 s.r.y1, .slice s.A s.n s.c]] w fun e w' => e = .returned (.bool true) ∧ Below w.heap.size w w' := by
  have HS := Lib.hid hs
  clear hs
  cases h1 : decide (s.n ≤ 2000) with
  | false =>
    have HSM := Lib.hid h1
    clear h1
    go_enter Try.func4, Try.ntmps4
    go_wp2_with fail
    refine (small_any s.r s.A s.n s.c _ false HSM).mono ?_
    rintro e w1 ⟨rfl, hb1⟩
    go_wp2_with fail
    refine (ex_any _).mono ?_
    rintro e w2 ⟨rfl, hb2⟩
    go_wp2
    go_ret
    exact ⟨rfl, (by repeat (first | (with_reducible exact Below.refl _ _) | (with_reducible refine balloc ?_ _) | (with_reducible refine Below.drew ?_) | (with_reducible refine bdrewN ?_ _) | ((with_reducible refine bset ?_ ?_ _); rotate_left; focus (first | (with_reducible exact Nat.le_refl _) | (simp; done) | (simp; omega) | omega)) | (with_reducible refine bstep (by with_reducible assumption) ?_)))⟩
  | true =>
    have HSM := Lib.hid h1
    have l1 := of_decide_eq_true h1
    clear h1
    obtain ⟨F, HF⟩ : ∃ F, Hid (hiF s = F) := ⟨_, rfl⟩
    have HIN : Hid (inH F 8000) := by
      unfold Hid; rw [← HF.out]; unfold hiF hiL
      split
      · intro i; have h1 := hist_in s.l i; have h2 := HS.out.ln; omega
      · intro i; unfold zF; omega
    have hal := h_run_alloc
    have hz37 := h_zero
    have hsz := tab_size
    have hst : ∀ W : World, (storeCells ⟨W.heap.size, 0, none⟩ (tabH F).toList 0).run Try.prog (W.alloc (.cells (tabH zF) 37)) = .ok () (W.alloc (.cells (tabH F) 37)) := fun W => by
      rw [h_run_cells (Bk.new _ _ _ rfl), World.setRow_alloc_new]
    have HC1 : Hid (∀ (W : World), s.ok W → Calls Try.prog 19 #[.agg #[.int .i64 s.r.x0, .int .i64 s.r.y0, .int .i64 s.r.x1, .int .i64 s.r.y1, .slice s.A s.n s.c]] W fun e w' => e = .returned (.agg (tabH F)) ∧ Below W.heap.size W w') := fun W h => by
      have := hist_any s W h (by omega)
      rw [HF.out] at this
      exact this
    have HC2 : Hid (∀ (W : World), s.ok W → Calls Try.prog 20 #[.agg #[.int .i64 s.r.x0, .int .i64 s.r.y0, .int .i64 s.r.x1, .int .i64 s.r.y1, .slice s.A s.n s.c]] W fun e w' => e = .returned (.agg (tabH F)) ∧ Below W.heap.size W w') := fun W h => by
      have := rhist_any s W h (by omega)
      rw [HF.out] at this
      exact this
    cases vb : vBm s with
    | false =>
      have Hvb : Hid (bmValid s.r s.l = false) := vb
      clear vb
      go_enter Try.func4, Try.ntmps4
      go_wp2_with fail
      refine (small_any s.r s.A s.n s.c _ true HSM).mono ?_
      rintro e w1 ⟨rfl, hb1⟩
      have kS1 : Bk w1 (w.heap.size) 28 #[.int .i64 s.r.x0, .int .i64 s.r.y0, .int .i64 s.r.x1, .int .i64 s.r.y1, .slice s.A s.n s.c] := (by repeat (first | (with_reducible assumption) | ((with_reducible refine Bk.new _ _ _ ?_); first | (with_reducible rfl) | (simp; done)) | (with_reducible refine Bk.alloc ?_ _) | (with_reducible refine Bk.drew ?_) | (with_reducible refine Bk.drewN ?_ _) | ((with_reducible refine Bk.far ?_ ?_ _); rotate_left; focus (first | (simp; done) | (simp; omega))) | (with_reducible refine Bk.below ?_ (by with_reducible assumption)))); obtain ⟨kcS1, kfS1, kaS1, kgS1, klS1⟩ := kS1.rules
      go_wp2_with fail
      refine (HC1.out _ (HS.out.below (by repeat (first | (with_reducible exact Below.refl _ _) | (with_reducible refine balloc ?_ _) | (with_reducible refine Below.drew ?_) | (with_reducible refine bdrewN ?_ _) | ((with_reducible refine bset ?_ ?_ _); rotate_left; focus (first | (with_reducible exact Nat.le_refl _) | (simp; done) | (simp; omega) | omega)) | (with_reducible refine bstep (by with_reducible assumption) ?_))))).mono ?_
      rintro e w2 ⟨rfl, hb2⟩
      clear kcS1 kfS1 kaS1 kgS1
      have kS2 : Bk w2 (w.heap.size) 28 #[.int .i64 s.r.x0, .int .i64 s.r.y0, .int .i64 s.r.x1, .int .i64 s.r.y1, .slice s.A s.n s.c] := (by repeat (first | (with_reducible assumption) | ((with_reducible refine Bk.new _ _ _ ?_); first | (with_reducible rfl) | (simp; done)) | (with_reducible refine Bk.alloc ?_ _) | (with_reducible refine Bk.drew ?_) | (with_reducible refine Bk.drewN ?_ _) | ((with_reducible refine Bk.far ?_ ?_ _); rotate_left; focus (first | (simp; done) | (simp; omega))) | (with_reducible refine Bk.below ?_ (by with_reducible assumption)))); obtain ⟨kcS2, kfS2, kaS2, kgS2, klS2⟩ := kS2.rules
      have kH2 : Bk (w2.alloc (.cells (tabH F) 37)) w2.heap.size 37 (tabH F) := Bk.new _ _ _ rfl
      have kS2a := kS2.alloc (.cells (tabH F) 37)
      have hW2 : Below w.heap.size w w2 := (by repeat (first | (with_reducible exact Below.refl _ _) | (with_reducible refine balloc ?_ _) | (with_reducible refine Below.drew ?_) | (with_reducible refine bdrewN ?_ _) | ((with_reducible refine bset ?_ ?_ _); rotate_left; focus (first | (with_reducible exact Nat.le_refl _) | (simp; done) | (simp; omega) | omega)) | (with_reducible refine bstep (by with_reducible assumption) ?_)))
      have lS := kS2.lt
      have hW2a := balloc hW2 (.cells (tabH F) 37)
      go_wp2_with fail
      clear kcS2 kfS2 kaS2 kgS2
      refine wp_region_gob 4 [(0, true), (1, true), (2, false), (3, true)] (by kernel_rfl) (by kernel_rfl) (fun c a d v w h => by cases d <;> exact h) ?_
      refine wpGo_pure (v := .agg (tabH F)) rfl rfl (fun w' hS => h_exec_load (kH2.below hS) rfl) ?_
      try simp only [Act.put, List.setIfInBounds_toArray, List.set_cons_zero, List.set_cons_succ]
      repeat (first | (refine wpGo_pure (v := ?_) rfl rfl (fun w' hS => ?_) ?_; rotate_left; (· obtain ⟨kc0, kf0, ka0, kg0, kl0⟩ := (kS2a.below hS).rules; go_simp; exact rfl); (try simp only [Act.put, List.setIfInBounds_toArray, List.set_cons_zero, List.set_cons_succ])) | ((refine wpGo_skip rfl rfl ?_); (try simp only [Act.put, List.setIfInBounds_toArray, List.set_cons_zero, List.set_cons_succ])))
      refine wpGo_eff rfl (fun K hK => ?_)
      go_simp
      refine (HC2.out _ (HS.out.below (bstep (by repeat (first | (with_reducible exact Below.refl _ _) | (with_reducible refine balloc ?_ _) | (with_reducible refine Below.drew ?_) | (with_reducible refine bdrewN ?_ _) | ((with_reducible refine bset ?_ ?_ _); rotate_left; focus (first | (with_reducible exact Nat.le_refl _) | (simp; done) | (simp; omega) | omega)) | (with_reducible refine bstep (by with_reducible assumption) ?_))) hW2a))).mono ?_
      rintro e w3 ⟨rfl, hb3⟩
      refine hK.out _ _ (by repeat (first | (with_reducible exact Below.refl _ _) | (with_reducible refine balloc ?_ _) | (with_reducible refine Below.drew ?_) | (with_reducible refine bdrewN ?_ _) | ((with_reducible refine bset ?_ ?_ _); rotate_left; focus (first | (with_reducible exact Nat.le_refl _) | (simp; done) | (simp; omega) | omega)) | (with_reducible refine bstep (by with_reducible assumption) ?_))) (fun hS3 => ?_)
      clear hK K
      repeat (first | (refine wpGo_pure (v := ?_) rfl rfl (fun w' hS => ?_) ?_; rotate_left; (· have hnq := h_neq F; have hgd := h_guard; go_simp; exact rfl); (try simp only [Act.put, List.setIfInBounds_toArray, List.set_cons_zero, List.set_cons_succ])) | ((refine wpGo_skip rfl rfl ?_); (try simp only [Act.put, List.setIfInBounds_toArray, List.set_cons_zero, List.set_cons_succ])))
      refine wpGo_nil ?_
      simp only [List.drop_succ_cons, List.drop_zero]
      have kH3 : Bk w3 w2.heap.size 37 (tabH F) := kH2.below hS3
      have kS3 := kS2a.below hS3
      have hW3 : Below w.heap.size w w3 := bstep hS3 hW2a
      clear kH2 kS2 kS2a hW2 hW2a hb1 hb2 hS3 hb3 hal hst
      go_wp2_with fail
      obtain ⟨gH, hgH⟩ : ∃ g, w2.heap.size = g := ⟨_, rfl⟩
      rw [hgH] at kH3 ⊢
      go_loopw [17] (fun i wr => ∃ c : Nat, c ≤ 4 ∧ i = .int .i64 (c : Int) ∧ Below w3.heap.size w3 wr) (fun i _ => 4 - (intOf i).toNat)
      case atStart => exact ⟨0, Nat.zero_le _, rfl, Below.refl _ _⟩
      case round =>
        obtain ⟨c, hc, rfl, hbw⟩ := hrel
        by_cases hlt : c < 4
        · go_wp2_with fail
          go_loopw [20, 5] (fun i u wr => ∃ v : Nat, v ≤ 256 ∧ i = .int .i64 (v : Int) ∧ u = .int .i64 (rowT F c v) ∧ Below w3.heap.size w3 wr) (fun i _ _ => 256 - (intOf i).toNat)
          case atStart => exact ⟨0, Nat.zero_le _, rfl, rfl, hbw⟩
          case round =>
            clear hbw
            obtain ⟨v, hv, rfl, rfl, hbw⟩ := hrel
            have jS := kS3.below hbw
            have jH := kH3.below hbw
            have hrt := rowT_in HIN.out c v
            have hrb : 0 ≤ rowT F c v ∧ rowT F c v ≤ 100000000 := by
              have h1 : (v : Int) * ((8000 : Nat) : Int) ≤ 256 * 8000 := by omega
              omega
            by_cases hlv : v < 256
            · have hcell : (tabH F)[c * 256 + v]? = some (.int .i64 (F (c * 256 + v))) := tab_get _ (by omega)
              have hfb := HIN.out (c * 256 + v)
              have hsu : rowT F c v + F (c * 256 + v) = rowT F c (v + 1) := rfl
              have i0 : (0 : Int) ≤ (v : Int) := by omega
              have i1 : (v : Int) < 256 := by omega
              have i2 : (0 : Int) ≤ (c : Int) := by omega
              have i3 : (c : Int) < 4 := by omega
              obtain ⟨q, hq⟩ : ∃ q, F (c * 256 + v) = q := ⟨_, rfl⟩
              obtain ⟨r, hr⟩ : ∃ q, rowT F c v = q := ⟨_, rfl⟩
              have HSU := Lib.hid hsu
              rw [hq] at hcell hfb HSU
              rw [hr] at HSU hrb ⊢
              obtain ⟨kcH, kfH, kaH, kgH, klH⟩ := jH.rules
              clear hrt hsu hq hr
              go_wp2
              go_roundw
              case rel => exact ⟨v + 1, by omega, by go_num, by rw [HSU.out], hbw⟩
              case measure => simp [intOf]; omega
            · obtain rfl : v = 256 := by omega
              obtain ⟨r, hr⟩ : ∃ q, rowT F c 256 = q := ⟨_, rfl⟩
              have HRR := Lib.hid hr
              rw [hr] at hrb ⊢
              skip
              obtain ⟨kcS, kfS, kaS, kgS, klS⟩ := jS.rules
              clear hrt hr
              go_wp2_with fail
              refine (rbvalid_any s.r s.A s.n s.c s.l _ (HS.out.rd.below (bstep hbw hW3)) HS.out.ln (by omega) false Hvb).mono ?_
              rintro e w4 ⟨rfl, hb4⟩
              have hB4 := bstep hb4 hbw
              have jS4 := jS.below hb4
              clear kcS kfS kaS kgS klS
              obtain ⟨kcS, kfS, kaS, kgS, klS⟩ := jS4.rules
              go_wp2
              go_roundw
              case rel => exact ⟨c + 1, by omega, by go_num, hB4⟩
              case measure => simp [intOf]; omega
        · obtain rfl : c = 4 := by omega
          go_wp2_with fail
          refine (ex_any _).mono ?_
          rintro e w5 ⟨rfl, hb5⟩
          have hBE := bstep hb5 (bstep hbw hW3)
          go_wp2
          go_ret
          exact ⟨rfl, hBE⟩
    | true =>
      have Hvb : Hid (bmValid s.r s.l = true) := vb
      have HSU0 : Hid (∀ c, c < 4 → rowT F c 256 = (s.n : Int)) := by
        unfold Hid; intro c hc; rw [← HF.out]; unfold hiF hiL; rw [Hvb.out, if_pos rfl, hist_sum HS.out.byte hc, HS.out.ln]
      clear vb
      go_enter Try.func4, Try.ntmps4
      go_wp2_with fail
      refine (small_any s.r s.A s.n s.c _ true HSM).mono ?_
      rintro e w1 ⟨rfl, hb1⟩
      have kS1 : Bk w1 (w.heap.size) 28 #[.int .i64 s.r.x0, .int .i64 s.r.y0, .int .i64 s.r.x1, .int .i64 s.r.y1, .slice s.A s.n s.c] := (by repeat (first | (with_reducible assumption) | ((with_reducible refine Bk.new _ _ _ ?_); first | (with_reducible rfl) | (simp; done)) | (with_reducible refine Bk.alloc ?_ _) | (with_reducible refine Bk.drew ?_) | (with_reducible refine Bk.drewN ?_ _) | ((with_reducible refine Bk.far ?_ ?_ _); rotate_left; focus (first | (simp; done) | (simp; omega))) | (with_reducible refine Bk.below ?_ (by with_reducible assumption)))); obtain ⟨kcS1, kfS1, kaS1, kgS1, klS1⟩ := kS1.rules
      go_wp2_with fail
      refine (HC1.out _ (HS.out.below (by repeat (first | (with_reducible exact Below.refl _ _) | (with_reducible refine balloc ?_ _) | (with_reducible refine Below.drew ?_) | (with_reducible refine bdrewN ?_ _) | ((with_reducible refine bset ?_ ?_ _); rotate_left; focus (first | (with_reducible exact Nat.le_refl _) | (simp; done) | (simp; omega) | omega)) | (with_reducible refine bstep (by with_reducible assumption) ?_))))).mono ?_
      rintro e w2 ⟨rfl, hb2⟩
      clear kcS1 kfS1 kaS1 kgS1
      have kS2 : Bk w2 (w.heap.size) 28 #[.int .i64 s.r.x0, .int .i64 s.r.y0, .int .i64 s.r.x1, .int .i64 s.r.y1, .slice s.A s.n s.c] := (by repeat (first | (with_reducible assumption) | ((with_reducible refine Bk.new _ _ _ ?_); first | (with_reducible rfl) | (simp; done)) | (with_reducible refine Bk.alloc ?_ _) | (with_reducible refine Bk.drew ?_) | (with_reducible refine Bk.drewN ?_ _) | ((with_reducible refine Bk.far ?_ ?_ _); rotate_left; focus (first | (simp; done) | (simp; omega))) | (with_reducible refine Bk.below ?_ (by with_reducible assumption)))); obtain ⟨kcS2, kfS2, kaS2, kgS2, klS2⟩ := kS2.rules
      have kH2 : Bk (w2.alloc (.cells (tabH F) 37)) w2.heap.size 37 (tabH F) := Bk.new _ _ _ rfl
      have kS2a := kS2.alloc (.cells (tabH F) 37)
      have hW2 : Below w.heap.size w w2 := (by repeat (first | (with_reducible exact Below.refl _ _) | (with_reducible refine balloc ?_ _) | (with_reducible refine Below.drew ?_) | (with_reducible refine bdrewN ?_ _) | ((with_reducible refine bset ?_ ?_ _); rotate_left; focus (first | (with_reducible exact Nat.le_refl _) | (simp; done) | (simp; omega) | omega)) | (with_reducible refine bstep (by with_reducible assumption) ?_)))
      have lS := kS2.lt
      have hW2a := balloc hW2 (.cells (tabH F) 37)
      go_wp2_with fail
      clear kcS2 kfS2 kaS2 kgS2
      refine wp_region_gob 4 [(0, true), (1, true), (2, false), (3, true)] (by kernel_rfl) (by kernel_rfl) (fun c a d v w h => by cases d <;> exact h) ?_
      refine wpGo_pure (v := .agg (tabH F)) rfl rfl (fun w' hS => h_exec_load (kH2.below hS) rfl) ?_
      try simp only [Act.put, List.setIfInBounds_toArray, List.set_cons_zero, List.set_cons_succ]
      repeat (first | (refine wpGo_pure (v := ?_) rfl rfl (fun w' hS => ?_) ?_; rotate_left; (· obtain ⟨kc0, kf0, ka0, kg0, kl0⟩ := (kS2a.below hS).rules; go_simp; exact rfl); (try simp only [Act.put, List.setIfInBounds_toArray, List.set_cons_zero, List.set_cons_succ])) | ((refine wpGo_skip rfl rfl ?_); (try simp only [Act.put, List.setIfInBounds_toArray, List.set_cons_zero, List.set_cons_succ])))
      refine wpGo_eff rfl (fun K hK => ?_)
      go_simp
      refine (HC2.out _ (HS.out.below (bstep (by repeat (first | (with_reducible exact Below.refl _ _) | (with_reducible refine balloc ?_ _) | (with_reducible refine Below.drew ?_) | (with_reducible refine bdrewN ?_ _) | ((with_reducible refine bset ?_ ?_ _); rotate_left; focus (first | (with_reducible exact Nat.le_refl _) | (simp; done) | (simp; omega) | omega)) | (with_reducible refine bstep (by with_reducible assumption) ?_))) hW2a))).mono ?_
      rintro e w3 ⟨rfl, hb3⟩
      refine hK.out _ _ (by repeat (first | (with_reducible exact Below.refl _ _) | (with_reducible refine balloc ?_ _) | (with_reducible refine Below.drew ?_) | (with_reducible refine bdrewN ?_ _) | ((with_reducible refine bset ?_ ?_ _); rotate_left; focus (first | (with_reducible exact Nat.le_refl _) | (simp; done) | (simp; omega) | omega)) | (with_reducible refine bstep (by with_reducible assumption) ?_))) (fun hS3 => ?_)
      clear hK K
      repeat (first | (refine wpGo_pure (v := ?_) rfl rfl (fun w' hS => ?_) ?_; rotate_left; (· have hnq := h_neq F; have hgd := h_guard; go_simp; exact rfl); (try simp only [Act.put, List.setIfInBounds_toArray, List.set_cons_zero, List.set_cons_succ])) | ((refine wpGo_skip rfl rfl ?_); (try simp only [Act.put, List.setIfInBounds_toArray, List.set_cons_zero, List.set_cons_succ])))
      refine wpGo_nil ?_
      simp only [List.drop_succ_cons, List.drop_zero]
      have kH3 : Bk w3 w2.heap.size 37 (tabH F) := kH2.below hS3
      have kS3 := kS2a.below hS3
      have hW3 : Below w.heap.size w w3 := bstep hS3 hW2a
      clear kH2 kS2 kS2a hW2 hW2a hb1 hb2 hS3 hb3 hal hst
      go_wp2_with fail
      obtain ⟨gH, hgH⟩ : ∃ g, w2.heap.size = g := ⟨_, rfl⟩
      rw [hgH] at kH3 ⊢
      go_loopw [17] (fun i wr => ∃ c : Nat, c ≤ 4 ∧ i = .int .i64 (c : Int) ∧ Below w3.heap.size w3 wr) (fun i _ => 4 - (intOf i).toNat)
      case atStart => exact ⟨0, Nat.zero_le _, rfl, Below.refl _ _⟩
      case round =>
        obtain ⟨c, hc, rfl, hbw⟩ := hrel
        by_cases hlt : c < 4
        · go_wp2_with fail
          go_loopw [20, 5] (fun i u wr => ∃ v : Nat, v ≤ 256 ∧ i = .int .i64 (v : Int) ∧ u = .int .i64 (rowT F c v) ∧ Below w3.heap.size w3 wr) (fun i _ _ => 256 - (intOf i).toNat)
          case atStart => exact ⟨0, Nat.zero_le _, rfl, rfl, hbw⟩
          case round =>
            clear hbw
            obtain ⟨v, hv, rfl, rfl, hbw⟩ := hrel
            have jS := kS3.below hbw
            have jH := kH3.below hbw
            have hrt := rowT_in HIN.out c v
            have hrb : 0 ≤ rowT F c v ∧ rowT F c v ≤ 100000000 := by
              have h1 : (v : Int) * ((8000 : Nat) : Int) ≤ 256 * 8000 := by omega
              omega
            by_cases hlv : v < 256
            · have hcell : (tabH F)[c * 256 + v]? = some (.int .i64 (F (c * 256 + v))) := tab_get _ (by omega)
              have hfb := HIN.out (c * 256 + v)
              have hsu : rowT F c v + F (c * 256 + v) = rowT F c (v + 1) := rfl
              have i0 : (0 : Int) ≤ (v : Int) := by omega
              have i1 : (v : Int) < 256 := by omega
              have i2 : (0 : Int) ≤ (c : Int) := by omega
              have i3 : (c : Int) < 4 := by omega
              obtain ⟨q, hq⟩ : ∃ q, F (c * 256 + v) = q := ⟨_, rfl⟩
              obtain ⟨r, hr⟩ : ∃ q, rowT F c v = q := ⟨_, rfl⟩
              have HSU := Lib.hid hsu
              rw [hq] at hcell hfb HSU
              rw [hr] at HSU hrb ⊢
              obtain ⟨kcH, kfH, kaH, kgH, klH⟩ := jH.rules
              clear hrt hsu hq hr
              go_wp2
              go_roundw
              case rel => exact ⟨v + 1, by omega, by go_num, by rw [HSU.out], hbw⟩
              case measure => simp [intOf]; omega
            · obtain rfl : v = 256 := by omega
              obtain ⟨r, hr⟩ : ∃ q, rowT F c 256 = q := ⟨_, rfl⟩
              have HRR := Lib.hid hr
              rw [hr] at hrb ⊢
              have hrn : r = (s.n : Int) := by rw [← HRR.out]; exact HSU0.out c hlt
              obtain ⟨kcS, kfS, kaS, kgS, klS⟩ := jS.rules
              clear hrt hr
              go_wp2_with fail
              refine (rbvalid_any s.r s.A s.n s.c s.l _ (HS.out.rd.below (bstep hbw hW3)) HS.out.ln (by omega) true Hvb).mono ?_
              rintro e w4 ⟨rfl, hb4⟩
              have hB4 := bstep hb4 hbw
              have jS4 := jS.below hb4
              clear kcS kfS kaS kgS klS
              obtain ⟨kcS, kfS, kaS, kgS, klS⟩ := jS4.rules
              go_wp2
              go_roundw
              case rel => exact ⟨c + 1, by omega, by go_num, hB4⟩
              case measure => simp [intOf]; omega
        · obtain rfl : c = 4 := by omega
          go_wp2_with fail
          refine (ex_any _).mono ?_
          rintro e w5 ⟨rfl, hb5⟩
          have hBE := bstep hb5 (bstep hbw hW3)
          go_wp2
          go_ret
          exact ⟨rfl, hBE⟩

set_option maxRecDepth 100000 in
theorem lifted_BitmapHistogram (os : Os) (started : os.Started) (H : Type) (enc : TypeId × Value → H) :
    ReturnsInHanded {} Try.checked os 4 .any (Rows.bitmapHistogramSpec.pre6 enc Try.prog Try.f4 Rows.bitmapHistogramRow.domain false) (Rows.bitmapHistogramSpec.post enc Try.prog Try.f4 false true false false) := by
  refine returnsInHanded_of_change (C := Try.checked) Try.own started (by kernel_rfl) Try.func4
    (ChangeSpec.witness6 (enc := enc) (C := Try.checked) false ⟨#[], #[.agg #[.int .i64 0, .int .i64 0, .int .i64 0, .int .i64 0, .slice none 0 0]], []⟩ 8 (by kernel_rfl) (by kernel_rfl) (by kernel_rfl) (by kernel_rfl)) ?_
  intro W base args ds gs before hval0 hW hcnd _
  have hval : ∀ (j : Nat) t v, Try.f4.params[j]? = some t → args[j]? = some v → Value.okWide Try.prog W .any base t v := hval0
  have hW' := hW
  obtain ⟨p, q, hA0, hV, rfl, hfz, hnd⟩ := hW
  have hA : DataW.TrodAll enc Try.prog W 0 (fun _ => true) true Try.f4.params.toList args.toList ds p := hA0
  rw [Try.params4] at hA hval
  obtain ⟨v0, vs0, d0, ds0, p0, q0, hargs, rfl, rfl, h0, r0⟩ := trodAll_cons hA
  obtain ⟨rfl, rfl, rfl⟩ := trodAll_nil r0
  obtain rfl : args = #[v0] := by cases args; simp_all
  obtain ⟨b0, rfl, ho0⟩ := openBm (hval 0 28 v0 rfl rfl) h0
  refine (walk_BitmapHistogram b0 W ho0).mono fun e W' ⟨he, hb⟩ => ?_
  subst he
  exact ⟨_, rfl, law_post (tb := 4) Try.laidOut (by kernel_rfl) hW' rfl rfl Try.underlying4 rfl rfl rfl hb⟩

theorem BitmapHistogram_holds : Rows.BitmapHistogramSaid :=
  OpenClaim.holds_of_wide 4 Try.f4 rfl rfl rfl rfl rfl rfl rfl ⟨rfl, rfl, rfl, rfl, rfl⟩ rfl rfl rfl rfl rfl (by kernel_rfl) Try.func4 (by kernel_rfl)
    (of_decide_eq_true (by kernel_rfl)) (by unfold Func.isWrapper; first | (rw [if_pos (by decide +kernel)]; kernel_rfl) | (rw [if_neg (by decide +kernel)]; exact ⟨rfl, rfl⟩))
    (fun os started H enc _ => lifted_BitmapHistogram os started H enc)
#print axioms BitmapHistogram_holds
end Go.Proofs.Ytnefnnhnjmmebaa
