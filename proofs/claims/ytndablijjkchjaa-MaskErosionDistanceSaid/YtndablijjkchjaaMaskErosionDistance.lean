/- MaskErosionDistance: for every mask and radius the law grisaillelaw21.MaskErosionDistance returns true. No conditions. -/
import Derived.Test.YtndablijjkchjaaMorE
import Derived.Test.YtndablijjkchjaaDt4
import Derived.Test.YtndablijjkchjaaEx21
import Derived.Test.YtndablijjkchjaaOpenM
import Derived.Test.YtndablijjkchjaaPlB
namespace Go.Proofs.Ytndablijjkchjaa
open Go.ChangeShapes Go.WideShapes Go.ChangeAt Go.RowKit
set_option linter.unusedSimpArgs false
set_option linter.unusedVariables false

set_option maxRecDepth 100000 in
set_option maxHeartbeats 6400000 in
theorem walk_MaskErosionDistance (b : Mk) (n : Int) (w : World) (hb : b.ok w) (hn : 0 ≤ n ∧ n ≤ 255) :
    Calls Try.prog 12 #[.agg #[.int .i64 b.r.x0, .int .i64 b.r.y0, .int .i64 b.r.x1, .int .i64 b.r.y1, .slice b.A b.n b.c], .int .u8 n] w fun e w' => e = .returned (.bool true) ∧ Below w.heap.size w w' := by
  have HB := Lib.hid hb
  clear hb
  cases h1 : decide ((300 : Int) < (b.n : Int)) with
  | true =>
    go_enter Try.func12, Try.ntmps12
    go_wp2_with fail
    refine (ex_any _).mono ?_
    rintro e w1 ⟨rfl, hb1⟩
    go_wp2
    go_ret
    exact ⟨rfl, (by repeat (first | (with_reducible exact Below.refl _ _) | (with_reducible refine balloc ?_ _) | (with_reducible refine Below.drew ?_) | (with_reducible refine bdrewN ?_ _) | ((with_reducible refine bset ?_ ?_ _); rotate_left; focus (first | (with_reducible exact Nat.le_refl _) | (simp; done) | (simp; omega) | omega)) | (with_reducible refine bstep (by with_reducible assumption) ?_)))⟩
  | false =>
    have l1 := of_decide_eq_false h1
    cases h2 : mkValid b.r b.l with
    | false =>
      have Hvb := Lib.hid h2
      clear h2
      go_enter Try.func12, Try.ntmps12
      go_wp2_with fail
      refine (rmvalid_any b.r b.A b.n b.c b.l _ (HB.out.rd.below (by repeat (first | (with_reducible exact Below.refl _ _) | (with_reducible refine balloc ?_ _) | (with_reducible refine Below.drew ?_) | (with_reducible refine bdrewN ?_ _) | ((with_reducible refine bset ?_ ?_ _); rotate_left; focus (first | (with_reducible exact Nat.le_refl _) | (simp; done) | (simp; omega) | omega)) | (with_reducible refine bstep (by with_reducible assumption) ?_)))) HB.out.ln (by omega) false Hvb).mono ?_
      rintro e w1 ⟨rfl, hb1⟩
      go_wp2_with fail
      refine (ex_any _).mono ?_
      rintro e w2 ⟨rfl, hb2⟩
      go_wp2
      go_ret
      exact ⟨rfl, (by repeat (first | (with_reducible exact Below.refl _ _) | (with_reducible refine balloc ?_ _) | (with_reducible refine Below.drew ?_) | (with_reducible refine bdrewN ?_ _) | ((with_reducible refine bset ?_ ?_ _); rotate_left; focus (first | (with_reducible exact Nat.le_refl _) | (simp; done) | (simp; omega) | omega)) | (with_reducible refine bstep (by with_reducible assumption) ?_)))⟩
    | true =>
      have Hvb := Lib.hid h2
      have hv : vMk b = true := h2
      obtain ⟨k, hk⟩ : ∃ k : Nat, n % 65 = (k : Int) := ⟨(n % 65).toNat, by omega⟩
      have hk1 : k ≤ 64 := by omega
      have hk2 : n.tmod 65 = (k : Int) := by rw [Int.tmod_eq_emod_of_nonneg hn.1]; exact hk
      obtain ⟨hlen, _, _, _, _⟩ := grid_dim hv
      obtain ⟨F, HDD⟩ : ∃ u, Hid (dtL b = u) := ⟨_, rfl⟩
      obtain ⟨E, HEE⟩ : ∃ u, Hid (exM (-1) b (k : Int) = u) := ⟨_, rfl⟩
      have hxv : exV b (k : Int) = true := by unfold exV; rw [hv, decide_eq_true (by omega), decide_eq_true (by omega)]; rfl
      have hE : E = exL (-1) (wdB b) (htB b) k b.l := by rw [← HEE.out]; unfold exM; rw [hxv, Int.toNat_natCast]; rfl
      have hF : F = dtP (wdB b) (htB b) b.l := by rw [← HDD.out]; unfold dtL; rw [hv]; rfl
      have HnD : Hid (F.length = b.n) := by unfold Hid; rw [← HDD.out, (dtL_ok hv HB.out.byte).len, ← hlen]; exact HB.out.ln
      have HnE : Hid (E.length = b.n) := by unfold Hid; rw [hE, exL_len, ← HB.out.ln, hlen, Nat.mul_comm]
      have HDB : Hid (∀ x ∈ F, 0 ≤ x ∧ x ≤ 255) := by unfold Hid; rw [← HDD.out]; exact (dtL_ok hv HB.out.byte).byte
      have HSV : Hid (∀ i (h1 : i < E.length) (h2 : i < F.length), 0 < E[i] ↔ (k : Int) < F[i]) := by
        unfold Hid
        intro i h1 h2
        obtain ⟨x, y, hx, hy, he⟩ := idx_of (wd := wdB b) (ht := htB b) (k := i) (by have := HnE.out; rw [hE, exL_len] at h1; exact h1)
        have h3 := ex_dist (n := k) (by omega) hlen HB.out.byte hx hy
        rw [← hE, ← hF] at h3
        unfold gF at h3
        rw [List.getD_eq_getElem?_getD, List.getD_eq_getElem?_getD, ← he, List.getElem?_eq_getElem h1, List.getElem?_eq_getElem h2] at h3
        exact h3
      have HD : Hid (∀ (W : World), b.ok W → Calls Try.prog 41 #[.agg #[.int .i64 b.r.x0, .int .i64 b.r.y0, .int .i64 b.r.x1, .int .i64 b.r.y1, .slice b.A b.n b.c]] W (RetME b.r F 0 W)) := fun W h => by
        have := dt_any b W h (by omega)
        rw [HDD.out, show mpR b = b.r by unfold mpR; rw [hv]; rfl, show mpE b = 0 by unfold mpE; rw [hv]; rfl] at this
        exact this
      have HE : Hid (∀ (W : World), b.ok W → Calls Try.prog 43 #[.agg #[.int .i64 b.r.x0, .int .i64 b.r.y0, .int .i64 b.r.x1, .int .i64 b.r.y1, .slice b.A b.n b.c], .int .i64 (k : Int)] W (RetME b.r E 0 W)) := fun W h => by
        have := erode_any b (k : Int) W h (by omega)
        rw [HEE.out, show exR b (k : Int) = b.r by unfold exR; rw [hxv]; rfl, show exE b (k : Int) = 0 by unfold exE; rw [hv, hxv]; rfl] at this
        exact this
      clear h2 hv hxv hE hF hk hlen
      go_enter Try.func12, Try.ntmps12
      go_wp2_with fail
      refine (rmvalid_any b.r b.A b.n b.c b.l _ (HB.out.rd.below (by repeat (first | (with_reducible exact Below.refl _ _) | (with_reducible refine balloc ?_ _) | (with_reducible refine Below.drew ?_) | (with_reducible refine bdrewN ?_ _) | ((with_reducible refine bset ?_ ?_ _); rotate_left; focus (first | (with_reducible exact Nat.le_refl _) | (simp; done) | (simp; omega) | omega)) | (with_reducible refine bstep (by with_reducible assumption) ?_)))) HB.out.ln (by omega) true Hvb).mono ?_
      rintro e w1 ⟨rfl, hb1⟩
      have kA1 : Bk w1 (w.heap.size) 29 #[.int .i64 b.r.x0, .int .i64 b.r.y0, .int .i64 b.r.x1, .int .i64 b.r.y1, .slice b.A b.n b.c] := (by repeat (first | (with_reducible assumption) | ((with_reducible refine Bk.new _ _ _ ?_); first | (with_reducible rfl) | (simp; done)) | (with_reducible refine Bk.alloc ?_ _) | (with_reducible refine Bk.drew ?_) | (with_reducible refine Bk.drewN ?_ _) | ((with_reducible refine Bk.far ?_ ?_ _); rotate_left; focus (first | (simp; done) | (simp; omega))) | (with_reducible refine Bk.below ?_ (by with_reducible assumption)))); obtain ⟨kcA1, kfA1, kaA1, kgA1, klA1⟩ := kA1.rules
      go_wp2_with fail
      refine (HE.out _ (HB.out.below (by repeat (first | (with_reducible exact Below.refl _ _) | (with_reducible refine balloc ?_ _) | (with_reducible refine Below.drew ?_) | (with_reducible refine bdrewN ?_ _) | ((with_reducible refine bset ?_ ?_ _); rotate_left; focus (first | (with_reducible exact Nat.le_refl _) | (simp; done) | (simp; omega) | omega)) | (with_reducible refine bstep (by with_reducible assumption) ?_))))).mono ?_
      rintro e w2 ⟨v2, rfl, ho2, hb2⟩
      clear kcA1 kfA1 kaA1 kgA1
      have kA2 : Bk w2 (w.heap.size) 29 #[.int .i64 b.r.x0, .int .i64 b.r.y0, .int .i64 b.r.x1, .int .i64 b.r.y1, .slice b.A b.n b.c] := (by repeat (first | (with_reducible assumption) | ((with_reducible refine Bk.new _ _ _ ?_); first | (with_reducible rfl) | (simp; done)) | (with_reducible refine Bk.alloc ?_ _) | (with_reducible refine Bk.drew ?_) | (with_reducible refine Bk.drewN ?_ _) | ((with_reducible refine Bk.far ?_ ?_ _); rotate_left; focus (first | (simp; done) | (simp; omega))) | (with_reducible refine Bk.below ?_ (by with_reducible assumption)))); obtain ⟨kcA2, kfA2, kaA2, kgA2, klA2⟩ := kA2.rules
      obtain ⟨A2, c2, hv2, hr2, _⟩ := ho2.form encB_len
      rw [HnE.out] at hv2
      subst hv2
      have HR2 := Lib.hid hr2
      clear hr2
      clear ho2
      
      go_wp2_with fail
      refine (HD.out _ (HB.out.below (by repeat (first | (with_reducible exact Below.refl _ _) | (with_reducible refine balloc ?_ _) | (with_reducible refine Below.drew ?_) | (with_reducible refine bdrewN ?_ _) | ((with_reducible refine bset ?_ ?_ _); rotate_left; focus (first | (with_reducible exact Nat.le_refl _) | (simp; done) | (simp; omega) | omega)) | (with_reducible refine bstep (by with_reducible assumption) ?_))))).mono ?_
      rintro e w3 ⟨v3, rfl, ho3, hb3⟩
      clear kcA2 kfA2 kaA2 kgA2
      have kA3 : Bk w3 (w.heap.size) 29 #[.int .i64 b.r.x0, .int .i64 b.r.y0, .int .i64 b.r.x1, .int .i64 b.r.y1, .slice b.A b.n b.c] := (by repeat (first | (with_reducible assumption) | ((with_reducible refine Bk.new _ _ _ ?_); first | (with_reducible rfl) | (simp; done)) | (with_reducible refine Bk.alloc ?_ _) | (with_reducible refine Bk.drew ?_) | (with_reducible refine Bk.drewN ?_ _) | ((with_reducible refine Bk.far ?_ ?_ _); rotate_left; focus (first | (simp; done) | (simp; omega))) | (with_reducible refine Bk.below ?_ (by with_reducible assumption)))); obtain ⟨kcA3, kfA3, kaA3, kgA3, klA3⟩ := kA3.rules; have kE3 : Bk w3 (w2.heap.size) 29 #[.int .i64 b.r.x0, .int .i64 b.r.y0, .int .i64 b.r.x1, .int .i64 b.r.y1, .slice A2 b.n c2] := (by repeat (first | (with_reducible assumption) | ((with_reducible refine Bk.new _ _ _ ?_); first | (with_reducible rfl) | (simp; done)) | (with_reducible refine Bk.alloc ?_ _) | (with_reducible refine Bk.drew ?_) | (with_reducible refine Bk.drewN ?_ _) | ((with_reducible refine Bk.far ?_ ?_ _); rotate_left; focus (first | (simp; done) | (simp; omega))) | (with_reducible refine Bk.below ?_ (by with_reducible assumption)))); obtain ⟨kcE3, kfE3, kaE3, kgE3, klE3⟩ := kE3.rules
      obtain ⟨A3, c3, hv3, hr3, _⟩ := ho3.form encB_len
      rw [HnD.out] at hv3
      subst hv3
      have HR3 := Lib.hid hr3
      clear hr3
      clear ho3
      
      have kA : Bk (w3.alloc (.cells #[.int .i64 b.r.x0, .int .i64 b.r.y0, .int .i64 b.r.x1, .int .i64 b.r.y1, .slice A3 b.n c3] 29)) w.heap.size 29 #[.int .i64 b.r.x0, .int .i64 b.r.y0, .int .i64 b.r.x1, .int .i64 b.r.y1, .slice b.A b.n b.c] := (by repeat (first | (with_reducible assumption) | ((with_reducible refine Bk.new _ _ _ ?_); first | (with_reducible rfl) | (simp; done)) | (with_reducible refine Bk.alloc ?_ _) | (with_reducible refine Bk.drew ?_) | (with_reducible refine Bk.drewN ?_ _) | ((with_reducible refine Bk.far ?_ ?_ _); rotate_left; focus (first | (simp; done) | (simp; omega))) | (with_reducible refine Bk.below ?_ (by with_reducible assumption))))
      have kE : Bk (w3.alloc (.cells #[.int .i64 b.r.x0, .int .i64 b.r.y0, .int .i64 b.r.x1, .int .i64 b.r.y1, .slice A3 b.n c3] 29)) w2.heap.size 29 #[.int .i64 b.r.x0, .int .i64 b.r.y0, .int .i64 b.r.x1, .int .i64 b.r.y1, .slice A2 b.n c2] := (by repeat (first | (with_reducible assumption) | ((with_reducible refine Bk.new _ _ _ ?_); first | (with_reducible rfl) | (simp; done)) | (with_reducible refine Bk.alloc ?_ _) | (with_reducible refine Bk.drew ?_) | (with_reducible refine Bk.drewN ?_ _) | ((with_reducible refine Bk.far ?_ ?_ _); rotate_left; focus (first | (simp; done) | (simp; omega))) | (with_reducible refine Bk.below ?_ (by with_reducible assumption))))
      have kF : Bk (w3.alloc (.cells #[.int .i64 b.r.x0, .int .i64 b.r.y0, .int .i64 b.r.x1, .int .i64 b.r.y1, .slice A3 b.n c3] 29)) w3.heap.size 29 #[.int .i64 b.r.x0, .int .i64 b.r.y0, .int .i64 b.r.x1, .int .i64 b.r.y1, .slice A3 b.n c3] := (by repeat (first | (with_reducible assumption) | ((with_reducible refine Bk.new _ _ _ ?_); first | (with_reducible rfl) | (simp; done)) | (with_reducible refine Bk.alloc ?_ _) | (with_reducible refine Bk.drew ?_) | (with_reducible refine Bk.drewN ?_ _) | ((with_reducible refine Bk.far ?_ ?_ _); rotate_left; focus (first | (simp; done) | (simp; omega))) | (with_reducible refine Bk.below ?_ (by with_reducible assumption))))
      have hrE : RdL encB 1 (w3.alloc (.cells #[.int .i64 b.r.x0, .int .i64 b.r.y0, .int .i64 b.r.x1, .int .i64 b.r.y1, .slice A3 b.n c3] 29)) A2 E := HR2.out.below (by repeat (first | (with_reducible exact Below.refl _ _) | (with_reducible refine balloc ?_ _) | (with_reducible refine Below.drew ?_) | (with_reducible refine bdrewN ?_ _) | ((with_reducible refine bset ?_ ?_ _); rotate_left; focus (first | (with_reducible exact Nat.le_refl _) | (simp; done) | (simp; omega) | omega)) | (with_reducible refine bstep (by with_reducible assumption) ?_)))
      have hrF : RdL encB 1 (w3.alloc (.cells #[.int .i64 b.r.x0, .int .i64 b.r.y0, .int .i64 b.r.x1, .int .i64 b.r.y1, .slice A3 b.n c3] 29)) A3 F := HR3.out.below (by repeat (first | (with_reducible exact Below.refl _ _) | (with_reducible refine balloc ?_ _) | (with_reducible refine Below.drew ?_) | (with_reducible refine bdrewN ?_ _) | ((with_reducible refine bset ?_ ?_ _); rotate_left; focus (first | (with_reducible exact Nat.le_refl _) | (simp; done) | (simp; omega) | omega)) | (with_reducible refine bstep (by with_reducible assumption) ?_)))
      have HXE := Lib.hid hrE
      have HXF := Lib.hid hrF
      have hBW : Below w.heap.size w (w3.alloc (.cells #[.int .i64 b.r.x0, .int .i64 b.r.y0, .int .i64 b.r.x1, .int .i64 b.r.y1, .slice A3 b.n c3] 29)) := (by repeat (first | (with_reducible exact Below.refl _ _) | (with_reducible refine balloc ?_ _) | (with_reducible refine Below.drew ?_) | (with_reducible refine bdrewN ?_ _) | ((with_reducible refine bset ?_ ?_ _); rotate_left; focus (first | (with_reducible exact Nat.le_refl _) | (simp; done) | (simp; omega) | omega)) | (with_reducible refine bstep (by with_reducible assumption) ?_)))
      obtain ⟨kcE, kfE, kaE, kgE, klE⟩ := kE.rules
      obtain ⟨kcF, kfF, kaF, kgF, klF⟩ := kF.rules
      obtain ⟨kcA, kfA, kaA, kgA, klA⟩ := kA.rules
      clear hrE hrF HR2 HR3
      go_wp2_with fail
      clear kcA3 kfA3 kaA3 kgA3 kcE3 kfE3 kaE3 kgE3 kcA kfA kaA kgA kcE kfE kaE kgE kcF kfF kaF kgF
      obtain ⟨wl, hwl⟩ : ∃ u, (w3.alloc (.cells #[.int .i64 b.r.x0, .int .i64 b.r.y0, .int .i64 b.r.x1, .int .i64 b.r.y1, .slice A3 b.n c3] 29)) = u := ⟨_, rfl⟩
      rw [hwl] at kA kE kF HXE HXF hBW ⊢
      go_loopw [62] (fun i wr => ∃ (j : Nat), j ≤ b.n ∧ i = .int .i64 (j : Int) ∧ Below wl.heap.size wl wr) (fun i _ => b.n - (intOf i).toNat)
      case atStart => exact ⟨0, Nat.zero_le _, rfl, Below.refl _ _⟩
      case round =>
        obtain ⟨j, hj, rfl, hbw⟩ := hrel
        by_cases hlt : j < b.n
        · have hjE : j < E.length := by rw [HnE.out]; exact hlt
          have hjF : j < F.length := by rw [HnD.out]; exact hlt
          obtain ⟨gE, oE, hAE, hgE, hcE⟩ := rd1 (HXE.out.below hbw) hjE
          obtain ⟨gF', oF, hAF, hgF, hcF⟩ := rd1 (HXF.out.below hbw) hjF
          obtain ⟨p, Hp⟩ : ∃ p, Hid (E[j] = p) := ⟨E[j], rfl⟩
          obtain ⟨q, Hq⟩ : ∃ p, Hid (F[j] = p) := ⟨F[j], rfl⟩
          have hiff := HSV.out j hjE hjF
          have hqb := HDB.out _ (List.getElem_mem hjF)
          rw [Hp.out] at hcE hiff
          rw [Hq.out] at hcF hiff hqb
          have jE := kE.below hbw
          have jF := kF.below hbw
          rw [hAE] at jE
          rw [hAF] at jF
          have i0 : (0 : Int) ≤ (j : Int) := by omega
          have i1 : (j : Int) < (b.n : Int) := by omega
          obtain ⟨kcE, kfE, kaE, kgE, klE⟩ := jE.rules
          obtain ⟨kcF, kfF, kaF, kgF, klF⟩ := jF.rules
          have hwq : IntKind.i64.wrap q = q := IntWalk.i64_in _ (by omega)
          clear Hp Hq hAE hAF
          by_cases hp : 0 < p
          · have hq : (k : Int) < q := hiff.1 hp
            clear hiff
            go_wp2_with fail
            clear kcE kfE kaE kgE kcF kfF kaF kgF
            refine wp_region_gob 15 [(0, true), (1, true), (2, true), (3, true), (4, true), (5, true), (6, true), (7, true), (8, true), (9, true), (10, true), (11, true), (12, true), (13, true), (14, true)] (by kernel_rfl) (by kernel_rfl) (fun c a d v w h => by cases d <;> exact h) ?_
            repeat (first | (refine wpGo_pure (v := ?_) rfl rfl (fun w' hS => ?_) ?_; rotate_left; (· obtain ⟨kc0, kf0, ka0, kg0, kl0⟩ := (jE.below hS).rules; obtain ⟨kc1, kf1, ka1, kg1, kl1⟩ := (jF.below hS).rules; have hcE' := (hS.cell (p := ⟨gE, oE + j, none⟩) hgE).trans hcE; have hcF' := (hS.cell (p := ⟨gF', oF + j, none⟩) hgF).trans hcF; go_simp; exact rfl); (try simp only [Act.put, List.setIfInBounds_toArray, List.set_cons_zero, List.set_cons_succ])) | ((refine wpGo_skip rfl rfl ?_); (try simp only [Act.put, List.setIfInBounds_toArray, List.set_cons_zero, List.set_cons_succ])))
            refine wpGo_nil ?_
            simp only [List.drop_succ_cons, List.drop_zero]
            go_wp2
            go_roundw
            case rel => exact ⟨j + 1, by omega, by go_num, hbw.drew⟩
            case measure => simp [intOf]; omega
          · have hq : ¬ ((k : Int) < q) := fun h => hp (hiff.2 h)
            have hd1 : decide (0 < p) = false := decide_eq_false hp
            have hd2 : decide ((k : Int) < q) = false := decide_eq_false hq
            clear hiff hp hq
            go_wp2_with fail
            clear kcE kfE kaE kgE kcF kfF kaF kgF
            refine wp_region_gob 15 [(0, true), (1, true), (2, true), (3, true), (4, true), (5, true), (6, true), (7, true), (8, true), (9, true), (10, true), (11, true), (12, true), (13, true), (14, true)] (by kernel_rfl) (by kernel_rfl) (fun c a d v w h => by cases d <;> exact h) ?_
            repeat (first | (refine wpGo_pure (v := ?_) rfl rfl (fun w' hS => ?_) ?_; rotate_left; (· obtain ⟨kc0, kf0, ka0, kg0, kl0⟩ := (jE.below hS).rules; obtain ⟨kc1, kf1, ka1, kg1, kl1⟩ := (jF.below hS).rules; have hcE' := (hS.cell (p := ⟨gE, oE + j, none⟩) hgE).trans hcE; have hcF' := (hS.cell (p := ⟨gF', oF + j, none⟩) hgF).trans hcF; go_simp; exact rfl); (try simp only [Act.put, List.setIfInBounds_toArray, List.set_cons_zero, List.set_cons_succ])) | ((refine wpGo_skip rfl rfl ?_); (try simp only [Act.put, List.setIfInBounds_toArray, List.set_cons_zero, List.set_cons_succ])))
            refine wpGo_nil ?_
            simp only [List.drop_succ_cons, List.drop_zero]
            go_wp2
            go_roundw
            case rel => exact ⟨j + 1, by omega, by go_num, hbw.drew⟩
            case measure => simp [intOf]; omega
        · obtain rfl : j = b.n := by omega
          go_wp2_with fail
          refine (ex_any _).mono ?_
          rintro e wz ⟨rfl, hbz⟩
          have hBE : Below w.heap.size w wz := bstep hbz (bstep hbw hBW)
          go_wp2
          go_ret
          exact ⟨rfl, hBE⟩

set_option maxRecDepth 100000 in
theorem lifted_MaskErosionDistance (os : Os) (started : os.Started) (H : Type) (enc : TypeId × Value → H) :
    ReturnsInHanded {} Try.checked os 12 .any (Rows.maskErosionDistanceSpec.pre6 enc Try.prog Try.f12 Rows.maskErosionDistanceRow.domain false) (Rows.maskErosionDistanceSpec.post enc Try.prog Try.f12 false true false false) := by
  refine returnsInHanded_of_change (C := Try.checked) Try.own started (by kernel_rfl) Try.func12
    (ChangeSpec.witness6 (enc := enc) (C := Try.checked) false ⟨#[], #[.agg #[.int .i64 0, .int .i64 0, .int .i64 0, .int .i64 0, .slice none 0 0], .int .u8 0], []⟩ 8 (by kernel_rfl) (by kernel_rfl) (by kernel_rfl) (by kernel_rfl)) ?_
  intro W base args ds gs before hval0 hW hcnd _
  have hval : ∀ (j : Nat) t v, Try.f12.params[j]? = some t → args[j]? = some v → Value.okWide Try.prog W .any base t v := hval0
  have hW' := hW
  obtain ⟨p, q, hA0, hV, rfl, hfz, hnd⟩ := hW
  have hA : DataW.TrodAll enc Try.prog W 0 (fun _ => true) true Try.f12.params.toList args.toList ds p := hA0
  rw [Try.params12] at hA hval
  obtain ⟨v0, vs0, d0, ds0, p0, q0, hargs, rfl, rfl, h0, r0⟩ := trodAll_cons hA
  obtain ⟨v1, vs1, d1, ds1, p1, q1, rfl, rfl, rfl, h1, r1⟩ := trodAll_cons r0
  obtain ⟨rfl, rfl, rfl⟩ := trodAll_nil r1
  obtain rfl : args = #[v0, v1] := by cases args; simp_all
  obtain ⟨b0, rfl, ho0⟩ := openMk (hval 0 29 v0 rfl rfl) h0
  obtain ⟨x1, rfl, _, _, g1⟩ := open_int Try.underlying5 (hval 1 5 v1 rfl rfl) h1
  refine (walk_MaskErosionDistance b0 x1 W ho0 (bounds_u8 g1)).mono fun e W' ⟨he, hb⟩ => ?_
  subst he
  exact ⟨_, rfl, law_post (tb := 4) Try.laidOut (by kernel_rfl) hW' rfl rfl Try.underlying4 rfl rfl rfl hb⟩

theorem MaskErosionDistance_holds : Rows.MaskErosionDistanceSaid :=
  OpenClaim.holds_of_wide 12 Try.f12 rfl rfl rfl rfl rfl rfl rfl ⟨rfl, rfl, rfl, rfl, rfl⟩ rfl rfl rfl rfl rfl (by kernel_rfl) Try.func12 (by kernel_rfl)
    (of_decide_eq_true (by kernel_rfl)) (by unfold Func.isWrapper; first | (rw [if_pos (by decide +kernel)]; kernel_rfl) | (rw [if_neg (by decide +kernel)]; exact ⟨rfl, rfl⟩))
    (fun os started H enc _ => lifted_MaskErosionDistance os started H enc)
#print axioms MaskErosionDistance_holds
end Go.Proofs.Ytndablijjkchjaa
