/-
  The walk of sums.window.
-/
import Derived.Test.YtnefnnhnjmmebaaSum1
import Derived.Test.YtnefnnhnjmmebaaPlC
namespace Go.Proofs.Ytnefnnhnjmmebaa
open Go.RowKit
set_option linter.unusedSimpArgs false
set_option linter.unusedVariables false


set_option maxRecDepth 100000 in
set_option maxHeartbeats 6400000 in
theorem window_any (L : List Px) (hL : ∀ p ∈ L, p.byte) (wd ht : Nat) (A : Option Addr) (nn c : Nat) (l : List Px) (x y n : Nat) (w : World) (hr : RdL encI 4 w A l) (hx : x < wd) (hy : y < ht) (hn : n ≤ 16) (hw : wd ≤ 8192) (hh : ht ≤ 8192) (hnn : l.length = nn) (ht0 : TabOk L wd ht l) (v : Px) (HV : Hid (win4 L wd ht x y n = v)) :
    Calls Try.prog 85 #[.agg #[.int .i64 (wd : Int), .int .i64 (ht : Int), .slice A nn c], .int .i64 (x : Int), .int .i64 (y : Int), .int .i64 (n : Int)] w fun e w' => e = .returned (.agg #[.int .i64 v.r, .int .i64 v.g, .int .i64 v.b, .int .i64 v.a]) ∧ Below w.heap.size w w' := by
  have hlen : nn = (wd + 1) * (ht + 1) := by rw [← hnn]; exact ht0.1
  obtain ⟨x1, hx1⟩ : ∃ x1, winA x n + winN wd x n = x1 := ⟨_, rfl⟩
  obtain ⟨y1, hy1⟩ : ∃ y1, winA y n + winN ht y n = y1 := ⟨_, rfl⟩
  have hwx := win_in (n := n) hx
  have hwy := win_in (n := n) hy
  rw [hx1] at hwx
  rw [hy1] at hwy
  have HE := HV.out
  rw [← win4_eq L wd ht x y n x1 y1 hx1 hy1] at HE
  have hA0 : winA x n = x - n := rfl
  have hB0 : winA y n = y - n := rfl
  generalize winA x n = x0 at *
  generalize winA y n = y0 at *
  have hx0w : x0 ≤ wd := by omega
  have hy0w : y0 ≤ ht := by omega
  have hx1w : x1 ≤ wd := by omega
  have hy1w : y1 ≤ ht := by omega
  have mx0 : max ((x : Int) - (n : Int)) 0 = (x0 : Int) := by omega
  have mx1 : min ((x : Int) + (n : Int) + 1) (wd : Int) = (x1 : Int) := by omega
  have my0 : max ((y : Int) - (n : Int)) 0 = (y0 : Int) := by omega
  have my1 : min ((y : Int) + (n : Int) + 1) (ht : Int) = (y1 : Int) := by omega
  have wx0 : IntKind.i64.wrap ((x : Int) - (n : Int)) = (x : Int) - (n : Int) := IntWalk.i64_in _ (by omega)
  have wx1 : IntKind.i64.wrap ((x : Int) + (n : Int)) = (x : Int) + (n : Int) := IntWalk.i64_in _ (by omega)
  have wx2 : IntKind.i64.wrap ((x : Int) + (n : Int) + 1) = (x : Int) + (n : Int) + 1 := IntWalk.i64_in _ (by omega)
  have wy0 : IntKind.i64.wrap ((y : Int) - (n : Int)) = (y : Int) - (n : Int) := IntWalk.i64_in _ (by omega)
  have wy1 : IntKind.i64.wrap ((y : Int) + (n : Int)) = (y : Int) + (n : Int) := IntWalk.i64_in _ (by omega)
  have wy2 : IntKind.i64.wrap ((y : Int) + (n : Int) + 1) = (y : Int) + (n : Int) + 1 := IntWalk.i64_in _ (by omega)
  obtain ⟨p, Hp⟩ : ∃ p, Hid (sum4 L wd x1 y1 = p) := ⟨_, rfl⟩
  obtain ⟨q, Hq⟩ : ∃ p, Hid (sum4 L wd x0 y1 = p) := ⟨_, rfl⟩
  obtain ⟨s, Hs⟩ : ∃ p, Hid (sum4 L wd x1 y0 = p) := ⟨_, rfl⟩
  obtain ⟨u, Hu⟩ : ∃ p, Hid (sum4 L wd x0 y0 = p) := ⟨_, rfl⟩
  have ip : p.in := by rw [← Hp.out]; exact sum4_in hL (by omega) (by omega)
  have iq : q.in := by rw [← Hq.out]; exact sum4_in hL (by omega) (by omega)
  have is : s.in := by rw [← Hs.out]; exact sum4_in hL (by omega) (by omega)
  have iu : u.in := by rw [← Hu.out]; exact sum4_in hL (by omega) (by omega)
  have gp : Hid (l[tix wd x1 y1]? = some p) := by unfold Hid; rw [ht0.2 _ _ hx1w hy1w, Hp.out]
  have gq : Hid (l[tix wd x0 y1]? = some q) := by unfold Hid; rw [ht0.2 _ _ hx0w hy1w, Hq.out]
  have gs : Hid (l[tix wd x1 y0]? = some s) := by unfold Hid; rw [ht0.2 _ _ hx1w hy0w, Hs.out]
  have gu : Hid (l[tix wd x0 y0]? = some u) := by unfold Hid; rw [ht0.2 _ _ hx0w hy0w, Hu.out]
  rw [Hp.out, Hq.out, Hs.out, Hu.out] at HE
  have HVE := Lib.hid HE
  have HR := Lib.hid hr
  have HIN := Lib.hid (And.intro ip (And.intro iq (And.intro is iu)))
  have hmx := max_if
  have hmn := min_if
  have HB := Lib.hid (And.intro hx0w (And.intro hy0w (And.intro hx1w hy1w)))
  have HLN := Lib.hid (And.intro hnn hlen)
  clear hnn hlen HE hr ip iq is iu ht0 hL HV hx1 hy1 hwx hwy hA0 hB0 hx0w hy0w hx1w hy1w hx hy
  go_enter Try.func85, Try.ntmps85
  go_wp2_with fail
  refine wp_region_gob 13 [(0, true), (1, true), (2, true), (3, true), (4, true), (5, true), (6, true), (7, true), (8, true), (9, true), (10, true), (11, true), (12, true)] (by kernel_rfl) (by kernel_rfl) (fun c a d v w h => by cases d <;> exact h) ?_
  repeat (first | (refine wpGo_pure (v := ?_) rfl rfl (fun w' hS => ?_) ?_; rotate_left; (· have kTp : Bk w' (w.heap.size) 98 #[.int .i64 (wd : Int), .int .i64 (ht : Int), .slice A nn c] := (by repeat (first | (with_reducible assumption) | ((with_reducible refine Bk.new _ _ _ ?_); first | (with_reducible rfl) | (simp; done)) | (with_reducible refine Bk.alloc ?_ _) | (with_reducible refine Bk.drew ?_) | (with_reducible refine Bk.drewN ?_ _) | ((with_reducible refine Bk.far ?_ ?_ _); rotate_left; focus (first | (simp; done) | (simp; omega))) | (with_reducible refine Bk.below ?_ (by with_reducible assumption)))); obtain ⟨kcTp, kfTp, kaTp, kgTp, klTp⟩ := kTp.rules; go_simp; exact rfl); (try simp only [Act.put, List.setIfInBounds_toArray, List.set_cons_zero, List.set_cons_succ])) | ((refine wpGo_skip rfl rfl ?_); (try simp only [Act.put, List.setIfInBounds_toArray, List.set_cons_zero, List.set_cons_succ])))
  refine wpGo_nil ?_
  simp only [List.drop_succ_cons, List.drop_zero]
  go_wp2_with fail
  refine wp_region_gob 13 [(0, true), (1, true), (2, true), (3, true), (4, true), (5, true), (6, true), (7, true), (8, true), (9, true), (10, true), (11, true), (12, true)] (by kernel_rfl) (by kernel_rfl) (fun c a d v w h => by cases d <;> exact h) ?_
  repeat (first | (refine wpGo_pure (v := ?_) rfl rfl (fun w' hS => ?_) ?_; rotate_left; (· have kTp : Bk w' (w.heap.size) 98 #[.int .i64 (wd : Int), .int .i64 (ht : Int), .slice A nn c] := (by repeat (first | (with_reducible assumption) | ((with_reducible refine Bk.new _ _ _ ?_); first | (with_reducible rfl) | (simp; done)) | (with_reducible refine Bk.alloc ?_ _) | (with_reducible refine Bk.drew ?_) | (with_reducible refine Bk.drewN ?_ _) | ((with_reducible refine Bk.far ?_ ?_ _); rotate_left; focus (first | (simp; done) | (simp; omega))) | (with_reducible refine Bk.below ?_ (by with_reducible assumption)))); obtain ⟨kcTp, kfTp, kaTp, kgTp, klTp⟩ := kTp.rules; go_simp; exact rfl); (try simp only [Act.put, List.setIfInBounds_toArray, List.set_cons_zero, List.set_cons_succ])) | ((refine wpGo_skip rfl rfl ?_); (try simp only [Act.put, List.setIfInBounds_toArray, List.set_cons_zero, List.set_cons_succ])))
  refine wpGo_nil ?_
  simp only [List.drop_succ_cons, List.drop_zero]
  go_wp2_with fail
  refine (tat_any wd ht A nn c l x1 y1 _ (HR.out.below (by repeat (first | (with_reducible exact Below.refl _ _) | (with_reducible refine balloc ?_ _) | (with_reducible refine Below.drew ?_) | (with_reducible refine bdrewN ?_ _) | ((with_reducible refine bset ?_ ?_ _); rotate_left; focus (first | (with_reducible exact Nat.le_refl _) | (simp; done) | (simp; omega) | omega)) | (with_reducible refine bstep (by with_reducible assumption) ?_)))) HB.out.2.2.1 HB.out.2.2.2 hw hh HLN.out.1 HLN.out.2 p gp).mono ?_
  rintro e w1 ⟨rfl, hb1⟩
  have jT : Bk w1 (w.heap.size) 98 #[.int .i64 (wd : Int), .int .i64 (ht : Int), .slice A nn c] := (by repeat (first | (with_reducible assumption) | ((with_reducible refine Bk.new _ _ _ ?_); first | (with_reducible rfl) | (simp; done)) | (with_reducible refine Bk.alloc ?_ _) | (with_reducible refine Bk.drew ?_) | (with_reducible refine Bk.drewN ?_ _) | ((with_reducible refine Bk.far ?_ ?_ _); rotate_left; focus (first | (simp; done) | (simp; omega))) | (with_reducible refine Bk.below ?_ (by with_reducible assumption))))
  have jO : Bk w1 (w.heap.size + 1) 81 #[.int .i64 0, .int .i64 0, .int .i64 0, .int .i64 0] := (by repeat (first | (with_reducible assumption) | ((with_reducible refine Bk.new _ _ _ ?_); first | (with_reducible rfl) | (simp; done)) | (with_reducible refine Bk.alloc ?_ _) | (with_reducible refine Bk.drew ?_) | (with_reducible refine Bk.drewN ?_ _) | ((with_reducible refine Bk.far ?_ ?_ _); rotate_left; focus (first | (simp; done) | (simp; omega))) | (with_reducible refine Bk.below ?_ (by with_reducible assumption))))
  have hB1 : Below w.heap.size w w1 := (by repeat (first | (with_reducible exact Below.refl _ _) | (with_reducible refine balloc ?_ _) | (with_reducible refine Below.drew ?_) | (with_reducible refine bdrewN ?_ _) | ((with_reducible refine bset ?_ ?_ _); rotate_left; focus (first | (with_reducible exact Nat.le_refl _) | (simp; done) | (simp; omega) | omega)) | (with_reducible refine bstep (by with_reducible assumption) ?_)))
  clear hb1
  go_wp2_with fail
  have kP := Bk.new w1 81 #[.int .i64 p.r, .int .i64 p.g, .int .i64 p.b, .int .i64 p.a] (g := w1.heap.size) rfl
  have kT := jT.alloc (.cells #[.int .i64 p.r, .int .i64 p.g, .int .i64 p.b, .int .i64 p.a] 81)
  have kO := jO.alloc (.cells #[.int .i64 p.r, .int .i64 p.g, .int .i64 p.b, .int .i64 p.a] 81)
  have hB2 := balloc hB1 (.cells #[.int .i64 p.r, .int .i64 p.g, .int .i64 p.b, .int .i64 p.a] 81)
  generalize w1.alloc (.cells #[.int .i64 p.r, .int .i64 p.g, .int .i64 p.b, .int .i64 p.a] 81) = w2 at *
  obtain ⟨bP, hbP⟩ : ∃ b, b = w1.heap.size := ⟨_, rfl⟩
  rw [← hbP] at kP ⊢
  have lP : w.heap.size + 1 < bP := by have := jO.lt; omega
  have sP := kP.lt
  have hR2 : Hid (RdL encI 4 w2 A l) := HR.out.below hB2
  clear jT jO hB1 hbP
  refine wp_region_mixs 18 [0, 1, 2, 4, 5, 6, 8, 9, 10] [3, 7, 11] [12, 13, 14] [15, 16, 17] (fun _ => 81) (fun _ => #[.int .i64 0, .int .i64 0, .int .i64 0, .int .i64 0]) (by kernel_rfl) (by kernel_rfl) (fun c a d v w h => by cases d <;> exact h) (fun c a d v w h => by cases d <;> exact h) (fun j hj => by simp only [List.mem_cons, List.not_mem_nil, or_false] at hj; rcases hj with rfl | rfl | rfl <;> exact ⟨_, rfl, rfl, fun a w => by go_simp; rfl⟩) ?_
  simp only [List.map_cons, List.map_nil]
  repeat (first | (refine wpGo_pure (v := ?_) rfl rfl (fun w' hS => ?_) ?_; rotate_left; (· have kTp : Bk w' (w.heap.size) 98 #[.int .i64 (wd : Int), .int .i64 (ht : Int), .slice A nn c] := (by repeat (first | (with_reducible assumption) | ((with_reducible refine Bk.new _ _ _ ?_); first | (with_reducible rfl) | (simp; done)) | (with_reducible refine Bk.alloc ?_ _) | (with_reducible refine Bk.drew ?_) | (with_reducible refine Bk.drewN ?_ _) | ((with_reducible refine Bk.far ?_ ?_ _); rotate_left; focus (first | (simp; done) | (simp; omega))) | (with_reducible refine Bk.below ?_ (by with_reducible assumption)))); obtain ⟨kcTp, kfTp, kaTp, kgTp, klTp⟩ := kTp.rules; go_simp; exact rfl); (try simp only [Act.put, List.setIfInBounds_toArray, List.set_cons_zero, List.set_cons_succ])) | ((refine wpGo_skip rfl rfl ?_); (try simp only [Act.put, List.setIfInBounds_toArray, List.set_cons_zero, List.set_cons_succ])))
  refine wpGo_nil ?_
  refine wpMix_call rfl (fun w10a hb10a K hK => ?_)
  go_simp
  refine (tat_any wd ht A nn c l x0 y1 _ (hR2.out.below (by show Below w2.heap.size w2 _; exact (by repeat (first | (with_reducible exact Below.refl _ _) | (with_reducible refine balloc ?_ _) | (with_reducible refine Below.drew ?_) | (with_reducible refine bdrewN ?_ _) | ((with_reducible refine bset ?_ ?_ _); rotate_left; focus (first | (with_reducible exact Nat.le_refl _) | (simp; done) | (simp; omega) | omega)) | (with_reducible refine bstep (by with_reducible assumption) ?_))))) HB.out.1 HB.out.2.2.2 hw hh HLN.out.1 HLN.out.2 q gq).mono ?_
  rintro e w10 ⟨rfl, hb10⟩
  refine hK.out _ _ hb10 (fun _ => ?_)
  clear hK K
  refine wpMix_call rfl (fun w11a hb11a K hK => ?_)
  go_simp
  refine (tat_any wd ht A nn c l x1 y0 _ (hR2.out.below (by show Below w2.heap.size w2 _; exact (by repeat (first | (with_reducible exact Below.refl _ _) | (with_reducible refine balloc ?_ _) | (with_reducible refine Below.drew ?_) | (with_reducible refine bdrewN ?_ _) | ((with_reducible refine bset ?_ ?_ _); rotate_left; focus (first | (with_reducible exact Nat.le_refl _) | (simp; done) | (simp; omega) | omega)) | (with_reducible refine bstep (by with_reducible assumption) ?_))))) HB.out.2.2.1 HB.out.2.1 hw hh HLN.out.1 HLN.out.2 s gs).mono ?_
  rintro e w11 ⟨rfl, hb11⟩
  refine hK.out _ _ hb11 (fun _ => ?_)
  clear hK K
  refine wpMix_call rfl (fun w12a hb12a K hK => ?_)
  go_simp
  refine (tat_any wd ht A nn c l x0 y0 _ (hR2.out.below (by show Below w2.heap.size w2 _; exact (by repeat (first | (with_reducible exact Below.refl _ _) | (with_reducible refine balloc ?_ _) | (with_reducible refine Below.drew ?_) | (with_reducible refine bdrewN ?_ _) | ((with_reducible refine bset ?_ ?_ _); rotate_left; focus (first | (with_reducible exact Nat.le_refl _) | (simp; done) | (simp; omega) | omega)) | (with_reducible refine bstep (by with_reducible assumption) ?_))))) HB.out.1 HB.out.2.1 hw hh HLN.out.1 HLN.out.2 u gu).mono ?_
  rintro e w12 ⟨rfl, hb12⟩
  refine hK.out _ _ hb12 (fun _ => ?_)
  clear hK K
  refine wpMix_end (fun β w13 hb13 hbk hne => ?_)
  obtain ⟨k12, l12⟩ := hbk 12 (by simp)
  obtain ⟨k13, l13⟩ := hbk 13 (by simp)
  obtain ⟨k14, l14⟩ := hbk 14 (by simp)
  have ne1213 := hne 12 (by simp) 13 (by simp) (by decide)
  have ne1214 := hne 12 (by simp) 14 (by simp) (by decide)
  have ne1314 := hne 13 (by simp) 14 (by simp) (by decide)
  clear hbk hne
  simp only [putAll, dstOf, ptrTo, List.foldl_cons, List.foldl_nil, List.getElem?_toArray, List.getElem?_cons_succ, List.getElem?_cons_zero, Option.bind_some, Act.put, List.setIfInBounds_toArray, List.set_cons_zero, List.set_cons_succ, List.drop_succ_cons, List.drop_zero]
  generalize β 12 = b12 at *
  generalize β 13 = b13 at *
  generalize β 14 = b14 at *
  clear β
  have m12 : bP < b12 := by have := l12; omega
  have m13 : bP < b13 := by have := l13; omega
  have m14 : bP < b14 := by have := l14; omega
  have nP : Bk w13 bP 81 #[.int .i64 p.r, .int .i64 p.g, .int .i64 p.b, .int .i64 p.a] := (by repeat (first | (with_reducible assumption) | ((with_reducible refine Bk.new _ _ _ ?_); first | (with_reducible rfl) | (simp; done)) | (with_reducible refine Bk.alloc ?_ _) | (with_reducible refine Bk.drew ?_) | (with_reducible refine Bk.drewN ?_ _) | ((with_reducible refine Bk.far ?_ ?_ _); rotate_left; focus (first | (simp; done) | (simp; omega))) | (with_reducible refine Bk.below ?_ (by with_reducible assumption))))
  have nO : Bk w13 (w.heap.size + 1) 81 #[.int .i64 0, .int .i64 0, .int .i64 0, .int .i64 0] := (by repeat (first | (with_reducible assumption) | ((with_reducible refine Bk.new _ _ _ ?_); first | (with_reducible rfl) | (simp; done)) | (with_reducible refine Bk.alloc ?_ _) | (with_reducible refine Bk.drew ?_) | (with_reducible refine Bk.drewN ?_ _) | ((with_reducible refine Bk.far ?_ ?_ _); rotate_left; focus (first | (simp; done) | (simp; omega))) | (with_reducible refine Bk.below ?_ (by with_reducible assumption))))
  have HW0 := Lib.hid (show Below w.heap.size w w13 from (by repeat (first | (with_reducible exact Below.refl _ _) | (with_reducible refine balloc ?_ _) | (with_reducible refine Below.drew ?_) | (with_reducible refine bdrewN ?_ _) | ((with_reducible refine bset ?_ ?_ _); rotate_left; focus (first | (with_reducible exact Nat.le_refl _) | (simp; done) | (simp; omega) | omega)) | (with_reducible refine bstep (by with_reducible assumption) ?_))))
  obtain ⟨kc6, kf6, ka6, kg6, kl6⟩ := k12.rules
  obtain ⟨kc7, kf7, ka7, kg7, kl7⟩ := k13.rules
  obtain ⟨kc8, kf8, ka8, kg8, kl8⟩ := k14.rules
  refine wpGo_eff rfl (fun K hK => ?_)
  go_simp
  refine hK.out _ _ (by repeat (first | (with_reducible exact Below.refl _ _) | (with_reducible refine balloc ?_ _) | (with_reducible refine Below.drew ?_) | (with_reducible refine bdrewN ?_ _) | ((with_reducible refine bset ?_ ?_ _); rotate_left; focus (first | (with_reducible exact Nat.le_refl _) | (simp; done) | (simp; omega) | omega)) | (with_reducible refine bstep (by with_reducible assumption) ?_))) (fun hS14 => ?_)
  clear hK K
  refine wpGo_eff rfl (fun K hK => ?_)
  go_simp
  refine hK.out _ _ (by repeat (first | (with_reducible exact Below.refl _ _) | (with_reducible refine balloc ?_ _) | (with_reducible refine Below.drew ?_) | (with_reducible refine bdrewN ?_ _) | ((with_reducible refine bset ?_ ?_ _); rotate_left; focus (first | (with_reducible exact Nat.le_refl _) | (simp; done) | (simp; omega) | omega)) | (with_reducible refine bstep (by with_reducible assumption) ?_))) (fun hS15 => ?_)
  clear hK K
  refine wpGo_eff rfl (fun K hK => ?_)
  go_simp
  refine hK.out _ _ (by repeat (first | (with_reducible exact Below.refl _ _) | (with_reducible refine balloc ?_ _) | (with_reducible refine Below.drew ?_) | (with_reducible refine bdrewN ?_ _) | ((with_reducible refine bset ?_ ?_ _); rotate_left; focus (first | (with_reducible exact Nat.le_refl _) | (simp; done) | (simp; omega) | omega)) | (with_reducible refine bstep (by with_reducible assumption) ?_))) (fun hS16 => ?_)
  clear hK K
  refine wpGo_nil ?_
  have hW0 := HW0.out
  have jP : Bk _ bP 81 #[.int .i64 p.r, .int .i64 p.g, .int .i64 p.b, .int .i64 p.a] := ((((((((((((nP.far (p := ⟨b12, 0, none⟩) (by simp; omega) (.int .i64 q.r)).far (p := ⟨b12, 1, none⟩) (by simp; omega) (.int .i64 q.g)).far (p := ⟨b12, 2, none⟩) (by simp; omega) (.int .i64 q.b)).far (p := ⟨b12, 3, none⟩) (by simp; omega) (.int .i64 q.a)).far (p := ⟨b13, 0, none⟩) (by simp; omega) (.int .i64 s.r)).far (p := ⟨b13, 1, none⟩) (by simp; omega) (.int .i64 s.g)).far (p := ⟨b13, 2, none⟩) (by simp; omega) (.int .i64 s.b)).far (p := ⟨b13, 3, none⟩) (by simp; omega) (.int .i64 s.a)).far (p := ⟨b14, 0, none⟩) (by simp; omega) (.int .i64 u.r)).far (p := ⟨b14, 1, none⟩) (by simp; omega) (.int .i64 u.g)).far (p := ⟨b14, 2, none⟩) (by simp; omega) (.int .i64 u.b)).far (p := ⟨b14, 3, none⟩) (by simp; omega) (.int .i64 u.a))
  have jO : Bk _ (w.heap.size + 1) 81 #[.int .i64 0, .int .i64 0, .int .i64 0, .int .i64 0] := ((((((((((((nO.far (p := ⟨b12, 0, none⟩) (by simp; omega) (.int .i64 q.r)).far (p := ⟨b12, 1, none⟩) (by simp; omega) (.int .i64 q.g)).far (p := ⟨b12, 2, none⟩) (by simp; omega) (.int .i64 q.b)).far (p := ⟨b12, 3, none⟩) (by simp; omega) (.int .i64 q.a)).far (p := ⟨b13, 0, none⟩) (by simp; omega) (.int .i64 s.r)).far (p := ⟨b13, 1, none⟩) (by simp; omega) (.int .i64 s.g)).far (p := ⟨b13, 2, none⟩) (by simp; omega) (.int .i64 s.b)).far (p := ⟨b13, 3, none⟩) (by simp; omega) (.int .i64 s.a)).far (p := ⟨b14, 0, none⟩) (by simp; omega) (.int .i64 u.r)).far (p := ⟨b14, 1, none⟩) (by simp; omega) (.int .i64 u.g)).far (p := ⟨b14, 2, none⟩) (by simp; omega) (.int .i64 u.b)).far (p := ⟨b14, 3, none⟩) (by simp; omega) (.int .i64 u.a))
  have j12 : Bk _ b12 81 #[.int .i64 q.r, .int .i64 q.g, .int .i64 q.b, .int .i64 q.a] := ((((((((((((k12.set 0 (.int .i64 q.r)).set 1 (.int .i64 q.g)).set 2 (.int .i64 q.b)).set 3 (.int .i64 q.a)).far (p := ⟨b13, 0, none⟩) ne1213 (.int .i64 s.r)).far (p := ⟨b13, 1, none⟩) ne1213 (.int .i64 s.g)).far (p := ⟨b13, 2, none⟩) ne1213 (.int .i64 s.b)).far (p := ⟨b13, 3, none⟩) ne1213 (.int .i64 s.a)).far (p := ⟨b14, 0, none⟩) ne1214 (.int .i64 u.r)).far (p := ⟨b14, 1, none⟩) ne1214 (.int .i64 u.g)).far (p := ⟨b14, 2, none⟩) ne1214 (.int .i64 u.b)).far (p := ⟨b14, 3, none⟩) ne1214 (.int .i64 u.a))
  have j13 : Bk _ b13 81 #[.int .i64 s.r, .int .i64 s.g, .int .i64 s.b, .int .i64 s.a] := ((((((((((((k13.far (p := ⟨b12, 0, none⟩) ne1213.symm (.int .i64 q.r)).far (p := ⟨b12, 1, none⟩) ne1213.symm (.int .i64 q.g)).far (p := ⟨b12, 2, none⟩) ne1213.symm (.int .i64 q.b)).far (p := ⟨b12, 3, none⟩) ne1213.symm (.int .i64 q.a)).set 0 (.int .i64 s.r)).set 1 (.int .i64 s.g)).set 2 (.int .i64 s.b)).set 3 (.int .i64 s.a)).far (p := ⟨b14, 0, none⟩) ne1314 (.int .i64 u.r)).far (p := ⟨b14, 1, none⟩) ne1314 (.int .i64 u.g)).far (p := ⟨b14, 2, none⟩) ne1314 (.int .i64 u.b)).far (p := ⟨b14, 3, none⟩) ne1314 (.int .i64 u.a))
  have j14 : Bk _ b14 81 #[.int .i64 u.r, .int .i64 u.g, .int .i64 u.b, .int .i64 u.a] := ((((((((((((k14.far (p := ⟨b12, 0, none⟩) ne1214.symm (.int .i64 q.r)).far (p := ⟨b12, 1, none⟩) ne1214.symm (.int .i64 q.g)).far (p := ⟨b12, 2, none⟩) ne1214.symm (.int .i64 q.b)).far (p := ⟨b12, 3, none⟩) ne1214.symm (.int .i64 q.a)).far (p := ⟨b13, 0, none⟩) ne1314.symm (.int .i64 s.r)).far (p := ⟨b13, 1, none⟩) ne1314.symm (.int .i64 s.g)).far (p := ⟨b13, 2, none⟩) ne1314.symm (.int .i64 s.b)).far (p := ⟨b13, 3, none⟩) ne1314.symm (.int .i64 s.a)).set 0 (.int .i64 u.r)).set 1 (.int .i64 u.g)).set 2 (.int .i64 u.b)).set 3 (.int .i64 u.a))
  have hV := (bset (bset (bset (bset (bset (bset (bset (bset (bset (bset (bset (bset hW0 (p := ⟨b12, 0, none⟩) (by show _ ≤ b12; omega) (.int .i64 q.r)) (p := ⟨b12, 1, none⟩) (by show _ ≤ b12; omega) (.int .i64 q.g)) (p := ⟨b12, 2, none⟩) (by show _ ≤ b12; omega) (.int .i64 q.b)) (p := ⟨b12, 3, none⟩) (by show _ ≤ b12; omega) (.int .i64 q.a)) (p := ⟨b13, 0, none⟩) (by show _ ≤ b13; omega) (.int .i64 s.r)) (p := ⟨b13, 1, none⟩) (by show _ ≤ b13; omega) (.int .i64 s.g)) (p := ⟨b13, 2, none⟩) (by show _ ≤ b13; omega) (.int .i64 s.b)) (p := ⟨b13, 3, none⟩) (by show _ ≤ b13; omega) (.int .i64 s.a)) (p := ⟨b14, 0, none⟩) (by show _ ≤ b14; omega) (.int .i64 u.r)) (p := ⟨b14, 1, none⟩) (by show _ ≤ b14; omega) (.int .i64 u.g)) (p := ⟨b14, 2, none⟩) (by show _ ≤ b14; omega) (.int .i64 u.b)) (p := ⟨b14, 3, none⟩) (by show _ ≤ b14; omega) (.int .i64 u.a))
  clear k12 k13 k14 nP nO hW0 hb13 hb12 hb12a hb11 hb11a hb10 hb10a kP kO kT hB2 hR2 l12 l13 l14
  go_wp2_with fail
  generalize ((((((((((((w13.setCell ⟨b12, 0, none⟩ (.int .i64 q.r)).setCell ⟨b12, 1, none⟩ (.int .i64 q.g)).setCell ⟨b12, 2, none⟩ (.int .i64 q.b)).setCell ⟨b12, 3, none⟩ (.int .i64 q.a)).setCell ⟨b13, 0, none⟩ (.int .i64 s.r)).setCell ⟨b13, 1, none⟩ (.int .i64 s.g)).setCell ⟨b13, 2, none⟩ (.int .i64 s.b)).setCell ⟨b13, 3, none⟩ (.int .i64 s.a)).setCell ⟨b14, 0, none⟩ (.int .i64 u.r)).setCell ⟨b14, 1, none⟩ (.int .i64 u.g)).setCell ⟨b14, 2, none⟩ (.int .i64 u.b)).setCell ⟨b14, 3, none⟩ (.int .i64 u.a)) = w9 at hV jP jO j12 j13 j14 ⊢
  clear kc6 kf6 ka6 kg6 kl6 kc7 kf7 ka7 kg7 kl7 kc8 kf8 ka8 kg8 kl8 hS14 hS15 hS16
  have lO : w.heap.size + 1 < bP := lP
  go_loopw [56] (fun i wr => ∃ (k : Nat) (z : Px), k ≤ 4 ∧ i = .int .i64 k ∧ Hid (mixq k v p = z) ∧ Bk wr bP 81 #[.int .i64 z.r, .int .i64 z.g, .int .i64 z.b, .int .i64 z.a] ∧ Bk wr b12 81 #[.int .i64 q.r, .int .i64 q.g, .int .i64 q.b, .int .i64 q.a] ∧ Bk wr b13 81 #[.int .i64 s.r, .int .i64 s.g, .int .i64 s.b, .int .i64 s.a] ∧ Bk wr b14 81 #[.int .i64 u.r, .int .i64 u.g, .int .i64 u.b, .int .i64 u.a] ∧ Bk wr (w.heap.size + 1) 81 #[.int .i64 0, .int .i64 0, .int .i64 0, .int .i64 0] ∧ Below w.heap.size w wr) (fun i _ => 4 - (intOf i).toNat)
  case atStart => exact ⟨0, p, by omega, rfl, rfl, jP, j12, j13, j14, jO, hV⟩
  case round =>
    clear jP jO j12 j13 j14 hV
    obtain ⟨k, z, hk, rfl, HZ, kP, kA, kB, kC, kO, hbw⟩ := hrel
    obtain ⟨⟨⟨pr0, pr1⟩, ⟨pg0, pg1⟩, ⟨pb0, pb1⟩, pa0, pa1⟩, ⟨⟨qr0, qr1⟩, ⟨qg0, qg1⟩, ⟨qb0, qb1⟩, qa0, qa1⟩, ⟨⟨sr0, sr1⟩, ⟨sg0, sg1⟩, ⟨sb0, sb1⟩, sa0, sa1⟩, ⟨ur0, ur1⟩, ⟨ug0, ug1⟩, ⟨ub0, ub1⟩, ua0, ua1⟩ := HIN.out
    by_cases hlt : k < 4
    · have h4 : k = 0 ∨ k = 1 ∨ k = 2 ∨ k = 3 := by omega
      clear hk hlt
      rcases h4 with rfl | rfl | rfl | rfl
      · have hz : mixq 0 v p = z := HZ.out
        subst hz
        have kP : Bk wr bP 81 #[.int .i64 p.r, .int .i64 p.g, .int .i64 p.b, .int .i64 p.a] := kP
        have e1 : p.r + (u.r - q.r - s.r) = v.r := congrArg Px.r HVE.out
        have f1 : IntKind.i64.wrap (u.r - q.r) = u.r - q.r := IntWalk.i64_in _ (by omega)
        have f2 : IntKind.i64.wrap (u.r - q.r - s.r) = u.r - q.r - s.r := IntWalk.i64_in _ (by omega)
        have f3 : IntKind.i64.wrap (p.r + (u.r - q.r - s.r)) = v.r := by rw [← e1]; exact IntWalk.i64_in _ (by omega)
        clear e1
        go_wp2_with fail
        refine wp_region_gob 16 [(0, true), (1, true), (2, true), (3, true), (4, true), (5, true), (6, true), (7, true), (8, true), (9, true), (10, true), (11, true), (12, true), (13, true), (14, true), (15, true)] (by kernel_rfl) (by kernel_rfl) (fun c a d v w h => by cases d <;> exact h) ?_
        repeat (first | (refine wpGo_pure (v := ?_) rfl rfl (fun w' hS => ?_) ?_; rotate_left; (· have kPp : Bk w' (bP) 81 #[.int .i64 p.r, .int .i64 p.g, .int .i64 p.b, .int .i64 p.a] := (by repeat (first | (with_reducible assumption) | ((with_reducible refine Bk.new _ _ _ ?_); first | (with_reducible rfl) | (simp; done)) | (with_reducible refine Bk.alloc ?_ _) | (with_reducible refine Bk.drew ?_) | (with_reducible refine Bk.drewN ?_ _) | ((with_reducible refine Bk.far ?_ ?_ _); rotate_left; focus (first | (simp; done) | (simp; omega))) | (with_reducible refine Bk.below ?_ (by with_reducible assumption)))); obtain ⟨kcPp, kfPp, kaPp, kgPp, klPp⟩ := kPp.rules; have kAp : Bk w' (b12) 81 #[.int .i64 q.r, .int .i64 q.g, .int .i64 q.b, .int .i64 q.a] := (by repeat (first | (with_reducible assumption) | ((with_reducible refine Bk.new _ _ _ ?_); first | (with_reducible rfl) | (simp; done)) | (with_reducible refine Bk.alloc ?_ _) | (with_reducible refine Bk.drew ?_) | (with_reducible refine Bk.drewN ?_ _) | ((with_reducible refine Bk.far ?_ ?_ _); rotate_left; focus (first | (simp; done) | (simp; omega))) | (with_reducible refine Bk.below ?_ (by with_reducible assumption)))); obtain ⟨kcAp, kfAp, kaAp, kgAp, klAp⟩ := kAp.rules; have kBp : Bk w' (b13) 81 #[.int .i64 s.r, .int .i64 s.g, .int .i64 s.b, .int .i64 s.a] := (by repeat (first | (with_reducible assumption) | ((with_reducible refine Bk.new _ _ _ ?_); first | (with_reducible rfl) | (simp; done)) | (with_reducible refine Bk.alloc ?_ _) | (with_reducible refine Bk.drew ?_) | (with_reducible refine Bk.drewN ?_ _) | ((with_reducible refine Bk.far ?_ ?_ _); rotate_left; focus (first | (simp; done) | (simp; omega))) | (with_reducible refine Bk.below ?_ (by with_reducible assumption)))); obtain ⟨kcBp, kfBp, kaBp, kgBp, klBp⟩ := kBp.rules; have kCp : Bk w' (b14) 81 #[.int .i64 u.r, .int .i64 u.g, .int .i64 u.b, .int .i64 u.a] := (by repeat (first | (with_reducible assumption) | ((with_reducible refine Bk.new _ _ _ ?_); first | (with_reducible rfl) | (simp; done)) | (with_reducible refine Bk.alloc ?_ _) | (with_reducible refine Bk.drew ?_) | (with_reducible refine Bk.drewN ?_ _) | ((with_reducible refine Bk.far ?_ ?_ _); rotate_left; focus (first | (simp; done) | (simp; omega))) | (with_reducible refine Bk.below ?_ (by with_reducible assumption)))); obtain ⟨kcCp, kfCp, kaCp, kgCp, klCp⟩ := kCp.rules; go_simp; exact rfl); (try simp only [Act.put, List.setIfInBounds_toArray, List.set_cons_zero, List.set_cons_succ])) | ((refine wpGo_skip rfl rfl ?_); (try simp only [Act.put, List.setIfInBounds_toArray, List.set_cons_zero, List.set_cons_succ])))
        refine wpGo_nil ?_
        simp only [List.drop_succ_cons, List.drop_zero]
        obtain ⟨kc, kf, ka, kg, kl⟩ := kP.drew.rules
        have iP := (kP.drew).set 0 (.int .i64 v.r)
        have iA := (kA.drew).far (p := ⟨bP, 0, none⟩) (by simp; omega) (.int .i64 v.r)
        have iB := (kB.drew).far (p := ⟨bP, 0, none⟩) (by simp; omega) (.int .i64 v.r)
        have iC := (kC.drew).far (p := ⟨bP, 0, none⟩) (by simp; omega) (.int .i64 v.r)
        have iO := (kO.drew).far (p := ⟨bP, 0, none⟩) (by simp; omega) (.int .i64 v.r)
        have hb2 := bset (p := ⟨bP, 0, none⟩) hbw.drew (by show _ ≤ bP; omega) (.int .i64 v.r)
        go_wp2
        go_roundw
        case rel => exact ⟨0 + 1, mixq (0 + 1) v p, by omega, by go_num, rfl, iP, iA, iB, iC, iO, hb2⟩
        case measure => simp [intOf]
      · have hz : mixq 1 v p = z := HZ.out
        subst hz
        have kP : Bk wr bP 81 #[.int .i64 v.r, .int .i64 p.g, .int .i64 p.b, .int .i64 p.a] := kP
        have e1 : p.g + (u.g - q.g - s.g) = v.g := congrArg Px.g HVE.out
        have f1 : IntKind.i64.wrap (u.g - q.g) = u.g - q.g := IntWalk.i64_in _ (by omega)
        have f2 : IntKind.i64.wrap (u.g - q.g - s.g) = u.g - q.g - s.g := IntWalk.i64_in _ (by omega)
        have f3 : IntKind.i64.wrap (p.g + (u.g - q.g - s.g)) = v.g := by rw [← e1]; exact IntWalk.i64_in _ (by omega)
        clear e1
        go_wp2_with fail
        refine wp_region_gob 16 [(0, true), (1, true), (2, true), (3, true), (4, true), (5, true), (6, true), (7, true), (8, true), (9, true), (10, true), (11, true), (12, true), (13, true), (14, true), (15, true)] (by kernel_rfl) (by kernel_rfl) (fun c a d v w h => by cases d <;> exact h) ?_
        repeat (first | (refine wpGo_pure (v := ?_) rfl rfl (fun w' hS => ?_) ?_; rotate_left; (· have kPp : Bk w' (bP) 81 #[.int .i64 v.r, .int .i64 p.g, .int .i64 p.b, .int .i64 p.a] := (by repeat (first | (with_reducible assumption) | ((with_reducible refine Bk.new _ _ _ ?_); first | (with_reducible rfl) | (simp; done)) | (with_reducible refine Bk.alloc ?_ _) | (with_reducible refine Bk.drew ?_) | (with_reducible refine Bk.drewN ?_ _) | ((with_reducible refine Bk.far ?_ ?_ _); rotate_left; focus (first | (simp; done) | (simp; omega))) | (with_reducible refine Bk.below ?_ (by with_reducible assumption)))); obtain ⟨kcPp, kfPp, kaPp, kgPp, klPp⟩ := kPp.rules; have kAp : Bk w' (b12) 81 #[.int .i64 q.r, .int .i64 q.g, .int .i64 q.b, .int .i64 q.a] := (by repeat (first | (with_reducible assumption) | ((with_reducible refine Bk.new _ _ _ ?_); first | (with_reducible rfl) | (simp; done)) | (with_reducible refine Bk.alloc ?_ _) | (with_reducible refine Bk.drew ?_) | (with_reducible refine Bk.drewN ?_ _) | ((with_reducible refine Bk.far ?_ ?_ _); rotate_left; focus (first | (simp; done) | (simp; omega))) | (with_reducible refine Bk.below ?_ (by with_reducible assumption)))); obtain ⟨kcAp, kfAp, kaAp, kgAp, klAp⟩ := kAp.rules; have kBp : Bk w' (b13) 81 #[.int .i64 s.r, .int .i64 s.g, .int .i64 s.b, .int .i64 s.a] := (by repeat (first | (with_reducible assumption) | ((with_reducible refine Bk.new _ _ _ ?_); first | (with_reducible rfl) | (simp; done)) | (with_reducible refine Bk.alloc ?_ _) | (with_reducible refine Bk.drew ?_) | (with_reducible refine Bk.drewN ?_ _) | ((with_reducible refine Bk.far ?_ ?_ _); rotate_left; focus (first | (simp; done) | (simp; omega))) | (with_reducible refine Bk.below ?_ (by with_reducible assumption)))); obtain ⟨kcBp, kfBp, kaBp, kgBp, klBp⟩ := kBp.rules; have kCp : Bk w' (b14) 81 #[.int .i64 u.r, .int .i64 u.g, .int .i64 u.b, .int .i64 u.a] := (by repeat (first | (with_reducible assumption) | ((with_reducible refine Bk.new _ _ _ ?_); first | (with_reducible rfl) | (simp; done)) | (with_reducible refine Bk.alloc ?_ _) | (with_reducible refine Bk.drew ?_) | (with_reducible refine Bk.drewN ?_ _) | ((with_reducible refine Bk.far ?_ ?_ _); rotate_left; focus (first | (simp; done) | (simp; omega))) | (with_reducible refine Bk.below ?_ (by with_reducible assumption)))); obtain ⟨kcCp, kfCp, kaCp, kgCp, klCp⟩ := kCp.rules; go_simp; exact rfl); (try simp only [Act.put, List.setIfInBounds_toArray, List.set_cons_zero, List.set_cons_succ])) | ((refine wpGo_skip rfl rfl ?_); (try simp only [Act.put, List.setIfInBounds_toArray, List.set_cons_zero, List.set_cons_succ])))
        refine wpGo_nil ?_
        simp only [List.drop_succ_cons, List.drop_zero]
        obtain ⟨kc, kf, ka, kg, kl⟩ := kP.drew.rules
        have iP := (kP.drew).set 1 (.int .i64 v.g)
        have iA := (kA.drew).far (p := ⟨bP, 1, none⟩) (by simp; omega) (.int .i64 v.g)
        have iB := (kB.drew).far (p := ⟨bP, 1, none⟩) (by simp; omega) (.int .i64 v.g)
        have iC := (kC.drew).far (p := ⟨bP, 1, none⟩) (by simp; omega) (.int .i64 v.g)
        have iO := (kO.drew).far (p := ⟨bP, 1, none⟩) (by simp; omega) (.int .i64 v.g)
        have hb2 := bset (p := ⟨bP, 1, none⟩) hbw.drew (by show _ ≤ bP; omega) (.int .i64 v.g)
        go_wp2
        go_roundw
        case rel => exact ⟨1 + 1, mixq (1 + 1) v p, by omega, by go_num, rfl, iP, iA, iB, iC, iO, hb2⟩
        case measure => simp [intOf]
      · have hz : mixq 2 v p = z := HZ.out
        subst hz
        have kP : Bk wr bP 81 #[.int .i64 v.r, .int .i64 v.g, .int .i64 p.b, .int .i64 p.a] := kP
        have e1 : p.b + (u.b - q.b - s.b) = v.b := congrArg Px.b HVE.out
        have f1 : IntKind.i64.wrap (u.b - q.b) = u.b - q.b := IntWalk.i64_in _ (by omega)
        have f2 : IntKind.i64.wrap (u.b - q.b - s.b) = u.b - q.b - s.b := IntWalk.i64_in _ (by omega)
        have f3 : IntKind.i64.wrap (p.b + (u.b - q.b - s.b)) = v.b := by rw [← e1]; exact IntWalk.i64_in _ (by omega)
        clear e1
        go_wp2_with fail
        refine wp_region_gob 16 [(0, true), (1, true), (2, true), (3, true), (4, true), (5, true), (6, true), (7, true), (8, true), (9, true), (10, true), (11, true), (12, true), (13, true), (14, true), (15, true)] (by kernel_rfl) (by kernel_rfl) (fun c a d v w h => by cases d <;> exact h) ?_
        repeat (first | (refine wpGo_pure (v := ?_) rfl rfl (fun w' hS => ?_) ?_; rotate_left; (· have kPp : Bk w' (bP) 81 #[.int .i64 v.r, .int .i64 v.g, .int .i64 p.b, .int .i64 p.a] := (by repeat (first | (with_reducible assumption) | ((with_reducible refine Bk.new _ _ _ ?_); first | (with_reducible rfl) | (simp; done)) | (with_reducible refine Bk.alloc ?_ _) | (with_reducible refine Bk.drew ?_) | (with_reducible refine Bk.drewN ?_ _) | ((with_reducible refine Bk.far ?_ ?_ _); rotate_left; focus (first | (simp; done) | (simp; omega))) | (with_reducible refine Bk.below ?_ (by with_reducible assumption)))); obtain ⟨kcPp, kfPp, kaPp, kgPp, klPp⟩ := kPp.rules; have kAp : Bk w' (b12) 81 #[.int .i64 q.r, .int .i64 q.g, .int .i64 q.b, .int .i64 q.a] := (by repeat (first | (with_reducible assumption) | ((with_reducible refine Bk.new _ _ _ ?_); first | (with_reducible rfl) | (simp; done)) | (with_reducible refine Bk.alloc ?_ _) | (with_reducible refine Bk.drew ?_) | (with_reducible refine Bk.drewN ?_ _) | ((with_reducible refine Bk.far ?_ ?_ _); rotate_left; focus (first | (simp; done) | (simp; omega))) | (with_reducible refine Bk.below ?_ (by with_reducible assumption)))); obtain ⟨kcAp, kfAp, kaAp, kgAp, klAp⟩ := kAp.rules; have kBp : Bk w' (b13) 81 #[.int .i64 s.r, .int .i64 s.g, .int .i64 s.b, .int .i64 s.a] := (by repeat (first | (with_reducible assumption) | ((with_reducible refine Bk.new _ _ _ ?_); first | (with_reducible rfl) | (simp; done)) | (with_reducible refine Bk.alloc ?_ _) | (with_reducible refine Bk.drew ?_) | (with_reducible refine Bk.drewN ?_ _) | ((with_reducible refine Bk.far ?_ ?_ _); rotate_left; focus (first | (simp; done) | (simp; omega))) | (with_reducible refine Bk.below ?_ (by with_reducible assumption)))); obtain ⟨kcBp, kfBp, kaBp, kgBp, klBp⟩ := kBp.rules; have kCp : Bk w' (b14) 81 #[.int .i64 u.r, .int .i64 u.g, .int .i64 u.b, .int .i64 u.a] := (by repeat (first | (with_reducible assumption) | ((with_reducible refine Bk.new _ _ _ ?_); first | (with_reducible rfl) | (simp; done)) | (with_reducible refine Bk.alloc ?_ _) | (with_reducible refine Bk.drew ?_) | (with_reducible refine Bk.drewN ?_ _) | ((with_reducible refine Bk.far ?_ ?_ _); rotate_left; focus (first | (simp; done) | (simp; omega))) | (with_reducible refine Bk.below ?_ (by with_reducible assumption)))); obtain ⟨kcCp, kfCp, kaCp, kgCp, klCp⟩ := kCp.rules; go_simp; exact rfl); (try simp only [Act.put, List.setIfInBounds_toArray, List.set_cons_zero, List.set_cons_succ])) | ((refine wpGo_skip rfl rfl ?_); (try simp only [Act.put, List.setIfInBounds_toArray, List.set_cons_zero, List.set_cons_succ])))
        refine wpGo_nil ?_
        simp only [List.drop_succ_cons, List.drop_zero]
        obtain ⟨kc, kf, ka, kg, kl⟩ := kP.drew.rules
        have iP := (kP.drew).set 2 (.int .i64 v.b)
        have iA := (kA.drew).far (p := ⟨bP, 2, none⟩) (by simp; omega) (.int .i64 v.b)
        have iB := (kB.drew).far (p := ⟨bP, 2, none⟩) (by simp; omega) (.int .i64 v.b)
        have iC := (kC.drew).far (p := ⟨bP, 2, none⟩) (by simp; omega) (.int .i64 v.b)
        have iO := (kO.drew).far (p := ⟨bP, 2, none⟩) (by simp; omega) (.int .i64 v.b)
        have hb2 := bset (p := ⟨bP, 2, none⟩) hbw.drew (by show _ ≤ bP; omega) (.int .i64 v.b)
        go_wp2
        go_roundw
        case rel => exact ⟨2 + 1, mixq (2 + 1) v p, by omega, by go_num, rfl, iP, iA, iB, iC, iO, hb2⟩
        case measure => simp [intOf]
      · have hz : mixq 3 v p = z := HZ.out
        subst hz
        have kP : Bk wr bP 81 #[.int .i64 v.r, .int .i64 v.g, .int .i64 v.b, .int .i64 p.a] := kP
        have e1 : p.a + (u.a - q.a - s.a) = v.a := congrArg Px.a HVE.out
        have f1 : IntKind.i64.wrap (u.a - q.a) = u.a - q.a := IntWalk.i64_in _ (by omega)
        have f2 : IntKind.i64.wrap (u.a - q.a - s.a) = u.a - q.a - s.a := IntWalk.i64_in _ (by omega)
        have f3 : IntKind.i64.wrap (p.a + (u.a - q.a - s.a)) = v.a := by rw [← e1]; exact IntWalk.i64_in _ (by omega)
        clear e1
        go_wp2_with fail
        refine wp_region_gob 16 [(0, true), (1, true), (2, true), (3, true), (4, true), (5, true), (6, true), (7, true), (8, true), (9, true), (10, true), (11, true), (12, true), (13, true), (14, true), (15, true)] (by kernel_rfl) (by kernel_rfl) (fun c a d v w h => by cases d <;> exact h) ?_
        repeat (first | (refine wpGo_pure (v := ?_) rfl rfl (fun w' hS => ?_) ?_; rotate_left; (· have kPp : Bk w' (bP) 81 #[.int .i64 v.r, .int .i64 v.g, .int .i64 v.b, .int .i64 p.a] := (by repeat (first | (with_reducible assumption) | ((with_reducible refine Bk.new _ _ _ ?_); first | (with_reducible rfl) | (simp; done)) | (with_reducible refine Bk.alloc ?_ _) | (with_reducible refine Bk.drew ?_) | (with_reducible refine Bk.drewN ?_ _) | ((with_reducible refine Bk.far ?_ ?_ _); rotate_left; focus (first | (simp; done) | (simp; omega))) | (with_reducible refine Bk.below ?_ (by with_reducible assumption)))); obtain ⟨kcPp, kfPp, kaPp, kgPp, klPp⟩ := kPp.rules; have kAp : Bk w' (b12) 81 #[.int .i64 q.r, .int .i64 q.g, .int .i64 q.b, .int .i64 q.a] := (by repeat (first | (with_reducible assumption) | ((with_reducible refine Bk.new _ _ _ ?_); first | (with_reducible rfl) | (simp; done)) | (with_reducible refine Bk.alloc ?_ _) | (with_reducible refine Bk.drew ?_) | (with_reducible refine Bk.drewN ?_ _) | ((with_reducible refine Bk.far ?_ ?_ _); rotate_left; focus (first | (simp; done) | (simp; omega))) | (with_reducible refine Bk.below ?_ (by with_reducible assumption)))); obtain ⟨kcAp, kfAp, kaAp, kgAp, klAp⟩ := kAp.rules; have kBp : Bk w' (b13) 81 #[.int .i64 s.r, .int .i64 s.g, .int .i64 s.b, .int .i64 s.a] := (by repeat (first | (with_reducible assumption) | ((with_reducible refine Bk.new _ _ _ ?_); first | (with_reducible rfl) | (simp; done)) | (with_reducible refine Bk.alloc ?_ _) | (with_reducible refine Bk.drew ?_) | (with_reducible refine Bk.drewN ?_ _) | ((with_reducible refine Bk.far ?_ ?_ _); rotate_left; focus (first | (simp; done) | (simp; omega))) | (with_reducible refine Bk.below ?_ (by with_reducible assumption)))); obtain ⟨kcBp, kfBp, kaBp, kgBp, klBp⟩ := kBp.rules; have kCp : Bk w' (b14) 81 #[.int .i64 u.r, .int .i64 u.g, .int .i64 u.b, .int .i64 u.a] := (by repeat (first | (with_reducible assumption) | ((with_reducible refine Bk.new _ _ _ ?_); first | (with_reducible rfl) | (simp; done)) | (with_reducible refine Bk.alloc ?_ _) | (with_reducible refine Bk.drew ?_) | (with_reducible refine Bk.drewN ?_ _) | ((with_reducible refine Bk.far ?_ ?_ _); rotate_left; focus (first | (simp; done) | (simp; omega))) | (with_reducible refine Bk.below ?_ (by with_reducible assumption)))); obtain ⟨kcCp, kfCp, kaCp, kgCp, klCp⟩ := kCp.rules; go_simp; exact rfl); (try simp only [Act.put, List.setIfInBounds_toArray, List.set_cons_zero, List.set_cons_succ])) | ((refine wpGo_skip rfl rfl ?_); (try simp only [Act.put, List.setIfInBounds_toArray, List.set_cons_zero, List.set_cons_succ])))
        refine wpGo_nil ?_
        simp only [List.drop_succ_cons, List.drop_zero]
        obtain ⟨kc, kf, ka, kg, kl⟩ := kP.drew.rules
        have iP := (kP.drew).set 3 (.int .i64 v.a)
        have iA := (kA.drew).far (p := ⟨bP, 3, none⟩) (by simp; omega) (.int .i64 v.a)
        have iB := (kB.drew).far (p := ⟨bP, 3, none⟩) (by simp; omega) (.int .i64 v.a)
        have iC := (kC.drew).far (p := ⟨bP, 3, none⟩) (by simp; omega) (.int .i64 v.a)
        have iO := (kO.drew).far (p := ⟨bP, 3, none⟩) (by simp; omega) (.int .i64 v.a)
        have hb2 := bset (p := ⟨bP, 3, none⟩) hbw.drew (by show _ ≤ bP; omega) (.int .i64 v.a)
        go_wp2
        go_roundw
        case rel => exact ⟨3 + 1, mixq (3 + 1) v p, by omega, by go_num, rfl, iP, iA, iB, iC, iO, hb2⟩
        case measure => simp [intOf]
    · obtain rfl : k = 4 := by omega
      have hz : v = z := HZ.out
      subst hz
      obtain ⟨kc, kf, ka, kg, kl⟩ := kP.rules
      obtain ⟨kc', kf', ka', kg', kl'⟩ := kO.rules
      go_wp2
      refine bodyPost_ret (v := _) ?_ rfl ⟨rfl, (by repeat (first | (with_reducible exact Below.refl _ _) | (with_reducible refine balloc ?_ _) | (with_reducible refine Below.drew ?_) | (with_reducible refine bdrewN ?_ _) | ((with_reducible refine bset ?_ ?_ _); rotate_left; focus (first | (with_reducible exact Nat.le_refl _) | (simp; done) | (simp; omega) | omega)) | (with_reducible refine bstep (by with_reducible assumption) ?_)))⟩
      simp [results, Try.results85, go_sem, kc']
end Go.Proofs.Ytnefnnhnjmmebaa
