/- RectSubtract: for all rectangles a, b and all sizes of tiles the law grisaillelaw09.RectSubtract returns true. No conditions. -/
import Derived.Test.YtiaeaegocfmjhaaSubJ
import Derived.Test.YtiaeaegocfmjhaaEx09
import Derived.Test.YtiaeaegocfmjhaaLift
import Derived.Test.YtiaeaegocfmjhaaOpen
import Derived.Test.YtiaeaegocfmjhaaMix
import Derived.Test.YtiaeaegocfmjhaaCollect
namespace Go.Proofs.Ytiaeaegocfmjhaa
open Go.ChangeShapes Go.WideShapes Go.ChangeAt Go.RowKit
set_option linter.unusedSimpArgs false
set_option linter.unusedVariables false

theorem containing_q (A : Option Addr) (n c : Nat) (l : List Rc) (x y v : Int) (hv : Hid ((countC l x y : Int) = v)) (hl : l.length = n) (hn : n ≤ 67108864) (w : World) (hr : RdL encR 4 w A l) :
    Calls Try.prog 39 #[.slice A n c, .int .i64 x, .int .i64 y] w fun e w' => e = .returned (.int .i64 v) ∧ Below w.heap.size w w' := by
  have h := hv.out; subst h; exact containing_any A n c l x y hl hn w hr
set_option maxRecDepth 10000 in
set_option maxHeartbeats 4000000 in
theorem walk_RectSubtract (a b c d a' b' c' d' p q : Int) (w : World) (hp : -9223372036854775808 ≤ p ∧ p ≤ 9223372036854775807) (hq : -9223372036854775808 ≤ q ∧ q ≤ 9223372036854775807) :
    Calls Try.prog 8 #[.agg #[.int .i64 a, .int .i64 b, .int .i64 c, .int .i64 d], .agg #[.int .i64 a', .int .i64 b', .int .i64 c', .int .i64 d'], .agg #[.int .i64 p, .int .i64 q]] w fun e w' => e = .returned (.bool true) ∧ Below w.heap.size w w' := by
  obtain ⟨i, Hi⟩ : ∃ i, Hid (interR ⟨a, b, c, d⟩ ⟨a', b', c', d'⟩ = i) := ⟨_, rfl⟩
  obtain ⟨L, HL⟩ : ∃ L, Hid (subL ⟨a, b, c, d⟩ ⟨a', b', c', d'⟩ = L) := ⟨_, rfl⟩
  obtain ⟨T, HT⟩ : ∃ T, Hid (tilesL ⟨a, b, c, d⟩ p q = T) := ⟨_, rfl⟩
  obtain ⟨N, HN⟩ : ∃ N, Hid (L.length = N) := ⟨_, rfl⟩
  obtain ⟨ar, Har⟩ : ∃ ar, Hid (areaR ⟨a, b, c, d⟩ = ar) := ⟨_, rfl⟩
  obtain ⟨S, HS⟩ : ∃ S, Hid (sumS i L = S) := ⟨_, rfl⟩
  obtain ⟨e0, He0⟩ : ∃ e0, Hid (emptyB ⟨a, b, c, d⟩ = e0) := ⟨_, rfl⟩
  have hN : N ≤ 4 := by rw [← HN.out, ← HL.out]; exact sub_len _ _
  have hS : ∀ k, 0 ≤ S k ∧ S k ≤ 335544320 := by intro k; rw [← HS.out]; exact sumS_bd i L (by rw [HN.out]; exact hN) k
  have HS0 : Hid (areaR ⟨i.x0, i.y0, i.x1, i.y1⟩ = S 0) := by unfold Hid; rw [← HS.out]; simp [sumS]
  have HSN : Hid (S N = ar) := by
    unfold Hid
    rw [← HS.out, sumS_all i L (by rw [HN.out]; exact Nat.le_refl _), ← Har.out, ← HL.out, ← Hi.out]
    exact sub_area _ _
  have HSs : ∀ (k : Nat) (hk : k < L.length), Hid (S (k + 1) = S k + areaR L[k]) := by intro k hk; unfold Hid; rw [← HS.out]; exact sumS_succ i L hk
  have HF : ∀ r ∈ L, emptyB r = false := by rw [← HL.out]; exact sub_full _ _
  go_enter Try.func8, Try.ntmps8
  go_wp2_with fail
  refine wp_region_mix 7 [0, 1, 3, 4] [2, 5] [6] (fun _ => 23) (fun _ => #[.int .i64 0, .int .i64 0, .int .i64 0, .int .i64 0]) (by kernel_rfl) (by kernel_rfl) (fun c a d v w h => by cases d <;> exact h) (fun c a d v w h => by cases d <;> exact h) (fun j hj => by simp only [List.mem_cons, List.not_mem_nil, or_false] at hj; rcases hj with rfl <;> exact ⟨_, rfl, rfl, fun a w => by go_simp; rfl⟩) ?_
  simp only [List.map_cons, List.map_nil]
  repeat (refine wpGo_pure (v := ?_) rfl rfl (fun w' hS => ?_) ?_; rotate_left; (· have kAp : Bk w' (w.heap.size) 23 #[.int .i64 a, .int .i64 b, .int .i64 c, .int .i64 d] := (by repeat (first | (with_reducible assumption) | ((with_reducible refine Bk.new _ _ _ ?_); first | (with_reducible rfl) | (simp; done)) | (with_reducible refine Bk.alloc ?_ _) | (with_reducible refine Bk.drew ?_) | (with_reducible refine Bk.drewN ?_ _) | ((with_reducible refine Bk.far ?_ ?_ _); rotate_left; focus (first | (simp; done) | (simp; omega))) | (with_reducible refine Bk.below ?_ (by with_reducible assumption)))); obtain ⟨kcAp, kfAp, kaAp, kgAp, klAp⟩ := kAp.rules; have kBp : Bk w' (w.heap.size + 1) 23 #[.int .i64 a', .int .i64 b', .int .i64 c', .int .i64 d'] := (by repeat (first | (with_reducible assumption) | ((with_reducible refine Bk.new _ _ _ ?_); first | (with_reducible rfl) | (simp; done)) | (with_reducible refine Bk.alloc ?_ _) | (with_reducible refine Bk.drew ?_) | (with_reducible refine Bk.drewN ?_ _) | ((with_reducible refine Bk.far ?_ ?_ _); rotate_left; focus (first | (simp; done) | (simp; omega))) | (with_reducible refine Bk.below ?_ (by with_reducible assumption)))); obtain ⟨kcBp, kfBp, kaBp, kgBp, klBp⟩ := kBp.rules; go_simp; exact rfl); (try simp only [Act.put, List.setIfInBounds_toArray, List.set_cons_zero, List.set_cons_succ]))
  refine wpGo_nil ?_
  refine wpMix_call rfl (fun w1a hb1a K hK => ?_)
  go_simp
  refine (sub_any a b c d a' b' c' d' _).mono ?_
  rw [HL.out]
  rintro e w1 ⟨v1, rfl, ho1, hb1⟩
  refine hK.out _ _ hb1 (fun _ => ?_)
  clear hK K
  obtain ⟨A1, c1, rfl, hr1, hc1⟩ := ho1.form encR_len
  rw [HN.out] at hc1 ⊢
  have HR1 := Lib.hid hr1
  clear ho1 hr1
  refine wpMix_call rfl (fun w2a hb2a K hK => ?_)
  go_simp
  refine (inter_q _ _ _ _ _ _ _ _ i Hi _).mono ?_
  rintro e w2 ⟨rfl, hb2⟩
  refine hK.out _ _ hb2 (fun _ => ?_)
  clear hK K
  refine wpMix_end (fun β w3 hb3 hbk hne => ?_)
  obtain ⟨k6, l6⟩ := hbk 6 (by simp)
  clear hbk hne
  simp only [putAll, dstOf, ptrTo, List.foldl_cons, List.foldl_nil, List.getElem?_toArray, List.getElem?_cons_succ, List.getElem?_cons_zero, Option.bind_some, Act.put, List.setIfInBounds_toArray, List.set_cons_zero, List.set_cons_succ, List.drop_succ_cons, List.drop_zero]
  generalize β 6 = b6 at *
  clear β
  have l6' : w.heap.size + 3 ≤ b6 := by simpa using l6
  clear l6
  have hr3 := ((HR1.out.below hb2a).below hb2).below hb3
  have nA : w.heap.size ≠ b6 := by omega
  have nB : w.heap.size + 1 ≠ b6 := by omega
  have nQ : w.heap.size + 1 + 1 ≠ b6 := by omega
  have kA3 : Bk w3 (w.heap.size) 23 #[.int .i64 a, .int .i64 b, .int .i64 c, .int .i64 d] := (by repeat (first | (with_reducible assumption) | ((with_reducible refine Bk.new _ _ _ ?_); first | (with_reducible rfl) | (simp; done)) | (with_reducible refine Bk.alloc ?_ _) | (with_reducible refine Bk.drew ?_) | (with_reducible refine Bk.drewN ?_ _) | ((with_reducible refine Bk.far ?_ ?_ _); rotate_left; focus (first | (simp; done) | (simp; omega))) | (with_reducible refine Bk.below ?_ (by with_reducible assumption))))
  have kB3 : Bk w3 (w.heap.size + 1) 23 #[.int .i64 a', .int .i64 b', .int .i64 c', .int .i64 d'] := (by repeat (first | (with_reducible assumption) | ((with_reducible refine Bk.new _ _ _ ?_); first | (with_reducible rfl) | (simp; done)) | (with_reducible refine Bk.alloc ?_ _) | (with_reducible refine Bk.drew ?_) | (with_reducible refine Bk.drewN ?_ _) | ((with_reducible refine Bk.far ?_ ?_ _); rotate_left; focus (first | (simp; done) | (simp; omega))) | (with_reducible refine Bk.below ?_ (by with_reducible assumption))))
  have kQ3 : Bk w3 (w.heap.size + 1 + 1) 37 #[.int .i64 p, .int .i64 q] := (by repeat (first | (with_reducible assumption) | ((with_reducible refine Bk.new _ _ _ ?_); first | (with_reducible rfl) | (simp; done)) | (with_reducible refine Bk.alloc ?_ _) | (with_reducible refine Bk.drew ?_) | (with_reducible refine Bk.drewN ?_ _) | ((with_reducible refine Bk.far ?_ ?_ _); rotate_left; focus (first | (simp; done) | (simp; omega))) | (with_reducible refine Bk.below ?_ (by with_reducible assumption))))
  obtain ⟨kc6, kf6, ka6, kg6, kl6⟩ := k6.rules
  have hW : Below w.heap.size w w3 := (by repeat (first | (with_reducible exact Below.refl _ _) | (with_reducible refine balloc ?_ _) | (with_reducible refine Below.drew ?_) | (with_reducible refine bdrewN ?_ _) | ((with_reducible refine bset ?_ ?_ _); rotate_left; focus (first | (with_reducible exact Nat.le_refl _) | (simp; done) | (simp; omega) | omega)) | (with_reducible refine bstep (by with_reducible assumption) ?_)))
  have kI : Bk _ b6 23 #[.int .i64 i.x0, .int .i64 i.y0, .int .i64 i.x1, .int .i64 i.y1] := ((((k6.set 0 (.int .i64 i.x0)).set 1 (.int .i64 i.y0)).set 2 (.int .i64 i.x1)).set 3 (.int .i64 i.y1))
  have kA : Bk _ (w.heap.size) 23 #[.int .i64 a, .int .i64 b, .int .i64 c, .int .i64 d] := ((((kA3.far (p := ⟨b6, 0, none⟩) nA (.int .i64 i.x0)).far (p := ⟨b6, 1, none⟩) nA (.int .i64 i.y0)).far (p := ⟨b6, 2, none⟩) nA (.int .i64 i.x1)).far (p := ⟨b6, 3, none⟩) nA (.int .i64 i.y1))
  have kB : Bk _ (w.heap.size + 1) 23 #[.int .i64 a', .int .i64 b', .int .i64 c', .int .i64 d'] := ((((kB3.far (p := ⟨b6, 0, none⟩) nB (.int .i64 i.x0)).far (p := ⟨b6, 1, none⟩) nB (.int .i64 i.y0)).far (p := ⟨b6, 2, none⟩) nB (.int .i64 i.x1)).far (p := ⟨b6, 3, none⟩) nB (.int .i64 i.y1))
  have kQ : Bk _ (w.heap.size + 1 + 1) 37 #[.int .i64 p, .int .i64 q] := ((((kQ3.far (p := ⟨b6, 0, none⟩) nQ (.int .i64 i.x0)).far (p := ⟨b6, 1, none⟩) nQ (.int .i64 i.y0)).far (p := ⟨b6, 2, none⟩) nQ (.int .i64 i.x1)).far (p := ⟨b6, 3, none⟩) nQ (.int .i64 i.y1))
  have hW' := (bset (bset (bset (bset hW (p := ⟨b6, 0, none⟩) (by show _ ≤ b6; omega) (.int .i64 i.x0)) (p := ⟨b6, 1, none⟩) (by show _ ≤ b6; omega) (.int .i64 i.y0)) (p := ⟨b6, 2, none⟩) (by show _ ≤ b6; omega) (.int .i64 i.x1)) (p := ⟨b6, 3, none⟩) (by show _ ≤ b6; omega) (.int .i64 i.y1))
  have hR := rd_keep hr3 HF k6 (.int .i64 i.x0) (.int .i64 i.y0) (.int .i64 i.x1) (.int .i64 i.y1)
  clear hr3 kA3 kB3 kQ3 k6 hb3 hb2 hb2a hb1 hb1a HR1 hW
  obtain ⟨kcI, kfI, kaI, kgI, klI⟩ := kI.rules
  go_wp2_with fail
  clear kc6 kf6 ka6 kg6 kl6 kcI kfI kaI kgI klI
  generalize ((((w3.setCell ⟨b6, 0, none⟩ (.int .i64 i.x0)).setCell ⟨b6, 1, none⟩ (.int .i64 i.y0)).setCell ⟨b6, 2, none⟩ (.int .i64 i.x1)).setCell ⟨b6, 3, none⟩ (.int .i64 i.y1)) = w9 at kI kA kB kQ hR hW' ⊢
  clear w3
  refine (area_q _ _ _ _ (S 0) HS0 _).mono ?_
  rintro e w4 ⟨rfl, hb4⟩
  have hW4 : Below w.heap.size w w4 := bstep hb4 hW'
  have kA4 := kA.below hb4
  have kB4 := kB.below hb4
  have kQ4 := kQ.below hb4
  have kI4 := kI.below hb4
  have HR4 := Lib.hid (hR.below hb4)
  clear kA kB kQ kI hR hW' hb4
  go_wp2
  go_loopw [9, 10, 28] (fun m u i wr => ∃ k : Nat, k ≤ N ∧ i = .int .i64 k ∧ m = .int .i64 (S k) ∧ Below w4.heap.size w4 wr) (fun _ _ i _ => N - (intOf i).toNat)
  case atStart => exact ⟨0, Nat.zero_le _, rfl, rfl, Below.refl _ _⟩
  case round =>
    obtain ⟨k, hk, rfl, rfl, hbw⟩ := hrel
    by_cases hlt : k < N
    · have hkl : k < L.length := by have := HN.out; omega
      obtain ⟨g, o, rfl, hg, hc⟩ := rd4 (HR4.out.below hbw) hkl
      have HSk := HSs k hkl
      obtain ⟨r, Hr⟩ : ∃ r, Hid (L[k] = r) := ⟨L[k], rfl⟩
      rw [Hr.out] at hc HSk
      obtain ⟨c0, c1', c2, c3⟩ := hc
      obtain ⟨n, Hn⟩ : ∃ n, Hid (areaR ⟨r.x0, r.y0, r.x1, r.y1⟩ = n) := ⟨_, rfl⟩
      have HSk' : Hid (S (k + 1) = S k + n) := by unfold Hid; rw [HSk.out, ← Hn.out]
      have b1 := hS k
      have b2 := hS (k + 1)
      rw [HSk'.out] at b2
      obtain ⟨s, Hs⟩ : ∃ s, Hid (S k = s) := ⟨_, rfl⟩
      rw [Hs.out] at b1 b2 HSk' ⊢
      have i0 : (0 : Int) ≤ (k : Int) := by omega
      clear hkl Hr HSk
      go_wp2_with fail
      refine (area_q _ _ _ _ n Hn _).mono ?_
      rintro e w5 ⟨rfl, hb5⟩
      go_wp2
      go_roundw
      case rel => exact ⟨k + 1, by omega, by go_num, by rw [HSk'.out], (by repeat (first | (with_reducible exact Below.refl _ _) | (with_reducible refine balloc ?_ _) | (with_reducible refine Below.drew ?_) | (with_reducible refine bdrewN ?_ _) | ((with_reducible refine bset ?_ ?_ _); rotate_left; focus (first | (with_reducible exact Nat.le_refl _) | (simp; done) | (simp; omega) | omega)) | (with_reducible refine bstep (by with_reducible assumption) ?_)))⟩
      case measure => simp [intOf]; omega
    · have hkN : k = N := by omega
      subst hkN
      rw [HSN.out]
      have kA5 : Bk wr (w.heap.size) 23 #[.int .i64 a, .int .i64 b, .int .i64 c, .int .i64 d] := (by repeat (first | (with_reducible assumption) | ((with_reducible refine Bk.new _ _ _ ?_); first | (with_reducible rfl) | (simp; done)) | (with_reducible refine Bk.alloc ?_ _) | (with_reducible refine Bk.drew ?_) | (with_reducible refine Bk.drewN ?_ _) | ((with_reducible refine Bk.far ?_ ?_ _); rotate_left; focus (first | (simp; done) | (simp; omega))) | (with_reducible refine Bk.below ?_ (by with_reducible assumption)))); obtain ⟨kcA5, kfA5, kaA5, kgA5, klA5⟩ := kA5.rules; have kB5 : Bk wr (w.heap.size + 1) 23 #[.int .i64 a', .int .i64 b', .int .i64 c', .int .i64 d'] := (by repeat (first | (with_reducible assumption) | ((with_reducible refine Bk.new _ _ _ ?_); first | (with_reducible rfl) | (simp; done)) | (with_reducible refine Bk.alloc ?_ _) | (with_reducible refine Bk.drew ?_) | (with_reducible refine Bk.drewN ?_ _) | ((with_reducible refine Bk.far ?_ ?_ _); rotate_left; focus (first | (simp; done) | (simp; omega))) | (with_reducible refine Bk.below ?_ (by with_reducible assumption)))); obtain ⟨kcB5, kfB5, kaB5, kgB5, klB5⟩ := kB5.rules; have kQ5 : Bk wr (w.heap.size + 1 + 1) 37 #[.int .i64 p, .int .i64 q] := (by repeat (first | (with_reducible assumption) | ((with_reducible refine Bk.new _ _ _ ?_); first | (with_reducible rfl) | (simp; done)) | (with_reducible refine Bk.alloc ?_ _) | (with_reducible refine Bk.drew ?_) | (with_reducible refine Bk.drewN ?_ _) | ((with_reducible refine Bk.far ?_ ?_ _); rotate_left; focus (first | (simp; done) | (simp; omega))) | (with_reducible refine Bk.below ?_ (by with_reducible assumption)))); obtain ⟨kcQ5, kfQ5, kaQ5, kgQ5, klQ5⟩ := kQ5.rules; have kI5 : Bk wr (b6) 23 #[.int .i64 i.x0, .int .i64 i.y0, .int .i64 i.x1, .int .i64 i.y1] := (by repeat (first | (with_reducible assumption) | ((with_reducible refine Bk.new _ _ _ ?_); first | (with_reducible rfl) | (simp; done)) | (with_reducible refine Bk.alloc ?_ _) | (with_reducible refine Bk.drew ?_) | (with_reducible refine Bk.drewN ?_ _) | ((with_reducible refine Bk.far ?_ ?_ _); rotate_left; focus (first | (simp; done) | (simp; omega))) | (with_reducible refine Bk.below ?_ (by with_reducible assumption)))); obtain ⟨kcI5, kfI5, kaI5, kgI5, klI5⟩ := kI5.rules
      have hW5 : Below w.heap.size w wr := bstep hbw hW4
      have HR5 := Lib.hid (HR4.out.below hbw)
      have k4 : (k : Int) ≤ 4 := by omega
      have k0 : (0 : Int) ≤ (k : Int) := by omega
      clear kA4 kB4 kQ4 kI4 hW4 HR4 hbw HSs hlt hk HF HS HS0 hS
      go_wp2_with fail
      refine (area_q _ _ _ _ ar Har _).mono ?_
      rintro e w6 ⟨rfl, hb6⟩
      have kA6 : Bk w6 (w.heap.size) 23 #[.int .i64 a, .int .i64 b, .int .i64 c, .int .i64 d] := (by repeat (first | (with_reducible assumption) | ((with_reducible refine Bk.new _ _ _ ?_); first | (with_reducible rfl) | (simp; done)) | (with_reducible refine Bk.alloc ?_ _) | (with_reducible refine Bk.drew ?_) | (with_reducible refine Bk.drewN ?_ _) | ((with_reducible refine Bk.far ?_ ?_ _); rotate_left; focus (first | (simp; done) | (simp; omega))) | (with_reducible refine Bk.below ?_ (by with_reducible assumption)))); obtain ⟨kcA6, kfA6, kaA6, kgA6, klA6⟩ := kA6.rules; have kB6 : Bk w6 (w.heap.size + 1) 23 #[.int .i64 a', .int .i64 b', .int .i64 c', .int .i64 d'] := (by repeat (first | (with_reducible assumption) | ((with_reducible refine Bk.new _ _ _ ?_); first | (with_reducible rfl) | (simp; done)) | (with_reducible refine Bk.alloc ?_ _) | (with_reducible refine Bk.drew ?_) | (with_reducible refine Bk.drewN ?_ _) | ((with_reducible refine Bk.far ?_ ?_ _); rotate_left; focus (first | (simp; done) | (simp; omega))) | (with_reducible refine Bk.below ?_ (by with_reducible assumption)))); obtain ⟨kcB6, kfB6, kaB6, kgB6, klB6⟩ := kB6.rules; have kQ6 : Bk w6 (w.heap.size + 1 + 1) 37 #[.int .i64 p, .int .i64 q] := (by repeat (first | (with_reducible assumption) | ((with_reducible refine Bk.new _ _ _ ?_); first | (with_reducible rfl) | (simp; done)) | (with_reducible refine Bk.alloc ?_ _) | (with_reducible refine Bk.drew ?_) | (with_reducible refine Bk.drewN ?_ _) | ((with_reducible refine Bk.far ?_ ?_ _); rotate_left; focus (first | (simp; done) | (simp; omega))) | (with_reducible refine Bk.below ?_ (by with_reducible assumption)))); obtain ⟨kcQ6, kfQ6, kaQ6, kgQ6, klQ6⟩ := kQ6.rules; have kI6 : Bk w6 (b6) 23 #[.int .i64 i.x0, .int .i64 i.y0, .int .i64 i.x1, .int .i64 i.y1] := (by repeat (first | (with_reducible assumption) | ((with_reducible refine Bk.new _ _ _ ?_); first | (with_reducible rfl) | (simp; done)) | (with_reducible refine Bk.alloc ?_ _) | (with_reducible refine Bk.drew ?_) | (with_reducible refine Bk.drewN ?_ _) | ((with_reducible refine Bk.far ?_ ?_ _); rotate_left; focus (first | (simp; done) | (simp; omega))) | (with_reducible refine Bk.below ?_ (by with_reducible assumption)))); obtain ⟨kcI6, kfI6, kaI6, kgI6, klI6⟩ := kI6.rules
      have hW6 : Below w.heap.size w w6 := bstep hb6 hW5
      have HR6 := Lib.hid (HR5.out.below hb6)
      clear kA5 kcA5 kfA5 kaA5 kgA5 kB5 kcB5 kfB5 kaB5 kgB5 kQ5 kcQ5 kfQ5 kaQ5 kgQ5 kI5 kcI5 kfI5 kaI5 kgI5 HR5 hb6 hW5
      go_wp2_with fail
      refine (area_q _ _ _ _ ar Har _).mono ?_
      rintro e w7 ⟨rfl, hb7⟩
      have kA7 : Bk w7 (w.heap.size) 23 #[.int .i64 a, .int .i64 b, .int .i64 c, .int .i64 d] := (by repeat (first | (with_reducible assumption) | ((with_reducible refine Bk.new _ _ _ ?_); first | (with_reducible rfl) | (simp; done)) | (with_reducible refine Bk.alloc ?_ _) | (with_reducible refine Bk.drew ?_) | (with_reducible refine Bk.drewN ?_ _) | ((with_reducible refine Bk.far ?_ ?_ _); rotate_left; focus (first | (simp; done) | (simp; omega))) | (with_reducible refine Bk.below ?_ (by with_reducible assumption)))); obtain ⟨kcA7, kfA7, kaA7, kgA7, klA7⟩ := kA7.rules; have kB7 : Bk w7 (w.heap.size + 1) 23 #[.int .i64 a', .int .i64 b', .int .i64 c', .int .i64 d'] := (by repeat (first | (with_reducible assumption) | ((with_reducible refine Bk.new _ _ _ ?_); first | (with_reducible rfl) | (simp; done)) | (with_reducible refine Bk.alloc ?_ _) | (with_reducible refine Bk.drew ?_) | (with_reducible refine Bk.drewN ?_ _) | ((with_reducible refine Bk.far ?_ ?_ _); rotate_left; focus (first | (simp; done) | (simp; omega))) | (with_reducible refine Bk.below ?_ (by with_reducible assumption)))); obtain ⟨kcB7, kfB7, kaB7, kgB7, klB7⟩ := kB7.rules; have kQ7 : Bk w7 (w.heap.size + 1 + 1) 37 #[.int .i64 p, .int .i64 q] := (by repeat (first | (with_reducible assumption) | ((with_reducible refine Bk.new _ _ _ ?_); first | (with_reducible rfl) | (simp; done)) | (with_reducible refine Bk.alloc ?_ _) | (with_reducible refine Bk.drew ?_) | (with_reducible refine Bk.drewN ?_ _) | ((with_reducible refine Bk.far ?_ ?_ _); rotate_left; focus (first | (simp; done) | (simp; omega))) | (with_reducible refine Bk.below ?_ (by with_reducible assumption)))); obtain ⟨kcQ7, kfQ7, kaQ7, kgQ7, klQ7⟩ := kQ7.rules; have kI7 : Bk w7 (b6) 23 #[.int .i64 i.x0, .int .i64 i.y0, .int .i64 i.x1, .int .i64 i.y1] := (by repeat (first | (with_reducible assumption) | ((with_reducible refine Bk.new _ _ _ ?_); first | (with_reducible rfl) | (simp; done)) | (with_reducible refine Bk.alloc ?_ _) | (with_reducible refine Bk.drew ?_) | (with_reducible refine Bk.drewN ?_ _) | ((with_reducible refine Bk.far ?_ ?_ _); rotate_left; focus (first | (simp; done) | (simp; omega))) | (with_reducible refine Bk.below ?_ (by with_reducible assumption)))); obtain ⟨kcI7, kfI7, kaI7, kgI7, klI7⟩ := kI7.rules
      have hW7 : Below w.heap.size w w7 := bstep hb7 hW6
      have HR7 := Lib.hid (HR6.out.below hb7)
      clear kA6 kcA6 kfA6 kaA6 kgA6 kB6 kcB6 kfB6 kaB6 kgB6 kQ6 kcQ6 kfQ6 kaQ6 kgQ6 kI6 kcI6 kfI6 kaI6 kgI6 HR6 hb7 hW6
      cases g1 : decide (200 < ar) with
      | true =>
        go_wp2_with fail
        refine (ex_any _).mono ?_
        rintro e w8 ⟨rfl, hb8⟩
        go_wp2
        go_ret
        exact ⟨rfl, bstep hb8 hW7⟩
      | false =>
        go_wp2_with fail
        refine (empty_q _ _ _ _ e0 He0 _).mono ?_
        rintro e w8 ⟨rfl, hb8⟩
        have kA8 : Bk w8 (w.heap.size) 23 #[.int .i64 a, .int .i64 b, .int .i64 c, .int .i64 d] := (by repeat (first | (with_reducible assumption) | ((with_reducible refine Bk.new _ _ _ ?_); first | (with_reducible rfl) | (simp; done)) | (with_reducible refine Bk.alloc ?_ _) | (with_reducible refine Bk.drew ?_) | (with_reducible refine Bk.drewN ?_ _) | ((with_reducible refine Bk.far ?_ ?_ _); rotate_left; focus (first | (simp; done) | (simp; omega))) | (with_reducible refine Bk.below ?_ (by with_reducible assumption)))); obtain ⟨kcA8, kfA8, kaA8, kgA8, klA8⟩ := kA8.rules; have kB8 : Bk w8 (w.heap.size + 1) 23 #[.int .i64 a', .int .i64 b', .int .i64 c', .int .i64 d'] := (by repeat (first | (with_reducible assumption) | ((with_reducible refine Bk.new _ _ _ ?_); first | (with_reducible rfl) | (simp; done)) | (with_reducible refine Bk.alloc ?_ _) | (with_reducible refine Bk.drew ?_) | (with_reducible refine Bk.drewN ?_ _) | ((with_reducible refine Bk.far ?_ ?_ _); rotate_left; focus (first | (simp; done) | (simp; omega))) | (with_reducible refine Bk.below ?_ (by with_reducible assumption)))); obtain ⟨kcB8, kfB8, kaB8, kgB8, klB8⟩ := kB8.rules; have kQ8 : Bk w8 (w.heap.size + 1 + 1) 37 #[.int .i64 p, .int .i64 q] := (by repeat (first | (with_reducible assumption) | ((with_reducible refine Bk.new _ _ _ ?_); first | (with_reducible rfl) | (simp; done)) | (with_reducible refine Bk.alloc ?_ _) | (with_reducible refine Bk.drew ?_) | (with_reducible refine Bk.drewN ?_ _) | ((with_reducible refine Bk.far ?_ ?_ _); rotate_left; focus (first | (simp; done) | (simp; omega))) | (with_reducible refine Bk.below ?_ (by with_reducible assumption)))); obtain ⟨kcQ8, kfQ8, kaQ8, kgQ8, klQ8⟩ := kQ8.rules; have kI8 : Bk w8 (b6) 23 #[.int .i64 i.x0, .int .i64 i.y0, .int .i64 i.x1, .int .i64 i.y1] := (by repeat (first | (with_reducible assumption) | ((with_reducible refine Bk.new _ _ _ ?_); first | (with_reducible rfl) | (simp; done)) | (with_reducible refine Bk.alloc ?_ _) | (with_reducible refine Bk.drew ?_) | (with_reducible refine Bk.drewN ?_ _) | ((with_reducible refine Bk.far ?_ ?_ _); rotate_left; focus (first | (simp; done) | (simp; omega))) | (with_reducible refine Bk.below ?_ (by with_reducible assumption)))); obtain ⟨kcI8, kfI8, kaI8, kgI8, klI8⟩ := kI8.rules
        have hW8 : Below w.heap.size w w8 := bstep hb8 hW7
        have HR8 := Lib.hid (HR7.out.below hb8)
        clear kA7 kcA7 kfA7 kaA7 kgA7 kB7 kcB7 kfB7 kaB7 kgB7 kQ7 kcQ7 kfQ7 kaQ7 kgQ7 kI7 kcI7 kfI7 kaI7 kgI7 HR7 hb8 hW7
        cases e0 with
        | true =>
          go_wp2_with fail
          refine (ex_any _).mono ?_
          rintro e w9 ⟨rfl, hb9⟩
          go_wp2
          go_ret
          exact ⟨rfl, bstep hb9 hW8⟩
        | false =>
          have hT : Hid (T.take 1000 = T) := by
            unfold Hid
            refine List.take_of_length_le ?_
            rw [← HT.out]
            have h200 : areaR ⟨a, b, c, d⟩ ≤ 200 := by rw [Har.out]; simpa using g1
            exact Nat.le_trans (tiles_few h200 p q) (by decide)
          obtain ⟨M, HM⟩ : ∃ M, Hid (T.length = M) := ⟨_, rfl⟩
          have hM : M ≤ 200 := by
            rw [← HM.out, ← HT.out]
            have h200 : areaR ⟨a, b, c, d⟩ ≤ 200 := by rw [Har.out]; simpa using g1
            exact tiles_few h200 p q
          clear g1
          go_wp2_with fail
          refine (collect_any a b c d p q 1000 hp hq _).mono ?_
          rw [HT.out]
          rintro e w9 ⟨v9, rfl, ho9, hb9⟩
          rw [show (1000 : Int).toNat = 1000 from rfl, hT.out] at ho9
          obtain ⟨A9, c9, rfl, hr9, hc9⟩ := ho9.form encR_len
          rw [HM.out] at hc9 ⊢
          have kA9 : Bk w9 (w.heap.size) 23 #[.int .i64 a, .int .i64 b, .int .i64 c, .int .i64 d] := (by repeat (first | (with_reducible assumption) | ((with_reducible refine Bk.new _ _ _ ?_); first | (with_reducible rfl) | (simp; done)) | (with_reducible refine Bk.alloc ?_ _) | (with_reducible refine Bk.drew ?_) | (with_reducible refine Bk.drewN ?_ _) | ((with_reducible refine Bk.far ?_ ?_ _); rotate_left; focus (first | (simp; done) | (simp; omega))) | (with_reducible refine Bk.below ?_ (by with_reducible assumption)))); obtain ⟨kcA9, kfA9, kaA9, kgA9, klA9⟩ := kA9.rules; have kB9 : Bk w9 (w.heap.size + 1) 23 #[.int .i64 a', .int .i64 b', .int .i64 c', .int .i64 d'] := (by repeat (first | (with_reducible assumption) | ((with_reducible refine Bk.new _ _ _ ?_); first | (with_reducible rfl) | (simp; done)) | (with_reducible refine Bk.alloc ?_ _) | (with_reducible refine Bk.drew ?_) | (with_reducible refine Bk.drewN ?_ _) | ((with_reducible refine Bk.far ?_ ?_ _); rotate_left; focus (first | (simp; done) | (simp; omega))) | (with_reducible refine Bk.below ?_ (by with_reducible assumption)))); obtain ⟨kcB9, kfB9, kaB9, kgB9, klB9⟩ := kB9.rules; have kQ9 : Bk w9 (w.heap.size + 1 + 1) 37 #[.int .i64 p, .int .i64 q] := (by repeat (first | (with_reducible assumption) | ((with_reducible refine Bk.new _ _ _ ?_); first | (with_reducible rfl) | (simp; done)) | (with_reducible refine Bk.alloc ?_ _) | (with_reducible refine Bk.drew ?_) | (with_reducible refine Bk.drewN ?_ _) | ((with_reducible refine Bk.far ?_ ?_ _); rotate_left; focus (first | (simp; done) | (simp; omega))) | (with_reducible refine Bk.below ?_ (by with_reducible assumption)))); obtain ⟨kcQ9, kfQ9, kaQ9, kgQ9, klQ9⟩ := kQ9.rules; have kI9 : Bk w9 (b6) 23 #[.int .i64 i.x0, .int .i64 i.y0, .int .i64 i.x1, .int .i64 i.y1] := (by repeat (first | (with_reducible assumption) | ((with_reducible refine Bk.new _ _ _ ?_); first | (with_reducible rfl) | (simp; done)) | (with_reducible refine Bk.alloc ?_ _) | (with_reducible refine Bk.drew ?_) | (with_reducible refine Bk.drewN ?_ _) | ((with_reducible refine Bk.far ?_ ?_ _); rotate_left; focus (first | (simp; done) | (simp; omega))) | (with_reducible refine Bk.below ?_ (by with_reducible assumption)))); obtain ⟨kcI9, kfI9, kaI9, kgI9, klI9⟩ := kI9.rules
          have hW9 : Below w.heap.size w w9 := bstep hb9 hW8
          have HR9 := Lib.hid (HR8.out.below hb9)
          have HT9 := Lib.hid hr9
          clear kA8 kcA8 kfA8 kaA8 kgA8 kB8 kcB8 kfB8 kaB8 kgB8 kQ8 kcQ8 kfQ8 kaQ8 kgQ8 kI8 kcI8 kfI8 kaI8 kgI8 HR8 hb9 hW8 ho9 hr9 hT
          obtain ⟨f0, f1, f2, f3, f4, f5⟩ := (emptyB_iff _).1 He0.out
          dsimp only at f0 f1 f2 f3 f4 f5
          have HC : ∀ x y {u v : Bool}, containsB ⟨a, b, c, d⟩ x y = u → containsB ⟨a', b', c', d'⟩ x y = v → countC L x y = (if (u && !v) = true then 1 else 0) ∧ containsB i x y = (u && v) := by
            intro x y u v h1 h2
            rw [← HL.out, ← Hi.out]
            exact sub_at _ _ x y h1 h2
          clear Hi HL Har
          cases g1 : decide (0 < p) with
          | true =>
            cases g2 : decide (0 < q) with
            | true =>
              have HD : ∀ x y {u : Bool}, containsB ⟨a, b, c, d⟩ x y = u → countC T x y = (if (u && true) = true then 1 else 0) := by
                intro x y u h
                rw [← HT.out]
                exact tiles_at He0.out p q x y h (by rw [g1, g2]; rfl)
              go_wp2
              clear HT g1 g2
              go_loopw [14] (fun v wr => ∃ y : Int, v = .int .i64 y ∧ b - 1 ≤ y ∧ y ≤ d + 1 ∧ Below w9.heap.size w9 wr) (fun v _ => (d + 1 - intOf v).toNat)
              case atStart => exact ⟨_, rfl, by omega, by omega, Below.refl _ _⟩
              case round =>
                obtain ⟨y, rfl, y0, y1, hbw⟩ := hrel
                have kA0 := kA9.below hbw
                obtain ⟨kcA0, kfA0, kaA0, kgA0, klA0⟩ := kA0.rules
                by_cases hlt : y ≤ d
                · go_wp2
                  clear kcA0 kfA0 kaA0 kgA0 klA0 kA0
                  go_loopw [15] (fun v wr => ∃ x : Int, v = .int .i64 x ∧ a - 1 ≤ x ∧ x ≤ c + 1 ∧ Below w9.heap.size w9 wr) (fun v _ => (c + 1 - intOf v).toNat)
                  case atStart => exact ⟨_, rfl, by omega, by omega, hbw⟩
                  case round =>
                    clear hbw
                    obtain ⟨x, rfl, x0, x1, hbw⟩ := hrel
                    have kA0 : Bk wr (w.heap.size) 23 #[.int .i64 a, .int .i64 b, .int .i64 c, .int .i64 d] := (by repeat (first | (with_reducible assumption) | ((with_reducible refine Bk.new _ _ _ ?_); first | (with_reducible rfl) | (simp; done)) | (with_reducible refine Bk.alloc ?_ _) | (with_reducible refine Bk.drew ?_) | (with_reducible refine Bk.drewN ?_ _) | ((with_reducible refine Bk.far ?_ ?_ _); rotate_left; focus (first | (simp; done) | (simp; omega))) | (with_reducible refine Bk.below ?_ (by with_reducible assumption)))); obtain ⟨kcA0, kfA0, kaA0, kgA0, klA0⟩ := kA0.rules; have kB0 : Bk wr (w.heap.size + 1) 23 #[.int .i64 a', .int .i64 b', .int .i64 c', .int .i64 d'] := (by repeat (first | (with_reducible assumption) | ((with_reducible refine Bk.new _ _ _ ?_); first | (with_reducible rfl) | (simp; done)) | (with_reducible refine Bk.alloc ?_ _) | (with_reducible refine Bk.drew ?_) | (with_reducible refine Bk.drewN ?_ _) | ((with_reducible refine Bk.far ?_ ?_ _); rotate_left; focus (first | (simp; done) | (simp; omega))) | (with_reducible refine Bk.below ?_ (by with_reducible assumption)))); obtain ⟨kcB0, kfB0, kaB0, kgB0, klB0⟩ := kB0.rules
                    by_cases hlx : x ≤ c
                    · obtain ⟨u, Hu⟩ : ∃ u, Hid (containsB ⟨a, b, c, d⟩ x y = u) := ⟨_, rfl⟩
                      obtain ⟨v, Hv⟩ : ∃ v, Hid (containsB ⟨a', b', c', d'⟩ x y = v) := ⟨_, rfl⟩
                      go_wp2_with fail
                      refine wp_region_gob 10 [(0, true), (1, true), (2, true), (4, true), (5, true), (6, true), (3, false), (7, false), (8, true), (9, true)] (by kernel_rfl) (by kernel_rfl) (fun c a d v w h => by cases d <;> exact h) ?_
                      repeat (refine wpGo_pure (v := ?_) rfl rfl (fun w' hS => ?_) ?_; rotate_left; (· have kAp : Bk w' (w.heap.size) 23 #[.int .i64 a, .int .i64 b, .int .i64 c, .int .i64 d] := (by repeat (first | (with_reducible assumption) | ((with_reducible refine Bk.new _ _ _ ?_); first | (with_reducible rfl) | (simp; done)) | (with_reducible refine Bk.alloc ?_ _) | (with_reducible refine Bk.drew ?_) | (with_reducible refine Bk.drewN ?_ _) | ((with_reducible refine Bk.far ?_ ?_ _); rotate_left; focus (first | (simp; done) | (simp; omega))) | (with_reducible refine Bk.below ?_ (by with_reducible assumption)))); obtain ⟨kcAp, kfAp, kaAp, kgAp, klAp⟩ := kAp.rules; have kBp : Bk w' (w.heap.size + 1) 23 #[.int .i64 a', .int .i64 b', .int .i64 c', .int .i64 d'] := (by repeat (first | (with_reducible assumption) | ((with_reducible refine Bk.new _ _ _ ?_); first | (with_reducible rfl) | (simp; done)) | (with_reducible refine Bk.alloc ?_ _) | (with_reducible refine Bk.drew ?_) | (with_reducible refine Bk.drewN ?_ _) | ((with_reducible refine Bk.far ?_ ?_ _); rotate_left; focus (first | (simp; done) | (simp; omega))) | (with_reducible refine Bk.below ?_ (by with_reducible assumption)))); obtain ⟨kcBp, kfBp, kaBp, kgBp, klBp⟩ := kBp.rules; go_simp; exact rfl); (try simp only [Act.put, List.setIfInBounds_toArray, List.set_cons_zero, List.set_cons_succ]))
                      refine wpGo_eff rfl (fun K hK => ?_)
                      go_simp
                      refine (contains_q _ _ _ _ _ _ u Hu _).mono ?_
                      rintro e w10 ⟨rfl, hb10⟩
                      refine hK.out _ _ (by repeat (first | (with_reducible exact Below.refl _ _) | (with_reducible refine balloc ?_ _) | (with_reducible refine Below.drew ?_) | (with_reducible refine bdrewN ?_ _) | ((with_reducible refine bset ?_ ?_ _); rotate_left; focus (first | (with_reducible exact Nat.le_refl _) | (simp; done) | (simp; omega) | omega)) | (with_reducible refine bstep (by with_reducible assumption) ?_))) (fun hS10 => ?_)
                      clear hK K
                      refine wpGo_eff rfl (fun K hK => ?_)
                      go_simp
                      refine (contains_q _ _ _ _ _ _ v Hv _).mono ?_
                      rintro e w11 ⟨rfl, hb11⟩
                      refine hK.out _ _ (by repeat (first | (with_reducible exact Below.refl _ _) | (with_reducible refine balloc ?_ _) | (with_reducible refine Below.drew ?_) | (with_reducible refine bdrewN ?_ _) | ((with_reducible refine bset ?_ ?_ _); rotate_left; focus (first | (with_reducible exact Nat.le_refl _) | (simp; done) | (simp; omega) | omega)) | (with_reducible refine bstep (by with_reducible assumption) ?_))) (fun hS11 => ?_)
                      clear hK K
                      repeat (refine wpGo_pure (v := ?_) rfl rfl (fun w' hS => ?_) ?_; rotate_left; (· have kAp : Bk w' (w.heap.size) 23 #[.int .i64 a, .int .i64 b, .int .i64 c, .int .i64 d] := (by repeat (first | (with_reducible assumption) | ((with_reducible refine Bk.new _ _ _ ?_); first | (with_reducible rfl) | (simp; done)) | (with_reducible refine Bk.alloc ?_ _) | (with_reducible refine Bk.drew ?_) | (with_reducible refine Bk.drewN ?_ _) | ((with_reducible refine Bk.far ?_ ?_ _); rotate_left; focus (first | (simp; done) | (simp; omega))) | (with_reducible refine Bk.below ?_ (by with_reducible assumption)))); obtain ⟨kcAp, kfAp, kaAp, kgAp, klAp⟩ := kAp.rules; have kBp : Bk w' (w.heap.size + 1) 23 #[.int .i64 a', .int .i64 b', .int .i64 c', .int .i64 d'] := (by repeat (first | (with_reducible assumption) | ((with_reducible refine Bk.new _ _ _ ?_); first | (with_reducible rfl) | (simp; done)) | (with_reducible refine Bk.alloc ?_ _) | (with_reducible refine Bk.drew ?_) | (with_reducible refine Bk.drewN ?_ _) | ((with_reducible refine Bk.far ?_ ?_ _); rotate_left; focus (first | (simp; done) | (simp; omega))) | (with_reducible refine Bk.below ?_ (by with_reducible assumption)))); obtain ⟨kcBp, kfBp, kaBp, kgBp, klBp⟩ := kBp.rules; go_simp; exact rfl); (try simp only [Act.put, List.setIfInBounds_toArray, List.set_cons_zero, List.set_cons_succ]))
                      refine wpGo_nil ?_
                      simp only [List.drop_succ_cons, List.drop_zero]
                      have hw11 : Below w9.heap.size w9 w11 := bstep hS11 hbw
                      clear hS10 hS11 hb10 hb11 hbw kA0 kcA0 kfA0 kaA0 kgA0 klA0 kB0 kcB0 kfB0 kaB0 kgB0 klB0
                      cases u with
                      | true =>
                        cases v with
                        | true =>
                          have G1 : Hid ((countC L x y : Int) = 0) := by unfold Hid; rw [(HC x y Hu.out Hv.out).1]; rfl
                          have G2 : Hid (containsB ⟨i.x0, i.y0, i.x1, i.y1⟩ x y = true) := (HC x y Hu.out Hv.out).2
                          have G3 : Hid ((countC T x y : Int) = 1) := by unfold Hid; rw [HD x y Hu.out]; rfl
                          go_wp2_with fail
                          refine (containing_q A1 k c1 L x y 0 G1 HN.out (by omega) _ (HR9.out.below hw11)).mono ?_
                          rintro e w12 ⟨rfl, hb12⟩
                          have hw12 := bstep hb12 hw11
                          go_wp2_with fail
                          refine (containing_q A1 k c1 L x y 0 G1 HN.out (by omega) _ (HR9.out.below hw12)).mono ?_
                          rintro e w13 ⟨rfl, hb13⟩
                          have hw13 := bstep hb13 hw12
                          have kI13 := kI9.below hw13
                          obtain ⟨kcI13, kfI13, kaI13, kgI13, klI13⟩ := kI13.rules
                          go_wp2_with fail
                          refine (contains_q _ _ _ _ _ _ true G2 _).mono ?_
                          rintro e w14 ⟨rfl, hb14⟩
                          have hw14 := bstep hb14 hw13
                          clear kI13 kcI13 kfI13 kaI13 kgI13
                          go_wp2_with fail
                          refine (containing_q A9 M c9 T x y 1 G3 HM.out (by omega) _ (HT9.out.below hw14)).mono ?_
                          rintro e w15 ⟨rfl, hb15⟩
                          have hw15 := bstep hb15 hw14
                          go_wp2_with fail
                          refine (containing_q A9 M c9 T x y 1 G3 HM.out (by omega) _ (HT9.out.below hw15)).mono ?_
                          rintro e w16 ⟨rfl, hb16⟩
                          have hw16 := bstep hb16 hw15
                          clear G1 G2 G3 hb12 hb13 hb14 hb15 hb16
                          go_wp2
                          go_roundw
                          case rel => exact ⟨x + 1, by go_num, by omega, by omega, hw16⟩
                          case measure => simp [intOf]; omega
                        | false =>
                          have G1 : Hid ((countC L x y : Int) = 1) := by unfold Hid; rw [(HC x y Hu.out Hv.out).1]; rfl
                          have G2 : Hid (containsB ⟨i.x0, i.y0, i.x1, i.y1⟩ x y = false) := (HC x y Hu.out Hv.out).2
                          have G3 : Hid ((countC T x y : Int) = 1) := by unfold Hid; rw [HD x y Hu.out]; rfl
                          go_wp2_with fail
                          refine (containing_q A1 k c1 L x y 1 G1 HN.out (by omega) _ (HR9.out.below hw11)).mono ?_
                          rintro e w12 ⟨rfl, hb12⟩
                          have hw12 := bstep hb12 hw11
                          go_wp2_with fail
                          refine (containing_q A1 k c1 L x y 1 G1 HN.out (by omega) _ (HR9.out.below hw12)).mono ?_
                          rintro e w13 ⟨rfl, hb13⟩
                          have hw13 := bstep hb13 hw12
                          have kI13 := kI9.below hw13
                          obtain ⟨kcI13, kfI13, kaI13, kgI13, klI13⟩ := kI13.rules
                          go_wp2_with fail
                          refine (contains_q _ _ _ _ _ _ false G2 _).mono ?_
                          rintro e w14 ⟨rfl, hb14⟩
                          have hw14 := bstep hb14 hw13
                          clear kI13 kcI13 kfI13 kaI13 kgI13
                          go_wp2_with fail
                          refine (containing_q A9 M c9 T x y 1 G3 HM.out (by omega) _ (HT9.out.below hw14)).mono ?_
                          rintro e w15 ⟨rfl, hb15⟩
                          have hw15 := bstep hb15 hw14
                          go_wp2_with fail
                          refine (containing_q A9 M c9 T x y 1 G3 HM.out (by omega) _ (HT9.out.below hw15)).mono ?_
                          rintro e w16 ⟨rfl, hb16⟩
                          have hw16 := bstep hb16 hw15
                          clear G1 G2 G3 hb12 hb13 hb14 hb15 hb16
                          go_wp2
                          go_roundw
                          case rel => exact ⟨x + 1, by go_num, by omega, by omega, hw16⟩
                          case measure => simp [intOf]; omega
                      | false =>
                        cases v with
                        | true =>
                          have G1 : Hid ((countC L x y : Int) = 0) := by unfold Hid; rw [(HC x y Hu.out Hv.out).1]; rfl
                          have G2 : Hid (containsB ⟨i.x0, i.y0, i.x1, i.y1⟩ x y = false) := (HC x y Hu.out Hv.out).2
                          have G3 : Hid ((countC T x y : Int) = 0) := by unfold Hid; rw [HD x y Hu.out]; rfl
                          go_wp2_with fail
                          refine (containing_q A1 k c1 L x y 0 G1 HN.out (by omega) _ (HR9.out.below hw11)).mono ?_
                          rintro e w12 ⟨rfl, hb12⟩
                          have hw12 := bstep hb12 hw11
                          go_wp2_with fail
                          refine (containing_q A1 k c1 L x y 0 G1 HN.out (by omega) _ (HR9.out.below hw12)).mono ?_
                          rintro e w13 ⟨rfl, hb13⟩
                          have hw13 := bstep hb13 hw12
                          have kI13 := kI9.below hw13
                          obtain ⟨kcI13, kfI13, kaI13, kgI13, klI13⟩ := kI13.rules
                          go_wp2_with fail
                          refine (contains_q _ _ _ _ _ _ false G2 _).mono ?_
                          rintro e w14 ⟨rfl, hb14⟩
                          have hw14 := bstep hb14 hw13
                          clear kI13 kcI13 kfI13 kaI13 kgI13
                          go_wp2_with fail
                          refine (containing_q A9 M c9 T x y 0 G3 HM.out (by omega) _ (HT9.out.below hw14)).mono ?_
                          rintro e w15 ⟨rfl, hb15⟩
                          have hw15 := bstep hb15 hw14
                          go_wp2_with fail
                          refine (containing_q A9 M c9 T x y 0 G3 HM.out (by omega) _ (HT9.out.below hw15)).mono ?_
                          rintro e w16 ⟨rfl, hb16⟩
                          have hw16 := bstep hb16 hw15
                          clear G1 G2 G3 hb12 hb13 hb14 hb15 hb16
                          go_wp2
                          go_roundw
                          case rel => exact ⟨x + 1, by go_num, by omega, by omega, hw16⟩
                          case measure => simp [intOf]; omega
                        | false =>
                          have G1 : Hid ((countC L x y : Int) = 0) := by unfold Hid; rw [(HC x y Hu.out Hv.out).1]; rfl
                          have G2 : Hid (containsB ⟨i.x0, i.y0, i.x1, i.y1⟩ x y = false) := (HC x y Hu.out Hv.out).2
                          have G3 : Hid ((countC T x y : Int) = 0) := by unfold Hid; rw [HD x y Hu.out]; rfl
                          go_wp2_with fail
                          refine (containing_q A1 k c1 L x y 0 G1 HN.out (by omega) _ (HR9.out.below hw11)).mono ?_
                          rintro e w12 ⟨rfl, hb12⟩
                          have hw12 := bstep hb12 hw11
                          go_wp2_with fail
                          refine (containing_q A1 k c1 L x y 0 G1 HN.out (by omega) _ (HR9.out.below hw12)).mono ?_
                          rintro e w13 ⟨rfl, hb13⟩
                          have hw13 := bstep hb13 hw12
                          have kI13 := kI9.below hw13
                          obtain ⟨kcI13, kfI13, kaI13, kgI13, klI13⟩ := kI13.rules
                          go_wp2_with fail
                          refine (contains_q _ _ _ _ _ _ false G2 _).mono ?_
                          rintro e w14 ⟨rfl, hb14⟩
                          have hw14 := bstep hb14 hw13
                          clear kI13 kcI13 kfI13 kaI13 kgI13
                          go_wp2_with fail
                          refine (containing_q A9 M c9 T x y 0 G3 HM.out (by omega) _ (HT9.out.below hw14)).mono ?_
                          rintro e w15 ⟨rfl, hb15⟩
                          have hw15 := bstep hb15 hw14
                          go_wp2_with fail
                          refine (containing_q A9 M c9 T x y 0 G3 HM.out (by omega) _ (HT9.out.below hw15)).mono ?_
                          rintro e w16 ⟨rfl, hb16⟩
                          have hw16 := bstep hb16 hw15
                          clear G1 G2 G3 hb12 hb13 hb14 hb15 hb16
                          go_wp2
                          go_roundw
                          case rel => exact ⟨x + 1, by go_num, by omega, by omega, hw16⟩
                          case measure => simp [intOf]; omega
                    · go_wp2
                      go_roundw
                      case rel => exact ⟨y + 1, by go_num, by omega, by omega, hbw⟩
                      case measure => simp [intOf]; omega
                · go_wp2_with fail
                  refine (ex_any _).mono ?_
                  rintro e w17 ⟨rfl, hb17⟩
                  go_wp2
                  go_ret
                  exact ⟨rfl, bstep hb17 (bstep hbw hW9)⟩
            | false =>
              have HD : ∀ x y {u : Bool}, containsB ⟨a, b, c, d⟩ x y = u → countC T x y = (if (u && false) = true then 1 else 0) := by
                intro x y u h
                rw [← HT.out]
                exact tiles_at He0.out p q x y h (by rw [g1, g2]; rfl)
              go_wp2
              clear HT g1 g2
              go_loopw [14] (fun v wr => ∃ y : Int, v = .int .i64 y ∧ b - 1 ≤ y ∧ y ≤ d + 1 ∧ Below w9.heap.size w9 wr) (fun v _ => (d + 1 - intOf v).toNat)
              case atStart => exact ⟨_, rfl, by omega, by omega, Below.refl _ _⟩
              case round =>
                obtain ⟨y, rfl, y0, y1, hbw⟩ := hrel
                have kA0 := kA9.below hbw
                obtain ⟨kcA0, kfA0, kaA0, kgA0, klA0⟩ := kA0.rules
                by_cases hlt : y ≤ d
                · go_wp2
                  clear kcA0 kfA0 kaA0 kgA0 klA0 kA0
                  go_loopw [15] (fun v wr => ∃ x : Int, v = .int .i64 x ∧ a - 1 ≤ x ∧ x ≤ c + 1 ∧ Below w9.heap.size w9 wr) (fun v _ => (c + 1 - intOf v).toNat)
                  case atStart => exact ⟨_, rfl, by omega, by omega, hbw⟩
                  case round =>
                    clear hbw
                    obtain ⟨x, rfl, x0, x1, hbw⟩ := hrel
                    have kA0 : Bk wr (w.heap.size) 23 #[.int .i64 a, .int .i64 b, .int .i64 c, .int .i64 d] := (by repeat (first | (with_reducible assumption) | ((with_reducible refine Bk.new _ _ _ ?_); first | (with_reducible rfl) | (simp; done)) | (with_reducible refine Bk.alloc ?_ _) | (with_reducible refine Bk.drew ?_) | (with_reducible refine Bk.drewN ?_ _) | ((with_reducible refine Bk.far ?_ ?_ _); rotate_left; focus (first | (simp; done) | (simp; omega))) | (with_reducible refine Bk.below ?_ (by with_reducible assumption)))); obtain ⟨kcA0, kfA0, kaA0, kgA0, klA0⟩ := kA0.rules; have kB0 : Bk wr (w.heap.size + 1) 23 #[.int .i64 a', .int .i64 b', .int .i64 c', .int .i64 d'] := (by repeat (first | (with_reducible assumption) | ((with_reducible refine Bk.new _ _ _ ?_); first | (with_reducible rfl) | (simp; done)) | (with_reducible refine Bk.alloc ?_ _) | (with_reducible refine Bk.drew ?_) | (with_reducible refine Bk.drewN ?_ _) | ((with_reducible refine Bk.far ?_ ?_ _); rotate_left; focus (first | (simp; done) | (simp; omega))) | (with_reducible refine Bk.below ?_ (by with_reducible assumption)))); obtain ⟨kcB0, kfB0, kaB0, kgB0, klB0⟩ := kB0.rules
                    by_cases hlx : x ≤ c
                    · obtain ⟨u, Hu⟩ : ∃ u, Hid (containsB ⟨a, b, c, d⟩ x y = u) := ⟨_, rfl⟩
                      obtain ⟨v, Hv⟩ : ∃ v, Hid (containsB ⟨a', b', c', d'⟩ x y = v) := ⟨_, rfl⟩
                      go_wp2_with fail
                      refine wp_region_gob 10 [(0, true), (1, true), (2, true), (4, true), (5, true), (6, true), (3, false), (7, false), (8, true), (9, true)] (by kernel_rfl) (by kernel_rfl) (fun c a d v w h => by cases d <;> exact h) ?_
                      repeat (refine wpGo_pure (v := ?_) rfl rfl (fun w' hS => ?_) ?_; rotate_left; (· have kAp : Bk w' (w.heap.size) 23 #[.int .i64 a, .int .i64 b, .int .i64 c, .int .i64 d] := (by repeat (first | (with_reducible assumption) | ((with_reducible refine Bk.new _ _ _ ?_); first | (with_reducible rfl) | (simp; done)) | (with_reducible refine Bk.alloc ?_ _) | (with_reducible refine Bk.drew ?_) | (with_reducible refine Bk.drewN ?_ _) | ((with_reducible refine Bk.far ?_ ?_ _); rotate_left; focus (first | (simp; done) | (simp; omega))) | (with_reducible refine Bk.below ?_ (by with_reducible assumption)))); obtain ⟨kcAp, kfAp, kaAp, kgAp, klAp⟩ := kAp.rules; have kBp : Bk w' (w.heap.size + 1) 23 #[.int .i64 a', .int .i64 b', .int .i64 c', .int .i64 d'] := (by repeat (first | (with_reducible assumption) | ((with_reducible refine Bk.new _ _ _ ?_); first | (with_reducible rfl) | (simp; done)) | (with_reducible refine Bk.alloc ?_ _) | (with_reducible refine Bk.drew ?_) | (with_reducible refine Bk.drewN ?_ _) | ((with_reducible refine Bk.far ?_ ?_ _); rotate_left; focus (first | (simp; done) | (simp; omega))) | (with_reducible refine Bk.below ?_ (by with_reducible assumption)))); obtain ⟨kcBp, kfBp, kaBp, kgBp, klBp⟩ := kBp.rules; go_simp; exact rfl); (try simp only [Act.put, List.setIfInBounds_toArray, List.set_cons_zero, List.set_cons_succ]))
                      refine wpGo_eff rfl (fun K hK => ?_)
                      go_simp
                      refine (contains_q _ _ _ _ _ _ u Hu _).mono ?_
                      rintro e w10 ⟨rfl, hb10⟩
                      refine hK.out _ _ (by repeat (first | (with_reducible exact Below.refl _ _) | (with_reducible refine balloc ?_ _) | (with_reducible refine Below.drew ?_) | (with_reducible refine bdrewN ?_ _) | ((with_reducible refine bset ?_ ?_ _); rotate_left; focus (first | (with_reducible exact Nat.le_refl _) | (simp; done) | (simp; omega) | omega)) | (with_reducible refine bstep (by with_reducible assumption) ?_))) (fun hS10 => ?_)
                      clear hK K
                      refine wpGo_eff rfl (fun K hK => ?_)
                      go_simp
                      refine (contains_q _ _ _ _ _ _ v Hv _).mono ?_
                      rintro e w11 ⟨rfl, hb11⟩
                      refine hK.out _ _ (by repeat (first | (with_reducible exact Below.refl _ _) | (with_reducible refine balloc ?_ _) | (with_reducible refine Below.drew ?_) | (with_reducible refine bdrewN ?_ _) | ((with_reducible refine bset ?_ ?_ _); rotate_left; focus (first | (with_reducible exact Nat.le_refl _) | (simp; done) | (simp; omega) | omega)) | (with_reducible refine bstep (by with_reducible assumption) ?_))) (fun hS11 => ?_)
                      clear hK K
                      repeat (refine wpGo_pure (v := ?_) rfl rfl (fun w' hS => ?_) ?_; rotate_left; (· have kAp : Bk w' (w.heap.size) 23 #[.int .i64 a, .int .i64 b, .int .i64 c, .int .i64 d] := (by repeat (first | (with_reducible assumption) | ((with_reducible refine Bk.new _ _ _ ?_); first | (with_reducible rfl) | (simp; done)) | (with_reducible refine Bk.alloc ?_ _) | (with_reducible refine Bk.drew ?_) | (with_reducible refine Bk.drewN ?_ _) | ((with_reducible refine Bk.far ?_ ?_ _); rotate_left; focus (first | (simp; done) | (simp; omega))) | (with_reducible refine Bk.below ?_ (by with_reducible assumption)))); obtain ⟨kcAp, kfAp, kaAp, kgAp, klAp⟩ := kAp.rules; have kBp : Bk w' (w.heap.size + 1) 23 #[.int .i64 a', .int .i64 b', .int .i64 c', .int .i64 d'] := (by repeat (first | (with_reducible assumption) | ((with_reducible refine Bk.new _ _ _ ?_); first | (with_reducible rfl) | (simp; done)) | (with_reducible refine Bk.alloc ?_ _) | (with_reducible refine Bk.drew ?_) | (with_reducible refine Bk.drewN ?_ _) | ((with_reducible refine Bk.far ?_ ?_ _); rotate_left; focus (first | (simp; done) | (simp; omega))) | (with_reducible refine Bk.below ?_ (by with_reducible assumption)))); obtain ⟨kcBp, kfBp, kaBp, kgBp, klBp⟩ := kBp.rules; go_simp; exact rfl); (try simp only [Act.put, List.setIfInBounds_toArray, List.set_cons_zero, List.set_cons_succ]))
                      refine wpGo_nil ?_
                      simp only [List.drop_succ_cons, List.drop_zero]
                      have hw11 : Below w9.heap.size w9 w11 := bstep hS11 hbw
                      clear hS10 hS11 hb10 hb11 hbw kA0 kcA0 kfA0 kaA0 kgA0 klA0 kB0 kcB0 kfB0 kaB0 kgB0 klB0
                      cases u with
                      | true =>
                        cases v with
                        | true =>
                          have G1 : Hid ((countC L x y : Int) = 0) := by unfold Hid; rw [(HC x y Hu.out Hv.out).1]; rfl
                          have G2 : Hid (containsB ⟨i.x0, i.y0, i.x1, i.y1⟩ x y = true) := (HC x y Hu.out Hv.out).2
                          have G3 : Hid ((countC T x y : Int) = 0) := by unfold Hid; rw [HD x y Hu.out]; rfl
                          go_wp2_with fail
                          refine (containing_q A1 k c1 L x y 0 G1 HN.out (by omega) _ (HR9.out.below hw11)).mono ?_
                          rintro e w12 ⟨rfl, hb12⟩
                          have hw12 := bstep hb12 hw11
                          go_wp2_with fail
                          refine (containing_q A1 k c1 L x y 0 G1 HN.out (by omega) _ (HR9.out.below hw12)).mono ?_
                          rintro e w13 ⟨rfl, hb13⟩
                          have hw13 := bstep hb13 hw12
                          have kI13 := kI9.below hw13
                          obtain ⟨kcI13, kfI13, kaI13, kgI13, klI13⟩ := kI13.rules
                          go_wp2_with fail
                          refine (contains_q _ _ _ _ _ _ true G2 _).mono ?_
                          rintro e w14 ⟨rfl, hb14⟩
                          have hw14 := bstep hb14 hw13
                          clear kI13 kcI13 kfI13 kaI13 kgI13
                          go_wp2_with fail
                          refine (containing_q A9 M c9 T x y 0 G3 HM.out (by omega) _ (HT9.out.below hw14)).mono ?_
                          rintro e w15 ⟨rfl, hb15⟩
                          have hw15 := bstep hb15 hw14
                          go_wp2_with fail
                          refine (containing_q A9 M c9 T x y 0 G3 HM.out (by omega) _ (HT9.out.below hw15)).mono ?_
                          rintro e w16 ⟨rfl, hb16⟩
                          have hw16 := bstep hb16 hw15
                          clear G1 G2 G3 hb12 hb13 hb14 hb15 hb16
                          go_wp2
                          go_roundw
                          case rel => exact ⟨x + 1, by go_num, by omega, by omega, hw16⟩
                          case measure => simp [intOf]; omega
                        | false =>
                          have G1 : Hid ((countC L x y : Int) = 1) := by unfold Hid; rw [(HC x y Hu.out Hv.out).1]; rfl
                          have G2 : Hid (containsB ⟨i.x0, i.y0, i.x1, i.y1⟩ x y = false) := (HC x y Hu.out Hv.out).2
                          have G3 : Hid ((countC T x y : Int) = 0) := by unfold Hid; rw [HD x y Hu.out]; rfl
                          go_wp2_with fail
                          refine (containing_q A1 k c1 L x y 1 G1 HN.out (by omega) _ (HR9.out.below hw11)).mono ?_
                          rintro e w12 ⟨rfl, hb12⟩
                          have hw12 := bstep hb12 hw11
                          go_wp2_with fail
                          refine (containing_q A1 k c1 L x y 1 G1 HN.out (by omega) _ (HR9.out.below hw12)).mono ?_
                          rintro e w13 ⟨rfl, hb13⟩
                          have hw13 := bstep hb13 hw12
                          have kI13 := kI9.below hw13
                          obtain ⟨kcI13, kfI13, kaI13, kgI13, klI13⟩ := kI13.rules
                          go_wp2_with fail
                          refine (contains_q _ _ _ _ _ _ false G2 _).mono ?_
                          rintro e w14 ⟨rfl, hb14⟩
                          have hw14 := bstep hb14 hw13
                          clear kI13 kcI13 kfI13 kaI13 kgI13
                          go_wp2_with fail
                          refine (containing_q A9 M c9 T x y 0 G3 HM.out (by omega) _ (HT9.out.below hw14)).mono ?_
                          rintro e w15 ⟨rfl, hb15⟩
                          have hw15 := bstep hb15 hw14
                          go_wp2_with fail
                          refine (containing_q A9 M c9 T x y 0 G3 HM.out (by omega) _ (HT9.out.below hw15)).mono ?_
                          rintro e w16 ⟨rfl, hb16⟩
                          have hw16 := bstep hb16 hw15
                          clear G1 G2 G3 hb12 hb13 hb14 hb15 hb16
                          go_wp2
                          go_roundw
                          case rel => exact ⟨x + 1, by go_num, by omega, by omega, hw16⟩
                          case measure => simp [intOf]; omega
                      | false =>
                        cases v with
                        | true =>
                          have G1 : Hid ((countC L x y : Int) = 0) := by unfold Hid; rw [(HC x y Hu.out Hv.out).1]; rfl
                          have G2 : Hid (containsB ⟨i.x0, i.y0, i.x1, i.y1⟩ x y = false) := (HC x y Hu.out Hv.out).2
                          have G3 : Hid ((countC T x y : Int) = 0) := by unfold Hid; rw [HD x y Hu.out]; rfl
                          go_wp2_with fail
                          refine (containing_q A1 k c1 L x y 0 G1 HN.out (by omega) _ (HR9.out.below hw11)).mono ?_
                          rintro e w12 ⟨rfl, hb12⟩
                          have hw12 := bstep hb12 hw11
                          go_wp2_with fail
                          refine (containing_q A1 k c1 L x y 0 G1 HN.out (by omega) _ (HR9.out.below hw12)).mono ?_
                          rintro e w13 ⟨rfl, hb13⟩
                          have hw13 := bstep hb13 hw12
                          have kI13 := kI9.below hw13
                          obtain ⟨kcI13, kfI13, kaI13, kgI13, klI13⟩ := kI13.rules
                          go_wp2_with fail
                          refine (contains_q _ _ _ _ _ _ false G2 _).mono ?_
                          rintro e w14 ⟨rfl, hb14⟩
                          have hw14 := bstep hb14 hw13
                          clear kI13 kcI13 kfI13 kaI13 kgI13
                          go_wp2_with fail
                          refine (containing_q A9 M c9 T x y 0 G3 HM.out (by omega) _ (HT9.out.below hw14)).mono ?_
                          rintro e w15 ⟨rfl, hb15⟩
                          have hw15 := bstep hb15 hw14
                          go_wp2_with fail
                          refine (containing_q A9 M c9 T x y 0 G3 HM.out (by omega) _ (HT9.out.below hw15)).mono ?_
                          rintro e w16 ⟨rfl, hb16⟩
                          have hw16 := bstep hb16 hw15
                          clear G1 G2 G3 hb12 hb13 hb14 hb15 hb16
                          go_wp2
                          go_roundw
                          case rel => exact ⟨x + 1, by go_num, by omega, by omega, hw16⟩
                          case measure => simp [intOf]; omega
                        | false =>
                          have G1 : Hid ((countC L x y : Int) = 0) := by unfold Hid; rw [(HC x y Hu.out Hv.out).1]; rfl
                          have G2 : Hid (containsB ⟨i.x0, i.y0, i.x1, i.y1⟩ x y = false) := (HC x y Hu.out Hv.out).2
                          have G3 : Hid ((countC T x y : Int) = 0) := by unfold Hid; rw [HD x y Hu.out]; rfl
                          go_wp2_with fail
                          refine (containing_q A1 k c1 L x y 0 G1 HN.out (by omega) _ (HR9.out.below hw11)).mono ?_
                          rintro e w12 ⟨rfl, hb12⟩
                          have hw12 := bstep hb12 hw11
                          go_wp2_with fail
                          refine (containing_q A1 k c1 L x y 0 G1 HN.out (by omega) _ (HR9.out.below hw12)).mono ?_
                          rintro e w13 ⟨rfl, hb13⟩
                          have hw13 := bstep hb13 hw12
                          have kI13 := kI9.below hw13
                          obtain ⟨kcI13, kfI13, kaI13, kgI13, klI13⟩ := kI13.rules
                          go_wp2_with fail
                          refine (contains_q _ _ _ _ _ _ false G2 _).mono ?_
                          rintro e w14 ⟨rfl, hb14⟩
                          have hw14 := bstep hb14 hw13
                          clear kI13 kcI13 kfI13 kaI13 kgI13
                          go_wp2_with fail
                          refine (containing_q A9 M c9 T x y 0 G3 HM.out (by omega) _ (HT9.out.below hw14)).mono ?_
                          rintro e w15 ⟨rfl, hb15⟩
                          have hw15 := bstep hb15 hw14
                          go_wp2_with fail
                          refine (containing_q A9 M c9 T x y 0 G3 HM.out (by omega) _ (HT9.out.below hw15)).mono ?_
                          rintro e w16 ⟨rfl, hb16⟩
                          have hw16 := bstep hb16 hw15
                          clear G1 G2 G3 hb12 hb13 hb14 hb15 hb16
                          go_wp2
                          go_roundw
                          case rel => exact ⟨x + 1, by go_num, by omega, by omega, hw16⟩
                          case measure => simp [intOf]; omega
                    · go_wp2
                      go_roundw
                      case rel => exact ⟨y + 1, by go_num, by omega, by omega, hbw⟩
                      case measure => simp [intOf]; omega
                · go_wp2_with fail
                  refine (ex_any _).mono ?_
                  rintro e w17 ⟨rfl, hb17⟩
                  go_wp2
                  go_ret
                  exact ⟨rfl, bstep hb17 (bstep hbw hW9)⟩
          | false =>
            have HD : ∀ x y {u : Bool}, containsB ⟨a, b, c, d⟩ x y = u → countC T x y = (if (u && false) = true then 1 else 0) := by
              intro x y u h
              rw [← HT.out]
              exact tiles_at He0.out p q x y h (by rw [g1]; rfl)
            go_wp2
            clear HT g1
            go_loopw [14] (fun v wr => ∃ y : Int, v = .int .i64 y ∧ b - 1 ≤ y ∧ y ≤ d + 1 ∧ Below w9.heap.size w9 wr) (fun v _ => (d + 1 - intOf v).toNat)
            case atStart => exact ⟨_, rfl, by omega, by omega, Below.refl _ _⟩
            case round =>
              obtain ⟨y, rfl, y0, y1, hbw⟩ := hrel
              have kA0 := kA9.below hbw
              obtain ⟨kcA0, kfA0, kaA0, kgA0, klA0⟩ := kA0.rules
              by_cases hlt : y ≤ d
              · go_wp2
                clear kcA0 kfA0 kaA0 kgA0 klA0 kA0
                go_loopw [15] (fun v wr => ∃ x : Int, v = .int .i64 x ∧ a - 1 ≤ x ∧ x ≤ c + 1 ∧ Below w9.heap.size w9 wr) (fun v _ => (c + 1 - intOf v).toNat)
                case atStart => exact ⟨_, rfl, by omega, by omega, hbw⟩
                case round =>
                  clear hbw
                  obtain ⟨x, rfl, x0, x1, hbw⟩ := hrel
                  have kA0 : Bk wr (w.heap.size) 23 #[.int .i64 a, .int .i64 b, .int .i64 c, .int .i64 d] := (by repeat (first | (with_reducible assumption) | ((with_reducible refine Bk.new _ _ _ ?_); first | (with_reducible rfl) | (simp; done)) | (with_reducible refine Bk.alloc ?_ _) | (with_reducible refine Bk.drew ?_) | (with_reducible refine Bk.drewN ?_ _) | ((with_reducible refine Bk.far ?_ ?_ _); rotate_left; focus (first | (simp; done) | (simp; omega))) | (with_reducible refine Bk.below ?_ (by with_reducible assumption)))); obtain ⟨kcA0, kfA0, kaA0, kgA0, klA0⟩ := kA0.rules; have kB0 : Bk wr (w.heap.size + 1) 23 #[.int .i64 a', .int .i64 b', .int .i64 c', .int .i64 d'] := (by repeat (first | (with_reducible assumption) | ((with_reducible refine Bk.new _ _ _ ?_); first | (with_reducible rfl) | (simp; done)) | (with_reducible refine Bk.alloc ?_ _) | (with_reducible refine Bk.drew ?_) | (with_reducible refine Bk.drewN ?_ _) | ((with_reducible refine Bk.far ?_ ?_ _); rotate_left; focus (first | (simp; done) | (simp; omega))) | (with_reducible refine Bk.below ?_ (by with_reducible assumption)))); obtain ⟨kcB0, kfB0, kaB0, kgB0, klB0⟩ := kB0.rules
                  by_cases hlx : x ≤ c
                  · obtain ⟨u, Hu⟩ : ∃ u, Hid (containsB ⟨a, b, c, d⟩ x y = u) := ⟨_, rfl⟩
                    obtain ⟨v, Hv⟩ : ∃ v, Hid (containsB ⟨a', b', c', d'⟩ x y = v) := ⟨_, rfl⟩
                    go_wp2_with fail
                    refine wp_region_gob 10 [(0, true), (1, true), (2, true), (4, true), (5, true), (6, true), (3, false), (7, false), (8, true), (9, true)] (by kernel_rfl) (by kernel_rfl) (fun c a d v w h => by cases d <;> exact h) ?_
                    repeat (refine wpGo_pure (v := ?_) rfl rfl (fun w' hS => ?_) ?_; rotate_left; (· have kAp : Bk w' (w.heap.size) 23 #[.int .i64 a, .int .i64 b, .int .i64 c, .int .i64 d] := (by repeat (first | (with_reducible assumption) | ((with_reducible refine Bk.new _ _ _ ?_); first | (with_reducible rfl) | (simp; done)) | (with_reducible refine Bk.alloc ?_ _) | (with_reducible refine Bk.drew ?_) | (with_reducible refine Bk.drewN ?_ _) | ((with_reducible refine Bk.far ?_ ?_ _); rotate_left; focus (first | (simp; done) | (simp; omega))) | (with_reducible refine Bk.below ?_ (by with_reducible assumption)))); obtain ⟨kcAp, kfAp, kaAp, kgAp, klAp⟩ := kAp.rules; have kBp : Bk w' (w.heap.size + 1) 23 #[.int .i64 a', .int .i64 b', .int .i64 c', .int .i64 d'] := (by repeat (first | (with_reducible assumption) | ((with_reducible refine Bk.new _ _ _ ?_); first | (with_reducible rfl) | (simp; done)) | (with_reducible refine Bk.alloc ?_ _) | (with_reducible refine Bk.drew ?_) | (with_reducible refine Bk.drewN ?_ _) | ((with_reducible refine Bk.far ?_ ?_ _); rotate_left; focus (first | (simp; done) | (simp; omega))) | (with_reducible refine Bk.below ?_ (by with_reducible assumption)))); obtain ⟨kcBp, kfBp, kaBp, kgBp, klBp⟩ := kBp.rules; go_simp; exact rfl); (try simp only [Act.put, List.setIfInBounds_toArray, List.set_cons_zero, List.set_cons_succ]))
                    refine wpGo_eff rfl (fun K hK => ?_)
                    go_simp
                    refine (contains_q _ _ _ _ _ _ u Hu _).mono ?_
                    rintro e w10 ⟨rfl, hb10⟩
                    refine hK.out _ _ (by repeat (first | (with_reducible exact Below.refl _ _) | (with_reducible refine balloc ?_ _) | (with_reducible refine Below.drew ?_) | (with_reducible refine bdrewN ?_ _) | ((with_reducible refine bset ?_ ?_ _); rotate_left; focus (first | (with_reducible exact Nat.le_refl _) | (simp; done) | (simp; omega) | omega)) | (with_reducible refine bstep (by with_reducible assumption) ?_))) (fun hS10 => ?_)
                    clear hK K
                    refine wpGo_eff rfl (fun K hK => ?_)
                    go_simp
                    refine (contains_q _ _ _ _ _ _ v Hv _).mono ?_
                    rintro e w11 ⟨rfl, hb11⟩
                    refine hK.out _ _ (by repeat (first | (with_reducible exact Below.refl _ _) | (with_reducible refine balloc ?_ _) | (with_reducible refine Below.drew ?_) | (with_reducible refine bdrewN ?_ _) | ((with_reducible refine bset ?_ ?_ _); rotate_left; focus (first | (with_reducible exact Nat.le_refl _) | (simp; done) | (simp; omega) | omega)) | (with_reducible refine bstep (by with_reducible assumption) ?_))) (fun hS11 => ?_)
                    clear hK K
                    repeat (refine wpGo_pure (v := ?_) rfl rfl (fun w' hS => ?_) ?_; rotate_left; (· have kAp : Bk w' (w.heap.size) 23 #[.int .i64 a, .int .i64 b, .int .i64 c, .int .i64 d] := (by repeat (first | (with_reducible assumption) | ((with_reducible refine Bk.new _ _ _ ?_); first | (with_reducible rfl) | (simp; done)) | (with_reducible refine Bk.alloc ?_ _) | (with_reducible refine Bk.drew ?_) | (with_reducible refine Bk.drewN ?_ _) | ((with_reducible refine Bk.far ?_ ?_ _); rotate_left; focus (first | (simp; done) | (simp; omega))) | (with_reducible refine Bk.below ?_ (by with_reducible assumption)))); obtain ⟨kcAp, kfAp, kaAp, kgAp, klAp⟩ := kAp.rules; have kBp : Bk w' (w.heap.size + 1) 23 #[.int .i64 a', .int .i64 b', .int .i64 c', .int .i64 d'] := (by repeat (first | (with_reducible assumption) | ((with_reducible refine Bk.new _ _ _ ?_); first | (with_reducible rfl) | (simp; done)) | (with_reducible refine Bk.alloc ?_ _) | (with_reducible refine Bk.drew ?_) | (with_reducible refine Bk.drewN ?_ _) | ((with_reducible refine Bk.far ?_ ?_ _); rotate_left; focus (first | (simp; done) | (simp; omega))) | (with_reducible refine Bk.below ?_ (by with_reducible assumption)))); obtain ⟨kcBp, kfBp, kaBp, kgBp, klBp⟩ := kBp.rules; go_simp; exact rfl); (try simp only [Act.put, List.setIfInBounds_toArray, List.set_cons_zero, List.set_cons_succ]))
                    refine wpGo_nil ?_
                    simp only [List.drop_succ_cons, List.drop_zero]
                    have hw11 : Below w9.heap.size w9 w11 := bstep hS11 hbw
                    clear hS10 hS11 hb10 hb11 hbw kA0 kcA0 kfA0 kaA0 kgA0 klA0 kB0 kcB0 kfB0 kaB0 kgB0 klB0
                    cases u with
                    | true =>
                      cases v with
                      | true =>
                        have G1 : Hid ((countC L x y : Int) = 0) := by unfold Hid; rw [(HC x y Hu.out Hv.out).1]; rfl
                        have G2 : Hid (containsB ⟨i.x0, i.y0, i.x1, i.y1⟩ x y = true) := (HC x y Hu.out Hv.out).2
                        have G3 : Hid ((countC T x y : Int) = 0) := by unfold Hid; rw [HD x y Hu.out]; rfl
                        go_wp2_with fail
                        refine (containing_q A1 k c1 L x y 0 G1 HN.out (by omega) _ (HR9.out.below hw11)).mono ?_
                        rintro e w12 ⟨rfl, hb12⟩
                        have hw12 := bstep hb12 hw11
                        go_wp2_with fail
                        refine (containing_q A1 k c1 L x y 0 G1 HN.out (by omega) _ (HR9.out.below hw12)).mono ?_
                        rintro e w13 ⟨rfl, hb13⟩
                        have hw13 := bstep hb13 hw12
                        have kI13 := kI9.below hw13
                        obtain ⟨kcI13, kfI13, kaI13, kgI13, klI13⟩ := kI13.rules
                        go_wp2_with fail
                        refine (contains_q _ _ _ _ _ _ true G2 _).mono ?_
                        rintro e w14 ⟨rfl, hb14⟩
                        have hw14 := bstep hb14 hw13
                        clear kI13 kcI13 kfI13 kaI13 kgI13
                        go_wp2_with fail
                        refine (containing_q A9 M c9 T x y 0 G3 HM.out (by omega) _ (HT9.out.below hw14)).mono ?_
                        rintro e w15 ⟨rfl, hb15⟩
                        have hw15 := bstep hb15 hw14
                        go_wp2_with fail
                        refine (containing_q A9 M c9 T x y 0 G3 HM.out (by omega) _ (HT9.out.below hw15)).mono ?_
                        rintro e w16 ⟨rfl, hb16⟩
                        have hw16 := bstep hb16 hw15
                        clear G1 G2 G3 hb12 hb13 hb14 hb15 hb16
                        go_wp2
                        go_roundw
                        case rel => exact ⟨x + 1, by go_num, by omega, by omega, hw16⟩
                        case measure => simp [intOf]; omega
                      | false =>
                        have G1 : Hid ((countC L x y : Int) = 1) := by unfold Hid; rw [(HC x y Hu.out Hv.out).1]; rfl
                        have G2 : Hid (containsB ⟨i.x0, i.y0, i.x1, i.y1⟩ x y = false) := (HC x y Hu.out Hv.out).2
                        have G3 : Hid ((countC T x y : Int) = 0) := by unfold Hid; rw [HD x y Hu.out]; rfl
                        go_wp2_with fail
                        refine (containing_q A1 k c1 L x y 1 G1 HN.out (by omega) _ (HR9.out.below hw11)).mono ?_
                        rintro e w12 ⟨rfl, hb12⟩
                        have hw12 := bstep hb12 hw11
                        go_wp2_with fail
                        refine (containing_q A1 k c1 L x y 1 G1 HN.out (by omega) _ (HR9.out.below hw12)).mono ?_
                        rintro e w13 ⟨rfl, hb13⟩
                        have hw13 := bstep hb13 hw12
                        have kI13 := kI9.below hw13
                        obtain ⟨kcI13, kfI13, kaI13, kgI13, klI13⟩ := kI13.rules
                        go_wp2_with fail
                        refine (contains_q _ _ _ _ _ _ false G2 _).mono ?_
                        rintro e w14 ⟨rfl, hb14⟩
                        have hw14 := bstep hb14 hw13
                        clear kI13 kcI13 kfI13 kaI13 kgI13
                        go_wp2_with fail
                        refine (containing_q A9 M c9 T x y 0 G3 HM.out (by omega) _ (HT9.out.below hw14)).mono ?_
                        rintro e w15 ⟨rfl, hb15⟩
                        have hw15 := bstep hb15 hw14
                        go_wp2_with fail
                        refine (containing_q A9 M c9 T x y 0 G3 HM.out (by omega) _ (HT9.out.below hw15)).mono ?_
                        rintro e w16 ⟨rfl, hb16⟩
                        have hw16 := bstep hb16 hw15
                        clear G1 G2 G3 hb12 hb13 hb14 hb15 hb16
                        go_wp2
                        go_roundw
                        case rel => exact ⟨x + 1, by go_num, by omega, by omega, hw16⟩
                        case measure => simp [intOf]; omega
                    | false =>
                      cases v with
                      | true =>
                        have G1 : Hid ((countC L x y : Int) = 0) := by unfold Hid; rw [(HC x y Hu.out Hv.out).1]; rfl
                        have G2 : Hid (containsB ⟨i.x0, i.y0, i.x1, i.y1⟩ x y = false) := (HC x y Hu.out Hv.out).2
                        have G3 : Hid ((countC T x y : Int) = 0) := by unfold Hid; rw [HD x y Hu.out]; rfl
                        go_wp2_with fail
                        refine (containing_q A1 k c1 L x y 0 G1 HN.out (by omega) _ (HR9.out.below hw11)).mono ?_
                        rintro e w12 ⟨rfl, hb12⟩
                        have hw12 := bstep hb12 hw11
                        go_wp2_with fail
                        refine (containing_q A1 k c1 L x y 0 G1 HN.out (by omega) _ (HR9.out.below hw12)).mono ?_
                        rintro e w13 ⟨rfl, hb13⟩
                        have hw13 := bstep hb13 hw12
                        have kI13 := kI9.below hw13
                        obtain ⟨kcI13, kfI13, kaI13, kgI13, klI13⟩ := kI13.rules
                        go_wp2_with fail
                        refine (contains_q _ _ _ _ _ _ false G2 _).mono ?_
                        rintro e w14 ⟨rfl, hb14⟩
                        have hw14 := bstep hb14 hw13
                        clear kI13 kcI13 kfI13 kaI13 kgI13
                        go_wp2_with fail
                        refine (containing_q A9 M c9 T x y 0 G3 HM.out (by omega) _ (HT9.out.below hw14)).mono ?_
                        rintro e w15 ⟨rfl, hb15⟩
                        have hw15 := bstep hb15 hw14
                        go_wp2_with fail
                        refine (containing_q A9 M c9 T x y 0 G3 HM.out (by omega) _ (HT9.out.below hw15)).mono ?_
                        rintro e w16 ⟨rfl, hb16⟩
                        have hw16 := bstep hb16 hw15
                        clear G1 G2 G3 hb12 hb13 hb14 hb15 hb16
                        go_wp2
                        go_roundw
                        case rel => exact ⟨x + 1, by go_num, by omega, by omega, hw16⟩
                        case measure => simp [intOf]; omega
                      | false =>
                        have G1 : Hid ((countC L x y : Int) = 0) := by unfold Hid; rw [(HC x y Hu.out Hv.out).1]; rfl
                        have G2 : Hid (containsB ⟨i.x0, i.y0, i.x1, i.y1⟩ x y = false) := (HC x y Hu.out Hv.out).2
                        have G3 : Hid ((countC T x y : Int) = 0) := by unfold Hid; rw [HD x y Hu.out]; rfl
                        go_wp2_with fail
                        refine (containing_q A1 k c1 L x y 0 G1 HN.out (by omega) _ (HR9.out.below hw11)).mono ?_
                        rintro e w12 ⟨rfl, hb12⟩
                        have hw12 := bstep hb12 hw11
                        go_wp2_with fail
                        refine (containing_q A1 k c1 L x y 0 G1 HN.out (by omega) _ (HR9.out.below hw12)).mono ?_
                        rintro e w13 ⟨rfl, hb13⟩
                        have hw13 := bstep hb13 hw12
                        have kI13 := kI9.below hw13
                        obtain ⟨kcI13, kfI13, kaI13, kgI13, klI13⟩ := kI13.rules
                        go_wp2_with fail
                        refine (contains_q _ _ _ _ _ _ false G2 _).mono ?_
                        rintro e w14 ⟨rfl, hb14⟩
                        have hw14 := bstep hb14 hw13
                        clear kI13 kcI13 kfI13 kaI13 kgI13
                        go_wp2_with fail
                        refine (containing_q A9 M c9 T x y 0 G3 HM.out (by omega) _ (HT9.out.below hw14)).mono ?_
                        rintro e w15 ⟨rfl, hb15⟩
                        have hw15 := bstep hb15 hw14
                        go_wp2_with fail
                        refine (containing_q A9 M c9 T x y 0 G3 HM.out (by omega) _ (HT9.out.below hw15)).mono ?_
                        rintro e w16 ⟨rfl, hb16⟩
                        have hw16 := bstep hb16 hw15
                        clear G1 G2 G3 hb12 hb13 hb14 hb15 hb16
                        go_wp2
                        go_roundw
                        case rel => exact ⟨x + 1, by go_num, by omega, by omega, hw16⟩
                        case measure => simp [intOf]; omega
                  · go_wp2
                    go_roundw
                    case rel => exact ⟨y + 1, by go_num, by omega, by omega, hbw⟩
                    case measure => simp [intOf]; omega
              · go_wp2_with fail
                refine (ex_any _).mono ?_
                rintro e w17 ⟨rfl, hb17⟩
                go_wp2
                go_ret
                exact ⟨rfl, bstep hb17 (bstep hbw hW9)⟩


set_option maxRecDepth 100000 in
theorem lifted_RectSubtract (os : Os) (started : os.Started) (H : Type) (enc : TypeId × Value → H) :
    ReturnsInHanded {} Try.checked os 8 .any (Rows.rectSubtractSpec.pre6 enc Try.prog Try.f8 Rows.rectSubtractRow.domain false) (Rows.rectSubtractSpec.post enc Try.prog Try.f8 false true false false) := by
  refine returnsInHanded_of_change (C := Try.checked) Try.own started (by kernel_rfl) Try.func8
    (ChangeSpec.witness6 (enc := enc) (C := Try.checked) false ⟨#[], #[.agg #[.int .i64 0, .int .i64 0, .int .i64 0, .int .i64 0], .agg #[.int .i64 0, .int .i64 0, .int .i64 0, .int .i64 0], .agg #[.int .i64 0, .int .i64 0]], []⟩ 8 (by kernel_rfl) (by kernel_rfl) (by kernel_rfl) (by kernel_rfl)) ?_
  intro W base args ds gs before hval0 hW hcnd _
  have hval : ∀ (j : Nat) t v, Try.f8.params[j]? = some t → args[j]? = some v → Value.okWide Try.prog W .any base t v := hval0
  have hW' := hW
  obtain ⟨p, q, hA0, hV, rfl, hfz, hnd⟩ := hW
  have hA : DataW.TrodAll enc Try.prog W 0 (fun _ => true) true Try.f8.params.toList args.toList ds p := hA0
  rw [Try.params8] at hA hval
  obtain ⟨v0, vs0, d0, ds0, p0, q0, hargs, rfl, rfl, h0, r0⟩ := trodAll_cons hA
  obtain ⟨v1, vs1, d1, ds1, p1, q1, rfl, rfl, rfl, h1, r1⟩ := trodAll_cons r0
  obtain ⟨v2, vs2, d2, ds2, p2, q2, rfl, rfl, rfl, h2, r2⟩ := trodAll_cons r1
  obtain ⟨rfl, rfl, rfl⟩ := trodAll_nil r2
  obtain rfl : args = #[v0, v1, v2] := by cases args; simp_all
  obtain ⟨c00, c01, c02, c03, y00, y01, y02, y03, n0, rfl, _, _, f00, f01, f02, f03⟩ := Joins.open_agg4 Try.underlying23 (by kernel_rfl) (by kernel_rfl) (hval 0 23 v0 rfl rfl) h0
  obtain ⟨x00, rfl, g00⟩ := fld_int Try.underlying3 f00
  obtain ⟨x01, rfl, g01⟩ := fld_int Try.underlying3 f01
  obtain ⟨x02, rfl, g02⟩ := fld_int Try.underlying3 f02
  obtain ⟨x03, rfl, g03⟩ := fld_int Try.underlying3 f03
  obtain ⟨c10, c11, c12, c13, y10, y11, y12, y13, n1, rfl, _, _, f10, f11, f12, f13⟩ := Joins.open_agg4 Try.underlying23 (by kernel_rfl) (by kernel_rfl) (hval 1 23 v1 rfl rfl) h1
  obtain ⟨x10, rfl, g10⟩ := fld_int Try.underlying3 f10
  obtain ⟨x11, rfl, g11⟩ := fld_int Try.underlying3 f11
  obtain ⟨x12, rfl, g12⟩ := fld_int Try.underlying3 f12
  obtain ⟨x13, rfl, g13⟩ := fld_int Try.underlying3 f13
  obtain ⟨l2, hl2, rfl, hw2⟩ := open_arr Try.underlying37 Try.underlying2 (by kernel_rfl) (by kernel_rfl) (hval 2 37 v2 rfl rfl) h2
  obtain ⟨x20, x21, rfl⟩ := len2 hl2
  refine (walk_RectSubtract x00 x01 x02 x03 x10 x11 x12 x13 x20 x21 W (bounds_i64 (hw2 x20 (by simp))) (bounds_i64 (hw2 x21 (by simp)))).mono fun e W' ⟨he, hb⟩ => ?_
  subst he
  exact ⟨_, rfl, law_post (tb := 4) Try.laidOut (by kernel_rfl) hW' rfl rfl Try.underlying4 rfl rfl rfl hb⟩

theorem RectSubtract_holds : Rows.RectSubtractSaid :=
  OpenClaim.holds_of_wide 8 Try.f8 rfl rfl rfl rfl rfl rfl rfl ⟨rfl, rfl, rfl, rfl, rfl⟩ rfl rfl rfl rfl rfl (by kernel_rfl) Try.func8 (by kernel_rfl)
    (of_decide_eq_true (by kernel_rfl)) (by unfold Func.isWrapper; first | (rw [if_pos (by decide +kernel)]; kernel_rfl) | (rw [if_neg (by decide +kernel)]; exact ⟨rfl, rfl⟩))
    (fun os started H enc _ => lifted_RectSubtract os started H enc)
#print axioms RectSubtract_holds
end Go.Proofs.Ytiaeaegocfmjhaa
