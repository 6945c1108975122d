/-
  Texts put together: Ext0, ExtD, ExtE.
-/
import Derived.Test.YtndablijjkchjaaExtP
import Derived.Test.YtndablijjkchjaaMkClone
import Derived.Test.YtndablijjkchjaaMkP
import Derived.Test.YtndablijjkchjaaLineRD
import Derived.Test.YtndablijjkchjaaLineCD
import Derived.Test.YtndablijjkchjaaLineRE
import Derived.Test.YtndablijjkchjaaLineCE
namespace Go.Proofs.Ytndablijjkchjaa
open Go.RowKit
set_option linter.unusedSimpArgs false
set_option linter.unusedVariables false

set_option maxHeartbeats 800000 in
theorem rowat_any (cR g o cnt c' i : Nat) (v : Int) (w : World) (hb : Bk w cR 27 #[.slice (some ⟨g, o, none⟩) cnt c']) (hi : i < cnt) (hcnt : cnt ≤ 67108864) (hc : w.cell? ⟨g, o + i, none⟩ = some (.int .u8 v)) :
    Calls Try.prog 93 #[.int .i64 (i : Int), .pointer (some ⟨cR, 0, none⟩)] w fun e w' => e = .returned (.int .u8 v) ∧ Below w.heap.size w w' := by
  obtain ⟨kc, kf, ka, kg, kl⟩ := hb.rules
  have i0 : (0 : Int) ≤ (i : Int) := by omega
  have i1 : (i : Int) < (cnt : Int) := by omega
  go_enter Try.func93, Try.ntmps93
  go_wp2
  go_ret
  exact ⟨rfl, (by repeat (first | (with_reducible exact Below.refl _ _) | (with_reducible refine balloc ?_ _) | (with_reducible refine Below.drew ?_) | (with_reducible refine bdrewN ?_ _) | ((with_reducible refine bset ?_ ?_ _); rotate_left; focus (first | (with_reducible exact Nat.le_refl _) | (simp; done) | (simp; omega) | omega)) | (with_reducible refine bstep (by with_reducible assumption) ?_)))⟩
set_option maxHeartbeats 800000 in
theorem colat_any (cG cX g wd ht n c i x : Nat) (v : Int) (w : World) (hb : Bk w cG 70 #[.int .i64 (wd : Int), .int .i64 (ht : Int), .slice (some ⟨g, 0, none⟩) n c]) (hx : Bk w cX 3 #[.int .i64 (x : Int)]) (hi : i * wd + x < n) (hn : n ≤ 67108864) (hc : w.cell? ⟨g, i * wd + x, none⟩ = some (.int .u8 v)) :
    Calls Try.prog 94 #[.int .i64 (i : Int), .pointer (some ⟨cG, 0, none⟩), .pointer (some ⟨cX, 0, none⟩)] w fun e w' => e = .returned (.int .u8 v) ∧ Below w.heap.size w w' := by
  obtain ⟨kc, kf, ka, kg, kl⟩ := hb.rules
  obtain ⟨kc2, kf2, ka2, kg2, kl2⟩ := hx.rules
  have f1 : (i : Int) * (wd : Int) + (x : Int) = ((i * wd + x : Nat) : Int) := by simp
  have b1 : 0 ≤ (i : Int) * (wd : Int) := Int.mul_nonneg (by omega) (by omega)
  generalize i * wd + x = k at *
  have i0 : (0 : Int) ≤ (k : Int) := by omega
  have i1 : (k : Int) < (n : Int) := by omega
  go_enter Try.func94, Try.ntmps94
  go_wp2
  go_ret
  exact ⟨rfl, (by repeat (first | (with_reducible exact Below.refl _ _) | (with_reducible refine balloc ?_ _) | (with_reducible refine Below.drew ?_) | (with_reducible refine bdrewN ?_ _) | ((with_reducible refine bset ?_ ?_ _); rotate_left; focus (first | (with_reducible exact Nat.le_refl _) | (simp; done) | (simp; omega) | omega)) | (with_reducible refine bstep (by with_reducible assumption) ?_)))⟩
theorem gF_at {wd ht : Nat} {m : List Int} (hm : m.length = ht * wd) {i y : Nat} (hi : i < wd) (hy : y < ht) : m[y * wd + i]? = some (gF wd m i y) := by
  have := idx_lt hi hy
  unfold gF; rw [List.getD_eq_getElem?_getD, List.getElem?_eq_getElem (by omega)]; rfl
theorem own_cell {w : World} {base g n c k : Nat} {v : Int} {m : List Int} (h : OwnL encB 5 1 w base (.slice (some ⟨g, 0, none⟩) n c) m) (hk : m[k]? = some v) : w.cell? ⟨g, k, none⟩ = some (.int .u8 v) := by
  obtain ⟨hlt, he⟩ := List.getElem?_eq_some_iff.1 hk
  obtain ⟨A, c0, hv, hr, _⟩ := h.form encB_len
  injection hv with h1 h2 h3
  obtain ⟨g', o', hA, _, hc⟩ := rd1 hr hlt
  rw [← h1] at hA
  injection hA with hA
  injection hA with e1 e2
  subst e1 e2
  rw [Nat.zero_add, he] at hc
  exact hc
theorem own_lt {w : World} {base g n c : Nat} {m : List Int} (h : OwnL encB 5 1 w base (.slice (some ⟨g, 0, none⟩) n c) m) (hm : m ≠ []) : base ≤ g ∧ g < w.heap.size ∧ m.length = n ∧ n ≤ c ∧ c ≤ maxLen ∧ ∀ o, w.frozen? ⟨g, o, none⟩ = false := by
  obtain ⟨g', cap, cur, hv, h1, h2, h3, h4, _⟩ := h.block hm
  injection hv with e1 e2 e3
  injection e1 with e1
  injection e1 with e1
  subst e1 e3
  exact ⟨h1, h2.lt, e2.symm, by omega, h4, h2.rules.2.1⟩
end Go.Proofs.Ytndablijjkchjaa

namespace Go.Proofs.Ytndablijjkchjaa
open Go.RowKit
set_option linter.unusedSimpArgs false
set_option linter.unusedVariables false

set_option maxHeartbeats 12800000 in
theorem extreme_D (wd ht nn : Nat) (A : Option Addr) (n c : Nat) (L : List Int) (base : Nat) (w : World) (ho : OwnL encB 5 1 w base (.slice A n c) L) (hn : L.length = n) (ha : ht * wd = n) (hwd : wd ≤ 8192) (hht : ht ≤ 8192) (hz : 0 < ht → 0 < wd) (hz2 : 0 < wd → 0 < ht) (hb : bytesB L) (hnn : nn ≤ 64) :
    Calls Try.prog 87 #[.agg #[.int .i64 (wd : Int), .int .i64 (ht : Int), .slice A n c], .int .i64 (nn : Int), .func (.func 75) #[] #[]] w fun e w' => e = .returned (.tuple #[]) ∧ OwnL encB 5 1 w' base (.slice A n c) (exL 1 wd ht nn L) ∧ w.grownBy w' (Value.ownBlock (.slice A n c)) := by
  obtain ⟨RW, HRW⟩ : ∃ P : Nat → List Int → Prop, Hid (P = RowI 1 wd ht nn L) := ⟨_, rfl⟩
  have hn2 : n ≤ 67108864 := by rw [← ha]; exact Nat.mul_le_mul hht hwd
  have HBY : Hid (byteG wd ht L) := fun i y hi hy => gF_byte (ht := ht) hb i y
  have HA := Lib.hid ha
  have hr0 : RW 0 L := by rw [HRW.out]; exact RowI.start (by rw [hn, ha])
  have HR0 := Lib.hid hr0
  obtain ⟨ob, hob⟩ : ∃ ob, Value.ownBlock (.slice A n c) = ob := ⟨_, rfl⟩
  have HOB := Lib.hid hob
  rw [hob]
  have ho1 : OwnL encB 5 1 (w.alloc (.cells #[.int .i64 (wd : Int), .int .i64 (ht : Int), .slice A n c] 70)) base (.slice A n c) L := ho.alloc _
  have kG1 : Bk (w.alloc (.cells #[.int .i64 (wd : Int), .int .i64 (ht : Int), .slice A n c] 70)) w.heap.size 70 #[.int .i64 (wd : Int), .int .i64 (ht : Int), .slice A n c] := Bk.new _ _ _ rfl
  have hgr1 : w.grownBy (w.alloc (.cells #[.int .i64 (wd : Int), .int .i64 (ht : Int), .slice A n c] 70)) ob := gstep (grefl _ _) ((Below.refl _ _).alloc (Nat.le_refl _) _)
  obtain ⟨kc, kf, ka, kg, kl⟩ := kG1.rules
  clear ho hb hr0 hob ha hn
  go_enter Try.func87, Try.ntmps87
  go_wp2_with fail
  clear kc kf ka kg kl
  go_loopw [14] (fun i wr => ∃ (j : Nat) (m : List Int), j ≤ ht ∧ i = .int .i64 (j : Int) ∧ Bk wr w.heap.size 70 #[.int .i64 (wd : Int), .int .i64 (ht : Int), .slice A n c] ∧ OwnL encB 5 1 wr base (.slice A n c) m ∧ Hid (RW j m) ∧ w.grownBy wr ob) (fun i _ => ht - (intOf i).toNat)
  case atStart => exact ⟨0, L, Nat.zero_le _, rfl, kG1, ho1, HR0, hgr1⟩
  case round =>
    clear kG1 ho1 HR0 hgr1
    obtain ⟨j, m, hj, rfl, jG, jo, HR, jgr⟩ := hrel
    obtain ⟨kc, kf, ka, kg, kl⟩ := jG.rules
    have hR : RowI 1 wd ht nn L j m := by have h := HR.out; rwa [HRW.out] at h
    have hml : m.length = n := by rw [hR.len]; exact HA.out
    by_cases hlt : j < ht
    · have hwp := hz (by omega)
      have hk1 : (j + 1) * wd ≤ n := by rw [← HA.out]; exact Nat.mul_le_mul_right _ hlt
      rw [Nat.succ_mul] at hk1
      have hne : m ≠ [] := by intro h; rw [h] at hml; simp at hml; omega
      obtain ⟨g, cap, cur, hvv, -⟩ := jo.block hne
      have hAg : A = some ⟨g, 0, none⟩ := by injection hvv
      subst hAg
      obtain ⟨hbg, hglt, -, hnc, hcm, hfz⟩ := own_lt jo hne
      have hobg : ob = some g := HOB.out.symm
      subst hobg
      have hGg : w.heap.size ≠ g := fun h => jo.neBk jG (by decide) (by rw [h]; rfl)
      have HK : Hid (RowI 1 wd ht nn L (j + 1) (splL m (j * wd) (lineL 1 (fun i => gF wd m i j) wd nn))) := hR.step hlt
      have HBM : Hid (byteG wd ht m) := hR.byte (.inl rfl) HBY.out
      have HGA : Hid (∀ i, i < wd → m[j * wd + i]? = some (gF wd m i j)) := fun i hi => gF_at hR.len hi hlt
      have f1 : (j : Int) * (wd : Int) = ((j * wd : Nat) : Int) := by simp
      have f2 : ((j : Int) + 1) * (wd : Int) = ((j * wd : Nat) : Int) + (wd : Int) := by rw [Int.add_mul, Int.one_mul]; simp
      have HKw := Lib.hid hk1
      clear hR hvv
      generalize j * wd = k at *
      have hck : ¬ (c = k) := by omega
      have m0 : max (k : Int) 0 = (k : Int) := Int.max_eq_left (by omega)
      have g0 : (0 : Int) ≤ (k : Int) := by omega
      have g1 : (k : Int) ≤ (k : Int) + (wd : Int) := by omega
      have g2 : (k : Int) + (wd : Int) ≤ (c : Int) := by omega
      have e1 : ((k : Int) + (wd : Int)).toNat = k + wd := by omega
      have e2 : k + wd - k = wd := by omega
      unfold maxLen at hcm
      go_wp2_with fail
      clear kc kf ka kg kl f1 f2 m0 g0 g1 g2 e1 e2
      have q0G := (jG.alloc (.cells #[.slice (some ⟨g, k, none⟩) wd (c - k)] 27)).drew
      have q0R := (Bk.new wr 27 #[.slice (some ⟨g, k, none⟩) wd (c - k)] (g := wr.heap.size) rfl).drew
      have q0o := (jo.alloc (.cells #[.slice (some ⟨g, k, none⟩) wd (c - k)] 27)).drew
      have q0gr : w.grownBy (wr.alloc (.cells #[.slice (some ⟨g, k, none⟩) wd (c - k)] 27)).drew (some g) := gstep jgr (((Below.refl _ _).alloc (Nat.le_refl _) _).drew)
      refine wp_region_go 7 [(0, true), (1, true), (2, true), (4, true), (5, true), (3, false), (6, false)] (fun w' => Bk w' w.heap.size 70 #[.int .i64 (wd : Int), .int .i64 (ht : Int), .slice (some ⟨g, 0, none⟩) n c] ∧ Bk w' wr.heap.size 27 #[.slice (some ⟨g, k, none⟩) wd (c - k)]) (by kernel_rfl) (by kernel_rfl) (fun c a d v w h => by cases d <;> exact h) ⟨q0G, q0R⟩ ?_
      repeat (first | (refine wpGo_pure (v := ?_) rfl rfl (fun w' hS => ?_) ?_; rotate_left; (· obtain ⟨kc0, kf0, ka0, kg0, kl0⟩ := Bk.rules hS.1; obtain ⟨kc1, kf1, ka1, kg1, kl1⟩ := Bk.rules hS.2; go_simp; exact rfl); (try simp only [Act.put, List.setIfInBounds_toArray, List.set_cons_zero, List.set_cons_succ])) | ((refine wpGo_skip rfl rfl ?_); (try simp only [Act.put, List.setIfInBounds_toArray, List.set_cons_zero, List.set_cons_succ])))
      refine wpGo_eff rfl (fun K hK => ?_)
      go_simp
      refine hK.out _ _ ⟨q0G, q0R⟩ (fun _ => ?_)
      clear hK K
      try simp only [Act.put, List.setIfInBounds_toArray, List.set_cons_zero, List.set_cons_succ]
      refine wpGo_eff rfl (fun K hK => ?_)
      go_simp
      refine (line_RD wd nn wr.heap.size (fun i => gF wd m i j) _ hwd hnn (fun i hi => HBM.out i j hi hlt) (fun i w' hi hb' => rowat_any wr.heap.size g k wd (c - k) i _ w' (q0R.below hb') hi (by omega) (own_cell (q0o.below hb') (HGA.out i hi)))).mono ?_
      rintro e w2 ⟨v, rfl, ov, hb2⟩
      have q1G := q0G.below hb2
      have q1R := q0R.below hb2
      have q1o := q0o.below hb2
      have q1gr := gstep q0gr hb2
      refine hK.out _ _ ⟨q1G, q1R⟩ (fun _ => ?_)
      clear hK K
      try simp only [Act.put, List.setIfInBounds_toArray, List.set_cons_zero, List.set_cons_succ]
      obtain ⟨T, HT⟩ : ∃ T, Hid (lineL 1 (fun i => gF wd m i j) wd nn = T) := ⟨_, rfl⟩
      rw [HT.out] at ov
      have HTL : Hid (T.length = wd) := by unfold Hid; rw [← HT.out]; exact lineL_len _ _ _ _
      obtain ⟨A2, c2, hv2, hrd2, _⟩ := ov.form encB_len
      have hrT : 0 < T.length := by rw [HTL.out]; exact hwp
      obtain ⟨g2, o2, hA2, hg2, hc2⟩ := rd1 hrd2 hrT
      subst hA2
      rw [HTL.out] at hv2
      subst hv2
      have HRD := Lib.hid hrd2
      have HTK : Hid (k + T.length ≤ n) := by unfold Hid; rw [HTL.out]; exact HKw.out
      clear hrd2 hc2
      refine wpGo_nil ?_
      simp only [List.drop_succ_cons, List.drop_zero]
      refine wpList_copy_len encB_len encB_one 27 27 Try.underlying27 (by kernel_rfl) rfl _ _ rfl base g k n c (c - k) c2 wd wd m T q1o hml hne g2 o2 HRD.out HTK.out (by rw [HTL.out]; exact Nat.le_refl _) (by rw [Nat.mul_one]; first | rfl | simp) (by first | rfl | simp) HTL.out.symm ?_
      intro v3 w3 q3o hg3
      have q3G := q1G.grown hg3 (by intro h; injection h with h; exact hGg h)
      have q3gr := q1gr.trans hg3
      clear q0G q0R q0o q0gr q1G q1R q1o q1gr hb2
      have e3 : exL = exL := rfl
      clear e3
      have HSP : Hid (RW (j + 1) (splL m k T)) := by unfold Hid; rw [HRW.out, ← HT.out]; exact HK.out
      go_wp2
      go_roundw
      case rel => exact ⟨j + 1, _, by omega, by go_num, q3G, q3o, HSP, q3gr⟩
      case measure => simp [intOf]; omega
    · obtain rfl : j = ht := by omega
      have hmB : byteG wd j m := hR.byte (.inl rfl) HBY.out
      have HM := Lib.hid hR
      have HMB := Lib.hid hmB
      obtain ⟨CL, HCL⟩ : ∃ P : Nat → Nat → List Int → Prop, Hid (P = ColI 1 wd j nn m) := ⟨_, rfl⟩
      have HC0 : Hid (CL 0 0 m) := by unfold Hid; rw [HCL.out]; exact ColI.start hR.len
      clear hR hmB HR hlt
      go_wp2_with fail
      clear kc kf ka kg kl
      go_loopw [40] (fun i wr => ∃ (x : Nat) (q : List Int), x ≤ wd ∧ i = .int .i64 (x : Int) ∧ Bk wr w.heap.size 70 #[.int .i64 (wd : Int), .int .i64 (j : Int), .slice A n c] ∧ OwnL encB 5 1 wr base (.slice A n c) q ∧ Hid (CL x 0 q) ∧ w.grownBy wr ob) (fun i _ => wd - (intOf i).toNat)
      case atStart => exact ⟨0, m, Nat.zero_le _, rfl, jG, jo, HC0, jgr⟩
      case round =>
        clear jG jo HC0 jgr
        obtain ⟨x, q, hx, rfl, jG, jo, HC, jgr⟩ := hrel
        obtain ⟨kc, kf, ka, kg, kl⟩ := jG.rules
        have hC : ColI 1 wd j nn m x 0 q := by have h := HC.out; rwa [HCL.out] at h
        have hql : q.length = n := by rw [hC.len]; exact HA.out
        by_cases hlx : x < wd
        · have hhp := hz2 (by omega)
          have hne : q ≠ [] := by
            intro h; rw [h] at hql
            have := idx_lt hlx hhp
            rw [HA.out] at this
            simp at hql; omega
          obtain ⟨g, cap, cur, hvv, -⟩ := jo.block hne
          have hAg : A = some ⟨g, 0, none⟩ := by injection hvv
          subst hAg
          obtain ⟨hbg, hglt, -, hnc, hcm, hfz⟩ := own_lt jo hne
          have hobg : ob = some g := HOB.out.symm
          subst hobg
          have HLN : Hid (lineL 1 (fun y => gF wd q x y) j nn = lineL 1 (fun y => gF wd m x y) j nn) := hC.line hlx
          have HQB : Hid (byteG wd j q) := hC.byte (.inl rfl) HMB.out
          have HQA : Hid (∀ y, y < j → q[y * wd + x]? = some (gF wd q x y)) := fun y hy => gF_at hC.len hlx hy
          clear hvv
          have q0G := jG.alloc (.cells #[.int .i64 (x : Int)] 3)
          have q0X := Bk.new wr 3 #[.int .i64 (x : Int)] (g := wr.heap.size) rfl
          have q0o := jo.alloc (.cells #[.int .i64 (x : Int)] 3)
          have q0gr : w.grownBy (wr.alloc (.cells #[.int .i64 (x : Int)] 3)) (some g) := gstep jgr ((Below.refl _ _).alloc (Nat.le_refl _) _)
          go_wp2_with fail
          clear kc kf ka kg kl
          refine (line_CD j nn w.heap.size wr.heap.size (fun y => gF wd q x y) _ hht hnn (fun y hy => HQB.out x y hlx hy) (fun y w' hy hb' => colat_any w.heap.size wr.heap.size g wd j n c y x _ w' (q0G.below hb') (q0X.below hb') (by have := idx_lt hlx hy; rw [HA.out] at this; exact this) hn2 (own_cell (q0o.below hb') (HQA.out y hy)))).mono ?_
          rintro e w2 ⟨v, rfl, ov, hb2⟩
          have q1G := q0G.below hb2
          have q1X := q0X.below hb2
          have q1o := q0o.below hb2
          have q1gr := gstep q0gr hb2
          obtain ⟨b2, hb2e⟩ : ∃ b, (wr.alloc (.cells #[.int .i64 (x : Int)] 3)).heap.size = b := ⟨_, rfl⟩
          rw [hb2e] at ov
          have hgb2 : g < b2 := by rw [← hb2e]; simp; omega
          rw [HLN.out] at ov
          obtain ⟨T, HT⟩ : ∃ T, Hid (lineL 1 (fun y => gF wd m x y) j nn = T) := ⟨_, rfl⟩
          rw [HT.out] at ov
          have HTL : Hid (T.length = j) := by unfold Hid; rw [← HT.out]; exact lineL_len _ _ _ _
          obtain ⟨A2, c2, hv2, _, _⟩ := ov.form encB_len
          rw [HTL.out] at hv2
          subst hv2
          obtain ⟨gX, hgX⟩ : ∃ b, wr.heap.size = b := ⟨_, rfl⟩
          rw [hgX] at q1X
          have hGlt := jG.lt
          rw [hgX] at hglt hGlt ⊢
          have HC' := HC
          clear q0G q0X q0o q0gr hb2 jG jo jgr hb2e HC hC hql hne
          go_wp2_with fail
          go_loopw [51] (fun i wr => ∃ (r : Nat) (q : List Int), r ≤ j ∧ i = .int .i64 (r : Int) ∧ Bk wr w.heap.size 70 #[.int .i64 (wd : Int), .int .i64 (j : Int), .slice (some ⟨g, 0, none⟩) n c] ∧ Bk wr gX 3 #[.int .i64 (x : Int)] ∧ OwnL encB 5 1 wr base (.slice (some ⟨g, 0, none⟩) n c) q ∧ OwnL encB 5 1 wr b2 (.slice A2 j c2) T ∧ Hid (CL x r q) ∧ w.grownBy wr (some g)) (fun i _ => j - (intOf i).toNat)
          case atStart => exact ⟨0, q, Nat.zero_le _, rfl, q1G, q1X, q1o, ov, HC', q1gr⟩
          case round =>
            clear q1G q1X q1o ov HC' q1gr
            obtain ⟨r, q, hr, rfl, jG, jX, jo, ov, HC, jgr⟩ := hrel
            obtain ⟨kc, kf, ka, kg, kl⟩ := jG.rules
            obtain ⟨kcx, kfx, kax, kgx, klx⟩ := jX.rules
            have hC : ColI 1 wd j nn m x r q := by have h := HC.out; rwa [HCL.out] at h
            have hql : q.length = n := by rw [hC.len]; exact HA.out
            by_cases hlr : r < j
            · have hrT : r < T.length := by rw [HTL.out]; exact hlr
              obtain ⟨_, _, hvf, hrd, _⟩ := ov.form encB_len
              injection hvf with hvf1 hvf2 hvf3
              rw [← hvf1] at hrd
              obtain ⟨g2, o2, hA2, hg2, hc2⟩ := rd1 hrd hrT
              subst hA2
              obtain ⟨p, Hp⟩ : ∃ p, Hid (T[r] = p) := ⟨T[r], rfl⟩
              rw [Hp.out] at hc2
              have hpv : p = lineV 1 (fun y => gF wd m x y) j nn r := by
                have hk2 : r < (lineL 1 (fun y => gF wd m x y) j nn).length := by rw [HT.out]; exact hrT
                have h1 : T[r] = (lineL 1 (fun y => gF wd m x y) j nn)[r] := by congr 1; exact HT.out.symm
                rw [← Hp.out, h1, lineL_at]
              have HST : Hid (CL x (r + 1) (q.set (r * wd + x) p)) := by unfold Hid; rw [HCL.out, hpv]; exact hC.step hlx hlr
              have hkn := idx_lt hlx hlr
              rw [HA.out] at hkn
              obtain ⟨y0, hy0⟩ : ∃ y, q[r * wd + x]? = some y := ⟨_, List.getElem?_eq_getElem (by omega)⟩
              have hcg := own_cell jo hy0
              have hne : q ≠ [] := by intro h; rw [h] at hql; simp at hql; omega
              have hfz := (own_lt jo hne).2.2.2.2.2 (r * wd + x)
              have hglt' := (own_lt jo hne).2.1
              have om := OwnL.storeAt encB_len jo (show r * wd + x < q.length by omega) 0 (.int .u8 p) p (by decide) rfl hql.symm
              rw [Nat.mul_one, Nat.add_zero] at om
              have mG := jG.far (p := ⟨g, r * wd + x, none⟩) (show w.heap.size ≠ g from fun h => jo.neBk jG (by decide) (by rw [h]; rfl)) (.int .u8 p)
              have mX := jX.far (p := ⟨g, r * wd + x, none⟩) (show gX ≠ g by omega) (.int .u8 p)
              have ov2 : OwnL encB 5 1 (wr.setCell ⟨g, r * wd + x, none⟩ (.int .u8 p)) b2 (.slice (some ⟨g2, o2, none⟩) j c2) T := ownsRow_setCell_other ov (fun h => by
                have h1 := (World.ownsRow.lt ov g h).1
                omega) _
              have mgr := gset jgr (r * wd + x) (.int .u8 p)
              have f1 : (r : Int) * (wd : Int) + (x : Int) = ((r * wd + x : Nat) : Int) := by simp
              have b1 : 0 ≤ (r : Int) * (wd : Int) := Int.mul_nonneg (by omega) (by omega)
              have HPV := Lib.hid hpv
              clear hpv hvf1 hvf2 hvf3 hy0 HC hC ov jgr jG jX hrd
              generalize r * wd + x = k at *
              have i0 : (0 : Int) ≤ (k : Int) := by omega
              have i1 : (k : Int) < (n : Int) := by omega
              have i2 : (0 : Int) ≤ (r : Int) := by omega
              go_wp2
              go_roundw
              case rel => exact ⟨r + 1, _, by omega, by go_num, mG, mX, om, ov2, HST, mgr⟩
              case measure => simp [intOf]; omega
            · obtain rfl : r = j := by omega
              have HCn : Hid (CL (x + 1) 0 q) := by unfold Hid; rw [HCL.out]; exact hC.next
              clear HC hC
              go_wp2
              go_roundw
              case rel => exact ⟨x + 1, q, by omega, by go_num, jG, jo, HCn, jgr⟩
              case measure => simp [intOf]; omega
        · obtain rfl : x = wd := by omega
          have hE : q = exL 1 x j nn L := ColI.done HM.out hC
          rw [hE] at jo
          go_wp2
          go_end0
          exact ⟨rfl, jo, jgr⟩
end Go.Proofs.Ytndablijjkchjaa

namespace Go.Proofs.Ytndablijjkchjaa
open Go.RowKit
set_option linter.unusedSimpArgs false
set_option linter.unusedVariables false

set_option maxHeartbeats 12800000 in
theorem extreme_E (wd ht nn : Nat) (A : Option Addr) (n c : Nat) (L : List Int) (base : Nat) (w : World) (ho : OwnL encB 5 1 w base (.slice A n c) L) (hn : L.length = n) (ha : ht * wd = n) (hwd : wd ≤ 8192) (hht : ht ≤ 8192) (hz : 0 < ht → 0 < wd) (hz2 : 0 < wd → 0 < ht) (hb : bytesB L) (hnn : nn ≤ 64) :
    Calls Try.prog 87 #[.agg #[.int .i64 (wd : Int), .int .i64 (ht : Int), .slice A n c], .int .i64 (nn : Int), .func (.func 76) #[] #[]] w fun e w' => e = .returned (.tuple #[]) ∧ OwnL encB 5 1 w' base (.slice A n c) (exL (-1) wd ht nn L) ∧ w.grownBy w' (Value.ownBlock (.slice A n c)) := by
  obtain ⟨RW, HRW⟩ : ∃ P : Nat → List Int → Prop, Hid (P = RowI (-1) wd ht nn L) := ⟨_, rfl⟩
  have hn2 : n ≤ 67108864 := by rw [← ha]; exact Nat.mul_le_mul hht hwd
  have HBY : Hid (byteG wd ht L) := fun i y hi hy => gF_byte (ht := ht) hb i y
  have HA := Lib.hid ha
  have hr0 : RW 0 L := by rw [HRW.out]; exact RowI.start (by rw [hn, ha])
  have HR0 := Lib.hid hr0
  obtain ⟨ob, hob⟩ : ∃ ob, Value.ownBlock (.slice A n c) = ob := ⟨_, rfl⟩
  have HOB := Lib.hid hob
  rw [hob]
  have ho1 : OwnL encB 5 1 (w.alloc (.cells #[.int .i64 (wd : Int), .int .i64 (ht : Int), .slice A n c] 70)) base (.slice A n c) L := ho.alloc _
  have kG1 : Bk (w.alloc (.cells #[.int .i64 (wd : Int), .int .i64 (ht : Int), .slice A n c] 70)) w.heap.size 70 #[.int .i64 (wd : Int), .int .i64 (ht : Int), .slice A n c] := Bk.new _ _ _ rfl
  have hgr1 : w.grownBy (w.alloc (.cells #[.int .i64 (wd : Int), .int .i64 (ht : Int), .slice A n c] 70)) ob := gstep (grefl _ _) ((Below.refl _ _).alloc (Nat.le_refl _) _)
  obtain ⟨kc, kf, ka, kg, kl⟩ := kG1.rules
  clear ho hb hr0 hob ha hn
  go_enter Try.func87, Try.ntmps87
  go_wp2_with fail
  clear kc kf ka kg kl
  go_loopw [14] (fun i wr => ∃ (j : Nat) (m : List Int), j ≤ ht ∧ i = .int .i64 (j : Int) ∧ Bk wr w.heap.size 70 #[.int .i64 (wd : Int), .int .i64 (ht : Int), .slice A n c] ∧ OwnL encB 5 1 wr base (.slice A n c) m ∧ Hid (RW j m) ∧ w.grownBy wr ob) (fun i _ => ht - (intOf i).toNat)
  case atStart => exact ⟨0, L, Nat.zero_le _, rfl, kG1, ho1, HR0, hgr1⟩
  case round =>
    clear kG1 ho1 HR0 hgr1
    obtain ⟨j, m, hj, rfl, jG, jo, HR, jgr⟩ := hrel
    obtain ⟨kc, kf, ka, kg, kl⟩ := jG.rules
    have hR : RowI (-1) wd ht nn L j m := by have h := HR.out; rwa [HRW.out] at h
    have hml : m.length = n := by rw [hR.len]; exact HA.out
    by_cases hlt : j < ht
    · have hwp := hz (by omega)
      have hk1 : (j + 1) * wd ≤ n := by rw [← HA.out]; exact Nat.mul_le_mul_right _ hlt
      rw [Nat.succ_mul] at hk1
      have hne : m ≠ [] := by intro h; rw [h] at hml; simp at hml; omega
      obtain ⟨g, cap, cur, hvv, -⟩ := jo.block hne
      have hAg : A = some ⟨g, 0, none⟩ := by injection hvv
      subst hAg
      obtain ⟨hbg, hglt, -, hnc, hcm, hfz⟩ := own_lt jo hne
      have hobg : ob = some g := HOB.out.symm
      subst hobg
      have hGg : w.heap.size ≠ g := fun h => jo.neBk jG (by decide) (by rw [h]; rfl)
      have HK : Hid (RowI (-1) wd ht nn L (j + 1) (splL m (j * wd) (lineL (-1) (fun i => gF wd m i j) wd nn))) := hR.step hlt
      have HBM : Hid (byteG wd ht m) := hR.byte (.inr rfl) HBY.out
      have HGA : Hid (∀ i, i < wd → m[j * wd + i]? = some (gF wd m i j)) := fun i hi => gF_at hR.len hi hlt
      have f1 : (j : Int) * (wd : Int) = ((j * wd : Nat) : Int) := by simp
      have f2 : ((j : Int) + 1) * (wd : Int) = ((j * wd : Nat) : Int) + (wd : Int) := by rw [Int.add_mul, Int.one_mul]; simp
      have HKw := Lib.hid hk1
      clear hR hvv
      generalize j * wd = k at *
      have hck : ¬ (c = k) := by omega
      have m0 : max (k : Int) 0 = (k : Int) := Int.max_eq_left (by omega)
      have g0 : (0 : Int) ≤ (k : Int) := by omega
      have g1 : (k : Int) ≤ (k : Int) + (wd : Int) := by omega
      have g2 : (k : Int) + (wd : Int) ≤ (c : Int) := by omega
      have e1 : ((k : Int) + (wd : Int)).toNat = k + wd := by omega
      have e2 : k + wd - k = wd := by omega
      unfold maxLen at hcm
      go_wp2_with fail
      clear kc kf ka kg kl f1 f2 m0 g0 g1 g2 e1 e2
      have q0G := (jG.alloc (.cells #[.slice (some ⟨g, k, none⟩) wd (c - k)] 27)).drew
      have q0R := (Bk.new wr 27 #[.slice (some ⟨g, k, none⟩) wd (c - k)] (g := wr.heap.size) rfl).drew
      have q0o := (jo.alloc (.cells #[.slice (some ⟨g, k, none⟩) wd (c - k)] 27)).drew
      have q0gr : w.grownBy (wr.alloc (.cells #[.slice (some ⟨g, k, none⟩) wd (c - k)] 27)).drew (some g) := gstep jgr (((Below.refl _ _).alloc (Nat.le_refl _) _).drew)
      refine wp_region_go 7 [(0, true), (1, true), (2, true), (4, true), (5, true), (3, false), (6, false)] (fun w' => Bk w' w.heap.size 70 #[.int .i64 (wd : Int), .int .i64 (ht : Int), .slice (some ⟨g, 0, none⟩) n c] ∧ Bk w' wr.heap.size 27 #[.slice (some ⟨g, k, none⟩) wd (c - k)]) (by kernel_rfl) (by kernel_rfl) (fun c a d v w h => by cases d <;> exact h) ⟨q0G, q0R⟩ ?_
      repeat (first | (refine wpGo_pure (v := ?_) rfl rfl (fun w' hS => ?_) ?_; rotate_left; (· obtain ⟨kc0, kf0, ka0, kg0, kl0⟩ := Bk.rules hS.1; obtain ⟨kc1, kf1, ka1, kg1, kl1⟩ := Bk.rules hS.2; go_simp; exact rfl); (try simp only [Act.put, List.setIfInBounds_toArray, List.set_cons_zero, List.set_cons_succ])) | ((refine wpGo_skip rfl rfl ?_); (try simp only [Act.put, List.setIfInBounds_toArray, List.set_cons_zero, List.set_cons_succ])))
      refine wpGo_eff rfl (fun K hK => ?_)
      go_simp
      refine hK.out _ _ ⟨q0G, q0R⟩ (fun _ => ?_)
      clear hK K
      try simp only [Act.put, List.setIfInBounds_toArray, List.set_cons_zero, List.set_cons_succ]
      refine wpGo_eff rfl (fun K hK => ?_)
      go_simp
      refine (line_RE wd nn wr.heap.size (fun i => gF wd m i j) _ hwd hnn (fun i hi => HBM.out i j hi hlt) (fun i w' hi hb' => rowat_any wr.heap.size g k wd (c - k) i _ w' (q0R.below hb') hi (by omega) (own_cell (q0o.below hb') (HGA.out i hi)))).mono ?_
      rintro e w2 ⟨v, rfl, ov, hb2⟩
      have q1G := q0G.below hb2
      have q1R := q0R.below hb2
      have q1o := q0o.below hb2
      have q1gr := gstep q0gr hb2
      refine hK.out _ _ ⟨q1G, q1R⟩ (fun _ => ?_)
      clear hK K
      try simp only [Act.put, List.setIfInBounds_toArray, List.set_cons_zero, List.set_cons_succ]
      obtain ⟨T, HT⟩ : ∃ T, Hid (lineL (-1) (fun i => gF wd m i j) wd nn = T) := ⟨_, rfl⟩
      rw [HT.out] at ov
      have HTL : Hid (T.length = wd) := by unfold Hid; rw [← HT.out]; exact lineL_len _ _ _ _
      obtain ⟨A2, c2, hv2, hrd2, _⟩ := ov.form encB_len
      have hrT : 0 < T.length := by rw [HTL.out]; exact hwp
      obtain ⟨g2, o2, hA2, hg2, hc2⟩ := rd1 hrd2 hrT
      subst hA2
      rw [HTL.out] at hv2
      subst hv2
      have HRD := Lib.hid hrd2
      have HTK : Hid (k + T.length ≤ n) := by unfold Hid; rw [HTL.out]; exact HKw.out
      clear hrd2 hc2
      refine wpGo_nil ?_
      simp only [List.drop_succ_cons, List.drop_zero]
      refine wpList_copy_len encB_len encB_one 27 27 Try.underlying27 (by kernel_rfl) rfl _ _ rfl base g k n c (c - k) c2 wd wd m T q1o hml hne g2 o2 HRD.out HTK.out (by rw [HTL.out]; exact Nat.le_refl _) (by rw [Nat.mul_one]; first | rfl | simp) (by first | rfl | simp) HTL.out.symm ?_
      intro v3 w3 q3o hg3
      have q3G := q1G.grown hg3 (by intro h; injection h with h; exact hGg h)
      have q3gr := q1gr.trans hg3
      clear q0G q0R q0o q0gr q1G q1R q1o q1gr hb2
      have e3 : exL = exL := rfl
      clear e3
      have HSP : Hid (RW (j + 1) (splL m k T)) := by unfold Hid; rw [HRW.out, ← HT.out]; exact HK.out
      go_wp2
      go_roundw
      case rel => exact ⟨j + 1, _, by omega, by go_num, q3G, q3o, HSP, q3gr⟩
      case measure => simp [intOf]; omega
    · obtain rfl : j = ht := by omega
      have hmB : byteG wd j m := hR.byte (.inr rfl) HBY.out
      have HM := Lib.hid hR
      have HMB := Lib.hid hmB
      obtain ⟨CL, HCL⟩ : ∃ P : Nat → Nat → List Int → Prop, Hid (P = ColI (-1) wd j nn m) := ⟨_, rfl⟩
      have HC0 : Hid (CL 0 0 m) := by unfold Hid; rw [HCL.out]; exact ColI.start hR.len
      clear hR hmB HR hlt
      go_wp2_with fail
      clear kc kf ka kg kl
      go_loopw [40] (fun i wr => ∃ (x : Nat) (q : List Int), x ≤ wd ∧ i = .int .i64 (x : Int) ∧ Bk wr w.heap.size 70 #[.int .i64 (wd : Int), .int .i64 (j : Int), .slice A n c] ∧ OwnL encB 5 1 wr base (.slice A n c) q ∧ Hid (CL x 0 q) ∧ w.grownBy wr ob) (fun i _ => wd - (intOf i).toNat)
      case atStart => exact ⟨0, m, Nat.zero_le _, rfl, jG, jo, HC0, jgr⟩
      case round =>
        clear jG jo HC0 jgr
        obtain ⟨x, q, hx, rfl, jG, jo, HC, jgr⟩ := hrel
        obtain ⟨kc, kf, ka, kg, kl⟩ := jG.rules
        have hC : ColI (-1) wd j nn m x 0 q := by have h := HC.out; rwa [HCL.out] at h
        have hql : q.length = n := by rw [hC.len]; exact HA.out
        by_cases hlx : x < wd
        · have hhp := hz2 (by omega)
          have hne : q ≠ [] := by
            intro h; rw [h] at hql
            have := idx_lt hlx hhp
            rw [HA.out] at this
            simp at hql; omega
          obtain ⟨g, cap, cur, hvv, -⟩ := jo.block hne
          have hAg : A = some ⟨g, 0, none⟩ := by injection hvv
          subst hAg
          obtain ⟨hbg, hglt, -, hnc, hcm, hfz⟩ := own_lt jo hne
          have hobg : ob = some g := HOB.out.symm
          subst hobg
          have HLN : Hid (lineL (-1) (fun y => gF wd q x y) j nn = lineL (-1) (fun y => gF wd m x y) j nn) := hC.line hlx
          have HQB : Hid (byteG wd j q) := hC.byte (.inr rfl) HMB.out
          have HQA : Hid (∀ y, y < j → q[y * wd + x]? = some (gF wd q x y)) := fun y hy => gF_at hC.len hlx hy
          clear hvv
          have q0G := jG.alloc (.cells #[.int .i64 (x : Int)] 3)
          have q0X := Bk.new wr 3 #[.int .i64 (x : Int)] (g := wr.heap.size) rfl
          have q0o := jo.alloc (.cells #[.int .i64 (x : Int)] 3)
          have q0gr : w.grownBy (wr.alloc (.cells #[.int .i64 (x : Int)] 3)) (some g) := gstep jgr ((Below.refl _ _).alloc (Nat.le_refl _) _)
          go_wp2_with fail
          clear kc kf ka kg kl
          refine (line_CE j nn w.heap.size wr.heap.size (fun y => gF wd q x y) _ hht hnn (fun y hy => HQB.out x y hlx hy) (fun y w' hy hb' => colat_any w.heap.size wr.heap.size g wd j n c y x _ w' (q0G.below hb') (q0X.below hb') (by have := idx_lt hlx hy; rw [HA.out] at this; exact this) hn2 (own_cell (q0o.below hb') (HQA.out y hy)))).mono ?_
          rintro e w2 ⟨v, rfl, ov, hb2⟩
          have q1G := q0G.below hb2
          have q1X := q0X.below hb2
          have q1o := q0o.below hb2
          have q1gr := gstep q0gr hb2
          obtain ⟨b2, hb2e⟩ : ∃ b, (wr.alloc (.cells #[.int .i64 (x : Int)] 3)).heap.size = b := ⟨_, rfl⟩
          rw [hb2e] at ov
          have hgb2 : g < b2 := by rw [← hb2e]; simp; omega
          rw [HLN.out] at ov
          obtain ⟨T, HT⟩ : ∃ T, Hid (lineL (-1) (fun y => gF wd m x y) j nn = T) := ⟨_, rfl⟩
          rw [HT.out] at ov
          have HTL : Hid (T.length = j) := by unfold Hid; rw [← HT.out]; exact lineL_len _ _ _ _
          obtain ⟨A2, c2, hv2, _, _⟩ := ov.form encB_len
          rw [HTL.out] at hv2
          subst hv2
          obtain ⟨gX, hgX⟩ : ∃ b, wr.heap.size = b := ⟨_, rfl⟩
          rw [hgX] at q1X
          have hGlt := jG.lt
          rw [hgX] at hglt hGlt ⊢
          have HC' := HC
          clear q0G q0X q0o q0gr hb2 jG jo jgr hb2e HC hC hql hne
          go_wp2_with fail
          go_loopw [51] (fun i wr => ∃ (r : Nat) (q : List Int), r ≤ j ∧ i = .int .i64 (r : Int) ∧ Bk wr w.heap.size 70 #[.int .i64 (wd : Int), .int .i64 (j : Int), .slice (some ⟨g, 0, none⟩) n c] ∧ Bk wr gX 3 #[.int .i64 (x : Int)] ∧ OwnL encB 5 1 wr base (.slice (some ⟨g, 0, none⟩) n c) q ∧ OwnL encB 5 1 wr b2 (.slice A2 j c2) T ∧ Hid (CL x r q) ∧ w.grownBy wr (some g)) (fun i _ => j - (intOf i).toNat)
          case atStart => exact ⟨0, q, Nat.zero_le _, rfl, q1G, q1X, q1o, ov, HC', q1gr⟩
          case round =>
            clear q1G q1X q1o ov HC' q1gr
            obtain ⟨r, q, hr, rfl, jG, jX, jo, ov, HC, jgr⟩ := hrel
            obtain ⟨kc, kf, ka, kg, kl⟩ := jG.rules
            obtain ⟨kcx, kfx, kax, kgx, klx⟩ := jX.rules
            have hC : ColI (-1) wd j nn m x r q := by have h := HC.out; rwa [HCL.out] at h
            have hql : q.length = n := by rw [hC.len]; exact HA.out
            by_cases hlr : r < j
            · have hrT : r < T.length := by rw [HTL.out]; exact hlr
              obtain ⟨_, _, hvf, hrd, _⟩ := ov.form encB_len
              injection hvf with hvf1 hvf2 hvf3
              rw [← hvf1] at hrd
              obtain ⟨g2, o2, hA2, hg2, hc2⟩ := rd1 hrd hrT
              subst hA2
              obtain ⟨p, Hp⟩ : ∃ p, Hid (T[r] = p) := ⟨T[r], rfl⟩
              rw [Hp.out] at hc2
              have hpv : p = lineV (-1) (fun y => gF wd m x y) j nn r := by
                have hk2 : r < (lineL (-1) (fun y => gF wd m x y) j nn).length := by rw [HT.out]; exact hrT
                have h1 : T[r] = (lineL (-1) (fun y => gF wd m x y) j nn)[r] := by congr 1; exact HT.out.symm
                rw [← Hp.out, h1, lineL_at]
              have HST : Hid (CL x (r + 1) (q.set (r * wd + x) p)) := by unfold Hid; rw [HCL.out, hpv]; exact hC.step hlx hlr
              have hkn := idx_lt hlx hlr
              rw [HA.out] at hkn
              obtain ⟨y0, hy0⟩ : ∃ y, q[r * wd + x]? = some y := ⟨_, List.getElem?_eq_getElem (by omega)⟩
              have hcg := own_cell jo hy0
              have hne : q ≠ [] := by intro h; rw [h] at hql; simp at hql; omega
              have hfz := (own_lt jo hne).2.2.2.2.2 (r * wd + x)
              have hglt' := (own_lt jo hne).2.1
              have om := OwnL.storeAt encB_len jo (show r * wd + x < q.length by omega) 0 (.int .u8 p) p (by decide) rfl hql.symm
              rw [Nat.mul_one, Nat.add_zero] at om
              have mG := jG.far (p := ⟨g, r * wd + x, none⟩) (show w.heap.size ≠ g from fun h => jo.neBk jG (by decide) (by rw [h]; rfl)) (.int .u8 p)
              have mX := jX.far (p := ⟨g, r * wd + x, none⟩) (show gX ≠ g by omega) (.int .u8 p)
              have ov2 : OwnL encB 5 1 (wr.setCell ⟨g, r * wd + x, none⟩ (.int .u8 p)) b2 (.slice (some ⟨g2, o2, none⟩) j c2) T := ownsRow_setCell_other ov (fun h => by
                have h1 := (World.ownsRow.lt ov g h).1
                omega) _
              have mgr := gset jgr (r * wd + x) (.int .u8 p)
              have f1 : (r : Int) * (wd : Int) + (x : Int) = ((r * wd + x : Nat) : Int) := by simp
              have b1 : 0 ≤ (r : Int) * (wd : Int) := Int.mul_nonneg (by omega) (by omega)
              have HPV := Lib.hid hpv
              clear hpv hvf1 hvf2 hvf3 hy0 HC hC ov jgr jG jX hrd
              generalize r * wd + x = k at *
              have i0 : (0 : Int) ≤ (k : Int) := by omega
              have i1 : (k : Int) < (n : Int) := by omega
              have i2 : (0 : Int) ≤ (r : Int) := by omega
              go_wp2
              go_roundw
              case rel => exact ⟨r + 1, _, by omega, by go_num, mG, mX, om, ov2, HST, mgr⟩
              case measure => simp [intOf]; omega
            · obtain rfl : r = j := by omega
              have HCn : Hid (CL (x + 1) 0 q) := by unfold Hid; rw [HCL.out]; exact hC.next
              clear HC hC
              go_wp2
              go_roundw
              case rel => exact ⟨x + 1, q, by omega, by go_num, jG, jo, HCn, jgr⟩
              case measure => simp [intOf]; omega
        · obtain rfl : x = wd := by omega
          have hE : q = exL (-1) x j nn L := ColI.done HM.out hC
          rw [hE] at jo
          go_wp2
          go_end0
          exact ⟨rfl, jo, jgr⟩
end Go.Proofs.Ytndablijjkchjaa
