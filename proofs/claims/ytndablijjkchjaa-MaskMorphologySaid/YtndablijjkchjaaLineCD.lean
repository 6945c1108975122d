/-
  The walk of mask.line with the closures (grisaille/mask.grid).extreme$2 and grisaille/mask.Dilate$1.
-/
import Derived.Test.YtndablijjkchjaaLine0
import Derived.OwnWalk
namespace Go.Proofs.Ytndablijjkchjaa
open Go.RowKit
set_option linter.unusedSimpArgs false
set_option linter.unusedVariables false

set_option maxHeartbeats 12800000 in
theorem line_CD (count n : Nat) (c0 c1 : Nat) (f : Nat → Int) (w : World) (hc : count ≤ 8192) (hn : n ≤ 64) (hby : ∀ i, i < count → 0 ≤ f i ∧ f i ≤ 255)
    (hf : ∀ (i : Nat) w', i < count → Below w.heap.size w w' → Calls Try.prog 94 #[.int .i64 (i : Int), .pointer (some ⟨c0, 0, none⟩), .pointer (some ⟨c1, 0, none⟩)] w' fun e w'' => e = .returned (.int .u8 (f i)) ∧ Below w'.heap.size w' w'') :
    Calls Try.prog 92 #[.int .i64 (count : Int), .func (.func 94) #[] #[.pointer (some ⟨c0, 0, none⟩), .pointer (some ⟨c1, 0, none⟩)], .int .i64 (n : Int), .func (.func 75) #[] #[]] w fun e w' => ∃ v, e = .returned v ∧ OwnL encB 5 1 w' w.heap.size v (lineL 1 f count n) ∧ Below w.heap.size w w' := by
  have HF := Lib.hid hf
  have HBY := Lib.hid hby
  obtain ⟨K, HK⟩ : ∃ K : Nat → Int, Hid (K = fun j => 1 * f j) := ⟨_, rfl⟩
  obtain ⟨T, HT⟩ : ∃ T, Hid (lineL 1 f count n = T) := ⟨_, rfl⟩
  have HTL : Hid (T.length = count) := by unfold Hid; rw [← HT.out]; exact lineL_len _ _ _ _
  obtain ⟨R, HR⟩ : ∃ R, Hid (List.replicate count (0 : Int) = R) := ⟨_, rfl⟩
  have HRL : Hid (R.length = T.length) := by unfold Hid; rw [← HR.out, HTL.out, List.length_replicate]
  rw [HT.out]
  obtain ⟨i0, hi, hz0, hz1, hz2⟩ := info_parts Try.infoU8
  clear hf hby
  go_enter Try.func92, Try.ntmps92
  go_wp2_with (at_make; refine wpList_make_full _ rfl _ _ 27 rfl w.heap.size 5 i0 (.int .u8 0) 1 Try.underlying27 hi hz0 hz1 _ _ _ _ count rfl rfl (by first | rfl | omega) (by first | rfl | omega) (by rw [hz2]; omega) (by unfold maxLen; omega) (Nat.le_refl _) ?_; intro w0 hown0 hgrow0)
  have hB0 := below_grown (OwnL.nil (enc := encB) (e := 5) (size := 1) w w.heap.size) hgrow0 (Below.refl _ _) (Nat.le_refl _)
  have ho0 : OwnL encB 5 1 w0 w.heap.size (.slice (some ⟨w.heap.size, 0, none⟩) count count) (T.take 0 ++ R.drop 0) := by
    rw [List.take_zero, List.drop_zero, List.nil_append, ← HR.out]
    unfold OwnL; rw [List.length_replicate, ← made_u8]; exact hown0
  clear hown0 hgrow0
  go_loopw [17, 9, 11] (fun i q x wr => ∃ (k m : Nat) (Q : List Nat), k ≤ count ∧ i = .int .i64 (k : Int) ∧ m ≤ count ∧ m ≤ k + n ∧ x = .int .i64 (m : Int) ∧ OwnQ 3 wr w.heap.size q Q ∧ Hid (QG K (k - n) m Q) ∧ OwnL encB 5 1 wr w.heap.size (.slice (some ⟨w.heap.size, 0, none⟩) count count) (T.take k ++ R.drop k) ∧ Below w.heap.size w wr) (fun i _ _ _ => count - (intOf i).toNat)
  case atStart => exact ⟨0, 0, [], Nat.zero_le _, rfl, Nat.zero_le _, Nat.zero_le _, rfl, OwnQ.nil _ _ _, by unfold Hid; rw [Nat.zero_sub]; exact QG.nil _ _, ho0, hB0⟩
  case round =>
    clear ho0 hB0
    obtain ⟨k, m0, Q0, hk, rfl, hm1, hm2, rfl, oq0, HG0, oo0, hbw0⟩ := hrel
    by_cases hlt : k < count
    · go_wp2_with fail
      go_loopw [9, 11] (fun q x wr => ∃ (m : Nat) (Q : List Nat), m ≤ count ∧ m ≤ k + n + 1 ∧ x = .int .i64 (m : Int) ∧ OwnQ 3 wr w.heap.size q Q ∧ Hid (QG K (k - n) m Q) ∧ OwnL encB 5 1 wr w.heap.size (.slice (some ⟨w.heap.size, 0, none⟩) count count) (T.take k ++ R.drop k) ∧ Below w.heap.size w wr) (fun _ x _ => count - (intOf x).toNat)
      case atStart => exact ⟨m0, Q0, hm1, by omega, rfl, oq0, HG0, oo0, hbw0⟩
      case round =>
        clear oq0 HG0 oo0 hbw0
        obtain ⟨m, Q1, hm3, hm4, rfl, oq1, HG1, oo1, hbw1⟩ := hrel
        by_cases hmc : m < count
        · by_cases hmk : m ≤ k + n
          · have hmk' : (m : Int) ≤ (k : Int) + (n : Int) := by omega
            go_wp2_with fail
            go_loopw [9] (fun q wr => ∃ (Q : List Nat), OwnQ 3 wr w.heap.size q Q ∧ Hid (QP K (k - n) m Q) ∧ OwnL encB 5 1 wr w.heap.size (.slice (some ⟨w.heap.size, 0, none⟩) count count) (T.take k ++ R.drop k) ∧ Below w.heap.size w wr) (fun q _ => qlen q)
            case atStart => exact ⟨Q1, oq1, Lib.hid HG1.out.start, oo1, hbw1⟩
            case round =>
              clear oq1 HG1 oo1 hbw1
              obtain ⟨Q, oq, HP, oo, hbw⟩ := hrel
              have hQL : Q.length ≤ m := HP.out.len
              rcases List.eq_nil_or_concat Q with hnil | ⟨Q', a, hcat⟩
              · subst hnil
                obtain ⟨A, c, hv⟩ := oq.form
                rw [List.length_nil] at hv
                subst hv
                have HQ' : Hid (QG K (k - n) (m + 1) ([] ++ [m])) := QP.push HP.out (fun q' a h => by simp at h)
                have hll : ([] : List Nat).length ≤ 4294967296 := by simp
                go_wp2_with (at_builtin; refine wpList_append_q 95 Try.infoInt Try.underlying95 rfl _ _ rfl _ _ rfl (oq.alloc _) wr.heap.size m rfl (Bk.new _ _ _ rfl) hll (by have := hbw.size; simp; omega) ?_; intro v5 w5 oq5 hg5; obtain ⟨A5, c5, hv5⟩ := oq5.form; generalize ([] ++ [m]).length = n5 at hv5; subst hv5)
                have oo5 := (oq.alloc (.cells #[.int .i64 (m : Int)] 3)).grownL (oo.alloc _) hg5 (by decide)
                have hB5 := (oq.alloc (.cells #[.int .i64 (m : Int)] 3)).belowGrown hg5 (balloc hbw _) (Nat.le_refl _)
                go_wp2
                go_roundw
                case rel => exact ⟨m + 1, _, by omega, by omega, by go_num, oq5, HQ', oo5, hB5⟩
                case measure => simp [intOf]; omega
              · rw [List.concat_eq_append] at hcat
                subst hcat
                rw [List.length_append, List.length_singleton] at hQL
                obtain ⟨g, o, c, hv, hbg, hglt, hlc, hcm, hcell⟩ := oq.full (by simp)
                rw [List.length_append, List.length_singleton] at hv hlc
                obtain ⟨z, hz⟩ : ∃ z, Q'.length = z := ⟨_, rfl⟩
                have hlast : (Q' ++ [a])[z]? = some a := by rw [← hz, List.getElem?_append_right (Nat.le_refl _), Nat.sub_self]; rfl
                have hca := hcell z a hlast
                have ha : a < m := HP.out.lt a (by simp)
                have hac : a < count := by omega
                rw [hz] at hv hlc hQL
                subst hv
                have HCA := hca
                have hba := HBY.out a hac
                have hbm := HBY.out m hmc
                have z0 : (0 : Int) ≤ (z : Int) := by omega
                have hz1' : 0 < z + 1 := Nat.succ_pos z
                cases hd : decide (f m < f a) with
                | true =>
                  have HD := Lib.hid hd
                  have HQ' : Hid (QG K (k - n) (m + 1) ((Q' ++ [a]) ++ [m])) := QP.push HP.out (fun q' a' h => by
                    have e : a = a' := by have h2 := List.append_inj' h rfl; simpa using h2.2
                    have hk := of_decide_eq_true hd
                    rw [← e, HK.out]
                    show 1 * f m < 1 * f a
                    omega)
                  have hll : (Q' ++ [a]).length ≤ 4294967296 := by rw [List.length_append, List.length_singleton]; omega
                  clear hd hcell hlast
                  go_wp2_with fail
                  refine (HF.out a _ hac hbw).mono ?_
                  rintro e w1 ⟨rfl, hb1⟩
                  have hB1 := bstep hb1 hbw
                  go_wp2_with fail
                  refine (HF.out m _ hmc hB1).mono ?_
                  rintro e w2 ⟨rfl, hb2⟩
                  have hB2 := bstep hb2 hB1
                  have oq2 := (oq.below hb1).below hb2
                  have oo2 := (oo.below hb1).below hb2
                  clear HCA hca hb1 hb2 hB1
                  go_wp2_with fail
                  refine (better_D _ _ _ HD _).mono ?_
                  rintro e w2' ⟨rfl, rfl⟩
                  clear oq
                  go_wp2_with (at_builtin; refine wpList_append_q 95 Try.infoInt Try.underlying95 rfl _ _ rfl _ _ rfl (oq2.alloc _) w2.heap.size m rfl (Bk.new _ _ _ rfl) hll (by have := hB2.size; simp; omega) ?_; intro v5 w5 oq5 hg5; obtain ⟨A5, c5, hv5⟩ := oq5.form; generalize ((Q' ++ [a]) ++ [m]).length = n5 at hv5; subst hv5)
                  have oo5 := (oq2.alloc (.cells #[.int .i64 (m : Int)] 3)).grownL (oo2.alloc _) hg5 (by decide)
                  have hB5 := (oq2.alloc (.cells #[.int .i64 (m : Int)] 3)).belowGrown hg5 (balloc hB2 _) (Nat.le_refl _)
                  go_wp2
                  go_roundw
                  case rel => exact ⟨m + 1, _, by omega, by omega, by go_num, oq5, HQ', oo5, hB5⟩
                  case measure => simp [intOf]; omega
                | false =>
                  have HD := Lib.hid hd
                  have HP' : Hid (QP K (k - n) m Q') := QP.pop HP.out (fun h => by
                    have hk := of_decide_eq_false hd
                    rw [HK.out] at h
                    have h : 1 * f m < 1 * f a := h
                    omega)
                  clear hd hcell hlast
                  go_wp2_with fail
                  refine (HF.out a _ hac hbw).mono ?_
                  rintro e w1 ⟨rfl, hb1⟩
                  have hB1 := bstep hb1 hbw
                  go_wp2_with fail
                  refine (HF.out m _ hmc hB1).mono ?_
                  rintro e w2 ⟨rfl, hb2⟩
                  have hB2 := bstep hb2 hB1
                  have oq2 := (oq.below hb1).below hb2
                  have oo2 := (oo.below hb1).below hb2
                  clear HCA hca hb1 hb2 hB1
                  go_wp2_with fail
                  refine (better_D _ _ _ HD _).mono ?_
                  rintro e w2' ⟨rfl, rfl⟩
                  have oqp := OwnQ.pop oq2
                  rw [hz] at oqp
                  have y0 : ¬ (c = 0) := by omega
                  have y1 : max (z : Int) 0 = (z : Int) := Int.max_eq_left z0
                  go_wp2
                  go_roundw
                  case rel => exact ⟨Q', oqp, HP', oo2, hB2⟩
                  case measure => simp
          · have hmk' : ¬ ((m : Int) ≤ (k : Int) + (n : Int)) := by omega
            have HHI : Hid (m = min (k + n + 1) count) := by unfold Hid; omega
            have hmn : k - n < m := by have := HHI.out; omega
            clear hmk
            go_wp2_with fail
            go_loopw [9] (fun q wr => ∃ (Q : List Nat), OwnQ 3 wr w.heap.size q Q ∧ Hid (QG K (k - n) m Q) ∧ OwnL encB 5 1 wr w.heap.size (.slice (some ⟨w.heap.size, 0, none⟩) count count) (T.take k ++ R.drop k) ∧ Below w.heap.size w wr) (fun q _ => qlen q)
            case atStart => exact ⟨Q1, oq1, HG1, oo1, hbw1⟩
            case round =>
              clear oq1 HG1 oo1 hbw1
              obtain ⟨Q, oq, HG, oo, hbw⟩ := hrel
              have hne := HG.out.ne hmn
              cases hQ : Q with
              | nil => exact absurd hQ hne
              | cons a Q' =>
                subst hQ
                obtain ⟨g, o, c, hv, hbg, hglt, hlc, hcm, hcell⟩ := oq.full (by simp)
                have hca := hcell 0 a rfl
                rw [Nat.add_zero] at hca
                have ha : a < m := HG.out.lt a (by simp)
                have hQL := HG.out.len
                rw [List.length_cons] at hv hlc hQL
                subst hv
                by_cases hfr : (a : Int) < (k : Int) - (n : Int)
                · have HG' : Hid (QG K (k - n) m Q') := QG.front HG.out (by omega)
                  have hq1 := List.length_pos_iff.2 (HG'.out.ne hmn)
                  have oqf := OwnQ.front oq
                  obtain ⟨z, hz⟩ : ∃ z, Q'.length = z := ⟨_, rfl⟩
                  rw [hz] at oqf hlc hq1 hQL ⊢
                  have y0 : ¬ (c = 1) := by omega
                  have y1 : 1 ≤ c := by omega
                  have y2 : 1 ≤ z + 1 := by omega
                  go_wp2
                  go_roundw
                  case rel => exact ⟨Q', oqf, HG', oo, hbw⟩
                  case measure => simp
                · have hbest := QG.best HG.out (by omega)
                  have hac : a < count := by omega
                  have hT : k < T.length := by rw [HTL.out]; exact hlt
                  have hTk : Hid (T[k]? = some (f a)) := by
                    have hhi := HHI.out
                    unfold Hid
                    rw [← HT.out]
                    refine lineL_some hlt (lineV_eq (.inl rfl) hlt ⟨⟨a, by omega, by omega, rfl⟩, fun j h0 h1 => ?_⟩).symm
                    have := hbest.2 j h0 (by omega)
                    rw [HK.out] at this
                    exact this
                  have hl : (T.take k ++ R.drop k).length = count := by
                    have h1 := HRL.out
                    have h2 := HTL.out
                    rw [List.length_append, List.length_take, List.length_drop]; omega
                  obtain ⟨cur, kg0⟩ := own_bk oo (by intro h; rw [h] at hl; simp at hl; omega)
                  have hk3 : k < (T.take k ++ R.drop k).length := by rw [hl]; exact hlt
                  have hm2 := fun ww (h : OwnL encB 5 1 ww w.heap.size (.slice (some ⟨w.heap.size, 0, none⟩) count count) (T.take k ++ R.drop k)) => OwnL.storeAt encB_len h hk3 0 (.int .u8 (f a)) (f a) (by decide) rfl hl.symm
                  have HST : Hid ((T.take k ++ R.drop k).set k (f a) = T.take (k + 1) ++ R.drop (k + 1)) := by
                    unfold Hid; exact fill_set2 HRL.out hTk.out
                  have HM2 := Lib.hid hm2
                  have HL := Lib.hid hl
                  have HBA := Lib.hid (HBY.out a hac)
                  have i0' : (0 : Int) ≤ (k : Int) := by omega
                  clear hm2 hbest hl hcell
                  go_wp2_with fail
                  refine (HF.out a _ hac hbw).mono ?_
                  rintro e w1 ⟨rfl, hb1⟩
                  have hB1 := bstep hb1 hbw
                  have oq1 := oq.below hb1
                  have oo1 := oo.below hb1
                  have kg1 := Bk.below kg0 hb1
                  have hoC : OwnL encB 5 1 w1 w.heap.size (.slice (some ⟨w.heap.size, 0, none⟩) (T.take k ++ R.drop k).length count) (T.take k ++ R.drop k) := by rw [HL.out]; exact oo1
                  have hcO := World.ownsRow.cellAt (g := w.heap.size) hoC (k * 1) (by have := HL.out; omega)
                  obtain ⟨yy, hyy⟩ : ∃ y, ((T.take k ++ R.drop k).flatMap encB)[k * 1]? = some y := ⟨_, List.getElem?_eq_getElem (by rw [flat_len encB_len]; omega)⟩
                  rw [hyy, Nat.mul_one] at hcO
                  have hfO := kg1.rules.2.1 k
                  have hglO := kg1.lt
                  have om := HM2.out _ oo1
                  rw [Nat.mul_one, Nat.add_zero, HST.out] at om
                  have oqm := oq1.setFar kg1 (by decide) k (.int .u8 (f a))
                  have hBm := bset hB1 (p := ⟨w.heap.size, k, none⟩) (Nat.le_refl _) (.int .u8 (f a))
                  have HGn : Hid (QG K (k + 1 - n) m (a :: Q')) := QG.raise HG.out (by omega)
                  clear hca hyy hoC
                  go_wp2
                  go_roundw
                  case rel => exact ⟨k + 1, m, _, by omega, by go_num, hm3, by omega, rfl, oqm, HGn, om, hBm⟩
                  case measure => simp [intOf]; omega
        · have HHI : Hid (m = min (k + n + 1) count) := by unfold Hid; omega
          have hmn : k - n < m := by have := HHI.out; omega
          go_wp2_with fail
          go_loopw [9] (fun q wr => ∃ (Q : List Nat), OwnQ 3 wr w.heap.size q Q ∧ Hid (QG K (k - n) m Q) ∧ OwnL encB 5 1 wr w.heap.size (.slice (some ⟨w.heap.size, 0, none⟩) count count) (T.take k ++ R.drop k) ∧ Below w.heap.size w wr) (fun q _ => qlen q)
          case atStart => exact ⟨Q1, oq1, HG1, oo1, hbw1⟩
          case round =>
            clear oq1 HG1 oo1 hbw1
            obtain ⟨Q, oq, HG, oo, hbw⟩ := hrel
            have hne := HG.out.ne hmn
            cases hQ : Q with
            | nil => exact absurd hQ hne
            | cons a Q' =>
              subst hQ
              obtain ⟨g, o, c, hv, hbg, hglt, hlc, hcm, hcell⟩ := oq.full (by simp)
              have hca := hcell 0 a rfl
              rw [Nat.add_zero] at hca
              have ha : a < m := HG.out.lt a (by simp)
              have hQL := HG.out.len
              rw [List.length_cons] at hv hlc hQL
              subst hv
              by_cases hfr : (a : Int) < (k : Int) - (n : Int)
              · have HG' : Hid (QG K (k - n) m Q') := QG.front HG.out (by omega)
                have hq1 := List.length_pos_iff.2 (HG'.out.ne hmn)
                have oqf := OwnQ.front oq
                obtain ⟨z, hz⟩ : ∃ z, Q'.length = z := ⟨_, rfl⟩
                rw [hz] at oqf hlc hq1 hQL ⊢
                have y0 : ¬ (c = 1) := by omega
                have y1 : 1 ≤ c := by omega
                have y2 : 1 ≤ z + 1 := by omega
                go_wp2
                go_roundw
                case rel => exact ⟨Q', oqf, HG', oo, hbw⟩
                case measure => simp
              · have hbest := QG.best HG.out (by omega)
                have hac : a < count := by omega
                have hT : k < T.length := by rw [HTL.out]; exact hlt
                have hTk : Hid (T[k]? = some (f a)) := by
                  have hhi := HHI.out
                  unfold Hid
                  rw [← HT.out]
                  refine lineL_some hlt (lineV_eq (.inl rfl) hlt ⟨⟨a, by omega, by omega, rfl⟩, fun j h0 h1 => ?_⟩).symm
                  have := hbest.2 j h0 (by omega)
                  rw [HK.out] at this
                  exact this
                have hl : (T.take k ++ R.drop k).length = count := by
                  have h1 := HRL.out
                  have h2 := HTL.out
                  rw [List.length_append, List.length_take, List.length_drop]; omega
                obtain ⟨cur, kg0⟩ := own_bk oo (by intro h; rw [h] at hl; simp at hl; omega)
                have hk3 : k < (T.take k ++ R.drop k).length := by rw [hl]; exact hlt
                have hm2 := fun ww (h : OwnL encB 5 1 ww w.heap.size (.slice (some ⟨w.heap.size, 0, none⟩) count count) (T.take k ++ R.drop k)) => OwnL.storeAt encB_len h hk3 0 (.int .u8 (f a)) (f a) (by decide) rfl hl.symm
                have HST : Hid ((T.take k ++ R.drop k).set k (f a) = T.take (k + 1) ++ R.drop (k + 1)) := by
                  unfold Hid; exact fill_set2 HRL.out hTk.out
                have HM2 := Lib.hid hm2
                have HL := Lib.hid hl
                have HBA := Lib.hid (HBY.out a hac)
                have i0' : (0 : Int) ≤ (k : Int) := by omega
                clear hm2 hbest hl hcell
                go_wp2_with fail
                refine (HF.out a _ hac hbw).mono ?_
                rintro e w1 ⟨rfl, hb1⟩
                have hB1 := bstep hb1 hbw
                have oq1 := oq.below hb1
                have oo1 := oo.below hb1
                have kg1 := Bk.below kg0 hb1
                have hoC : OwnL encB 5 1 w1 w.heap.size (.slice (some ⟨w.heap.size, 0, none⟩) (T.take k ++ R.drop k).length count) (T.take k ++ R.drop k) := by rw [HL.out]; exact oo1
                have hcO := World.ownsRow.cellAt (g := w.heap.size) hoC (k * 1) (by have := HL.out; omega)
                obtain ⟨yy, hyy⟩ : ∃ y, ((T.take k ++ R.drop k).flatMap encB)[k * 1]? = some y := ⟨_, List.getElem?_eq_getElem (by rw [flat_len encB_len]; omega)⟩
                rw [hyy, Nat.mul_one] at hcO
                have hfO := kg1.rules.2.1 k
                have hglO := kg1.lt
                have om := HM2.out _ oo1
                rw [Nat.mul_one, Nat.add_zero, HST.out] at om
                have oqm := oq1.setFar kg1 (by decide) k (.int .u8 (f a))
                have hBm := bset hB1 (p := ⟨w.heap.size, k, none⟩) (Nat.le_refl _) (.int .u8 (f a))
                have HGn : Hid (QG K (k + 1 - n) m (a :: Q')) := QG.raise HG.out (by omega)
                clear hca hyy hoC
                go_wp2
                go_roundw
                case rel => exact ⟨k + 1, m, _, by omega, by go_num, hm3, by omega, rfl, oqm, HGn, om, hBm⟩
                case measure => simp [intOf]; omega
    · obtain rfl : k = count := by omega
      have hE : T.take k ++ R.drop k = T := by rw [List.take_of_length_le (by rw [HTL.out]; exact Nat.le_refl _), List.drop_of_length_le (by rw [HRL.out, HTL.out]; exact Nat.le_refl _), List.append_nil]
      rw [hE] at oo0
      clear hE
      go_wp2
      go_ret
      exact ⟨_, rfl, oo0, hbw0⟩
end Go.Proofs.Ytndablijjkchjaa
