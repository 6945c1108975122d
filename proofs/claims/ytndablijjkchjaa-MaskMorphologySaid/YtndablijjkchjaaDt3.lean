/-
  The walk of mask.DistanceTransform.
-/
import Derived.Test.YtndablijjkchjaaDt1
import Derived.Test.YtndablijjkchjaaDt2
import Derived.Test.YtndablijjkchjaaMkMade0
import Derived.Test.YtndablijjkchjaaMk8
namespace Go.Proofs.Ytndablijjkchjaa
open Go.RowKit
set_option linter.unusedSimpArgs false
set_option linter.unusedVariables false

def wdB (b : Mk) : Nat := (b.r.x1 - b.r.x0).toNat
def htB (b : Mk) : Nat := (b.r.y1 - b.r.y0).toNat
theorem grid_dim {b : Mk} (h : vMk b = true) : b.l.length = wdB b * htB b ∧ b.r.x1 - b.r.x0 = (wdB b : Int) ∧ b.r.y1 - b.r.y0 = (htB b : Int) ∧ wdB b ≤ 8192 ∧ htB b ≤ 8192 := by
  obtain ⟨hc, hl, _⟩ := mk_cn h
  have hb := canon_bd b.r
  rw [hc] at hb
  unfold wdB htB
  refine ⟨?_, by omega, by omega, by omega, by omega⟩
  have e : ((wdB b * htB b : Nat) : Int) = areaR b.r := by
    unfold wdB htB areaR
    rw [hc, Int.natCast_mul, Int.toNat_of_nonneg (by omega), Int.toNat_of_nonneg (by omega)]
  unfold wdB htB at e
  omega
/-- The distance transform of a mask. -/
def dtL (b : Mk) : List Int := if vMk b then dtP (wdB b) (htB b) b.l else []
theorem dtL_len (b : Mk) (hb : bytesB b.l) : (dtL b).length ≤ b.l.length := by
  unfold dtL
  split
  · next h =>
    have h1 := (grid_dim h).1
    have := (dt_ok h1 hb).len
    omega
  · simp

set_option maxHeartbeats 12800000 in
theorem dt_any (b : Mk) (w : World) (hb : b.ok w) (hnb : b.n ≤ 4000000000) :
    Calls Try.prog 41 #[.agg #[.int .i64 b.r.x0, .int .i64 b.r.y0, .int .i64 b.r.x1, .int .i64 b.r.y1, .slice b.A b.n b.c]] w (RetME (mpR b) (dtL b) (mpE b) w) := by
  have HB := Lib.hid hb
  clear hb
  cases vb : vMk b with
  | false =>
    have Hvb := Lib.hid vb
    have e1 : mpR b = ⟨0, 0, 0, 0⟩ := by unfold mpR; rw [vb]; rfl
    have e2 : dtL b = [] := by unfold dtL; rw [vb]; rfl
    have e3 : mpE b = 14 := by unfold mpE; rw [vb]; rfl
    rw [e1, e2, e3]
    clear e1 e2 e3 vb
    go_enter Try.func41, Try.ntmps41
    go_wp2_with fail
    refine (mvalid_any b.r b.A b.n b.c b.l _ (HB.out.rd.below (by repeat (first | (with_reducible exact Below.refl _ _) | (with_reducible refine balloc ?_ _) | (with_reducible refine Below.drew ?_) | (with_reducible refine bdrewN ?_ _) | ((with_reducible refine bset ?_ ?_ _); rotate_left; focus (first | (with_reducible exact Nat.le_refl _) | (simp; done) | (simp; omega) | omega)) | (with_reducible refine bstep (by with_reducible assumption) ?_)))) HB.out.ln hnb false Hvb).mono ?_
    rintro e w1 ⟨rfl, hb1⟩
    have kO1 : Bk w1 (w.heap.size + 1) 29 #[.int .i64 0, .int .i64 0, .int .i64 0, .int .i64 0, .slice none 0 0] := (by repeat (first | (with_reducible assumption) | ((with_reducible refine Bk.new _ _ _ ?_); first | (with_reducible rfl) | (simp; done)) | (with_reducible refine Bk.alloc ?_ _) | (with_reducible refine Bk.drew ?_) | (with_reducible refine Bk.drewN ?_ _) | ((with_reducible refine Bk.far ?_ ?_ _); rotate_left; focus (first | (simp; done) | (simp; omega))) | (with_reducible refine Bk.below ?_ (by with_reducible assumption)))); obtain ⟨kcO1, kfO1, kaO1, kgO1, klO1⟩ := kO1.rules
    go_wp2
    refine bodyPost_ret (v := _) ?_ rfl (RetME.no 14 (by repeat (first | (with_reducible exact Below.refl _ _) | (with_reducible refine balloc ?_ _) | (with_reducible refine Below.drew ?_) | (with_reducible refine bdrewN ?_ _) | ((with_reducible refine bset ?_ ?_ _); rotate_left; focus (first | (with_reducible exact Nat.le_refl _) | (simp; done) | (simp; omega) | omega)) | (with_reducible refine bstep (by with_reducible assumption) ?_))))
    simp [results, Try.results41, go_sem, kcO1]
  | true =>
    have Hvb := Lib.hid vb
    obtain ⟨hlen, hwd0, hht0, hwl, hhl⟩ := grid_dim vb
    have e1 : mpR b = b.r := by unfold mpR; rw [vb]; rfl
    have e2 : dtL b = dtP (wdB b) (htB b) b.l := by unfold dtL; rw [vb]; rfl
    have e3 : mpE b = 0 := by unfold mpE; rw [vb]; rfl
    rw [e1, e2, e3]
    clear e1 e2 e3 vb
    generalize wdB b = wd at *
    generalize htB b = ht at *
    have hwd := Lib.hid hwd0
    have hht := Lib.hid hht0
    obtain ⟨L0, HL0⟩ : ∃ u, Hid (b.l.map f0D = u) := ⟨_, rfl⟩
    obtain ⟨L1, HL1x⟩ : ∃ u, Hid (fwdL wd ht b.l = u) := ⟨_, rfl⟩
    obtain ⟨D0, HD0x⟩ : ∃ u, Hid (dtP wd ht b.l = u) := ⟨_, rfl⟩
    have HOK : Hid (OkD wd ht L0) := by unfold Hid; rw [← HL0.out]; exact f0_okD hlen HB.out.byte
    have HOK1 : Hid (OkD wd ht L1) := by unfold Hid; rw [← HL1x.out]; exact fwd_ok hlen HB.out.byte
    have HL1 : Hid (passD wd ht fwdN (madeL fpt 0 0 wd ht) L0 = L1) := by unfold Hid; rw [← HL0.out, ← HL1x.out]; rfl
    have HD0 : Hid (passD wd ht bwdN (madeL (bpt wd ht) 0 0 wd ht) L1 = D0) := by unfold Hid; rw [← HL1x.out, ← HD0x.out]; rfl
    have harea : wd * ht = b.n := by rw [← HB.out.ln]; exact hlen.symm
    rw [HD0x.out]
    clear hwd0 hht0 hlen HL1x HD0x
    go_enter Try.func41, Try.ntmps41
    go_wp2_with fail
    refine (mvalid_any b.r b.A b.n b.c b.l _ (HB.out.rd.below (by repeat (first | (with_reducible exact Below.refl _ _) | (with_reducible refine balloc ?_ _) | (with_reducible refine Below.drew ?_) | (with_reducible refine bdrewN ?_ _) | ((with_reducible refine bset ?_ ?_ _); rotate_left; focus (first | (with_reducible exact Nat.le_refl _) | (simp; done) | (simp; omega) | omega)) | (with_reducible refine bstep (by with_reducible assumption) ?_)))) HB.out.ln hnb true Hvb).mono ?_
    rintro e w1 ⟨rfl, hb1⟩
    have kC1 : Bk w1 (w.heap.size) 29 #[.int .i64 b.r.x0, .int .i64 b.r.y0, .int .i64 b.r.x1, .int .i64 b.r.y1, .slice b.A b.n b.c] := (by repeat (first | (with_reducible assumption) | ((with_reducible refine Bk.new _ _ _ ?_); first | (with_reducible rfl) | (simp; done)) | (with_reducible refine Bk.alloc ?_ _) | (with_reducible refine Bk.drew ?_) | (with_reducible refine Bk.drewN ?_ _) | ((with_reducible refine Bk.far ?_ ?_ _); rotate_left; focus (first | (simp; done) | (simp; omega))) | (with_reducible refine Bk.below ?_ (by with_reducible assumption)))); obtain ⟨kcC1, kfC1, kaC1, kgC1, klC1⟩ := kC1.rules; have kO1 : Bk w1 (w.heap.size + 1) 29 #[.int .i64 0, .int .i64 0, .int .i64 0, .int .i64 0, .slice none 0 0] := (by repeat (first | (with_reducible assumption) | ((with_reducible refine Bk.new _ _ _ ?_); first | (with_reducible rfl) | (simp; done)) | (with_reducible refine Bk.alloc ?_ _) | (with_reducible refine Bk.drew ?_) | (with_reducible refine Bk.drewN ?_ _) | ((with_reducible refine Bk.far ?_ ?_ _); rotate_left; focus (first | (simp; done) | (simp; omega))) | (with_reducible refine Bk.below ?_ (by with_reducible assumption)))); obtain ⟨kcO1, kfO1, kaO1, kgO1, klO1⟩ := kO1.rules
    have hB1 : Below w.heap.size w w1 := (by repeat (first | (with_reducible exact Below.refl _ _) | (with_reducible refine balloc ?_ _) | (with_reducible refine Below.drew ?_) | (with_reducible refine bdrewN ?_ _) | ((with_reducible refine bset ?_ ?_ _); rotate_left; focus (first | (with_reducible exact Nat.le_refl _) | (simp; done) | (simp; omega) | omega)) | (with_reducible refine bstep (by with_reducible assumption) ?_)))
    go_wp2_with fail
    refine (gridof_any b wd ht _ (HB.out.below hB1) hnb hwd.out hht.out hwl hhl).mono ?_
    rintro e w2 ⟨v2, rfl, ho2, hb2⟩
    have kC2 := kC1.below hb2
    have kO2 := kO1.below hb2
    have hB2 : Below w.heap.size w w2 := bstep hb2 hB1
    have hbase : w.heap.size ≤ w1.heap.size := hB1.size
    clear kcC1 kfC1 kaC1 kgC1 kcO1 kfO1 kaO1 kgO1
    obtain ⟨A2, c2, hv2, _, _⟩ := ho2.form encB_len
    rw [HB.out.ln] at hv2
    subst hv2
    have hO2 := ho2.alloc (.cells #[.int .i64 (wd : Int), .int .i64 (ht : Int), .slice A2 b.n c2] 70)
    have kC3 := kC2.alloc (.cells #[.int .i64 (wd : Int), .int .i64 (ht : Int), .slice A2 b.n c2] 70)
    have kO3 := kO2.alloc (.cells #[.int .i64 (wd : Int), .int .i64 (ht : Int), .slice A2 b.n c2] 70)
    have kG3 : Bk (w2.alloc (.cells #[.int .i64 (wd : Int), .int .i64 (ht : Int), .slice A2 b.n c2] 70)) w2.heap.size 70 #[.int .i64 (wd : Int), .int .i64 (ht : Int), .slice A2 b.n c2] := Bk.new _ _ _ rfl
    have hB3 : Below w.heap.size w (w2.alloc (.cells #[.int .i64 (wd : Int), .int .i64 (ht : Int), .slice A2 b.n c2] 70)) := balloc hB2 _
    have sCO : w.heap.size + 1 < w2.heap.size := by have := kO2.lt; omega
    go_wp2_with fail
    go_loopw [20] (fun i wr => ∃ (k : Nat) (m : List Int), k ≤ b.n ∧ i = .int .i64 k ∧ Bk wr (w.heap.size) 29 #[.int .i64 b.r.x0, .int .i64 b.r.y0, .int .i64 b.r.x1, .int .i64 b.r.y1, .slice b.A b.n b.c] ∧ Bk wr (w.heap.size + 1) 29 #[.int .i64 0, .int .i64 0, .int .i64 0, .int .i64 0, .slice none 0 0] ∧ Bk wr (w2.heap.size) 70 #[.int .i64 (wd : Int), .int .i64 (ht : Int), .slice A2 b.n c2] ∧ OwnL encB 5 1 wr w1.heap.size (.slice A2 b.n c2) m ∧ Hid (m = (b.l.take k).map f0D ++ b.l.drop k) ∧ Below w.heap.size w wr) (fun i _ => b.n - (intOf i).toNat)
    case atStart => exact ⟨0, b.l, Nat.zero_le _, rfl, kC3, kO3, kG3, hO2, by unfold Hid; simp, hB3⟩
    case round =>
      obtain ⟨k, m, hk, rfl, jC, jO, jG, hm, HM, hbw⟩ := hrel
      obtain ⟨kcG, kfG, kaG, kgG, klG⟩ := jG.rules
      by_cases hlt : k < b.n
      · have hkl : k < b.l.length := by have := HB.out.ln; omega
        have hml : Hid (m.length = b.n) := by unfold Hid; rw [HM.out, map_len (by omega)]; exact HB.out.ln
        have hkm : k < m.length := by have := hml.out; omega
        obtain ⟨p, Hp⟩ : ∃ p, Hid (b.l[k] = p) := ⟨b.l[k], rfl⟩
        have Hmk : Hid (m[k] = p) := by
          have h1 := HM.out
          subst h1
          unfold Hid
          rw [map_at hkl, Hp.out]
        have hpb : 0 ≤ p ∧ p ≤ 255 := by rw [← Hp.out]; exact HB.out.byte _ (List.getElem_mem hkl)
        obtain ⟨g, cap, cur, hvv, hbg, kg0, hcap, hmx, hsz, htk⟩ := hm.block (by intro h; rw [h] at hkm; simp at hkm)
        have hm' : OwnL encB 5 1 wr w1.heap.size (.slice (some ⟨g, 0, none⟩) m.length cap) m := by rw [← hvv]; exact hm
        have hA : A2 = some ⟨g, 0, none⟩ ∧ b.n = m.length ∧ c2 = cap := by injection hvv with h1 h2 h3; exact ⟨h1, h2, h3⟩
        obtain ⟨rfl, -, rfl⟩ := hA
        clear hvv hsz htk hmx hcap
        have hcell := World.ownsRow.cellAt (g := g) hm' (k * 1) (by have := hml.out; omega)
        have hfl := flat_at encB_len m k hkm 0 (.int .u8 p) (by rw [Hmk.out]; rfl)
        rw [Nat.add_zero] at hfl
        rw [hfl, Nat.mul_one] at hcell
        have hglt := kg0.lt
        have hfz := kg0.rules.2.1 k
        have i0 : (0 : Int) ≤ (k : Int) := by omega
        have i1 : (k : Int) < (b.n : Int) := by omega
        have hgC : w.heap.size ≠ g := by have := kC1.lt; omega
        have hgO : w.heap.size + 1 ≠ g := by have := kO1.lt; omega
        have hgG : w2.heap.size ≠ g := fun h => hm.neBk jG (by decide) (by rw [h]; rfl)
        have HMm := Lib.hid hm
        clear hm' hfl kg0 cur hm
        by_cases hp0 : 0 < p
        · have HM' : Hid (m.set k 255 = (b.l.take (k + 1)).map f0D ++ b.l.drop (k + 1)) := by
            unfold Hid; rw [HM.out, ← map_set hkl, Hp.out]; unfold f0D; rw [if_pos hp0]
          have hm2 := OwnL.storeAt encB_len HMm.out hkm 0 (.int .u8 255) 255 (by decide) rfl hml.out.symm
          rw [Nat.mul_one, Nat.add_zero] at hm2
          have jC3 := jC.far (p := ⟨g, k, none⟩) hgC (.int .u8 255)
          have jO3 := jO.far (p := ⟨g, k, none⟩) hgO (.int .u8 255)
          have jG3 := jG.far (p := ⟨g, k, none⟩) hgG (.int .u8 255)
          have hB4 := bset hbw (p := ⟨g, k, none⟩) (by show w.heap.size ≤ g; have := kC1.lt; omega) (.int .u8 255)
          go_wp2
          go_roundw
          case rel => exact ⟨k + 1, _, by omega, by go_num, jC3, jO3, jG3, hm2, HM', hB4⟩
          case measure => simp [intOf]; omega
        · have HM' : Hid (m = (b.l.take (k + 1)).map f0D ++ b.l.drop (k + 1)) := by
            unfold Hid
            rw [← map_set hkl, Hp.out, ← HM.out, show f0D p = p by unfold f0D; rw [if_neg hp0], ← Hmk.out, List.set_getElem_self]
          go_wp2
          go_roundw
          case rel => exact ⟨k + 1, m, by omega, by go_num, jC, jO, jG, HMm.out, HM', hbw⟩
          case measure => simp [intOf]; omega
      · have HE : Hid (m = L0) := by
          unfold Hid
          rw [← HL0.out, HM.out, List.take_of_length_le (by have := HB.out.ln; omega), List.drop_of_length_le (by have := HB.out.ln; omega), List.append_nil]
        rw [HE.out] at hm
        clear HM HE kC3 kO3 kG3 hO2 hB3
        have jG0 := jG
        have jC0 := jC
        have jO0 := jO
        have hm0 := hm
        have hbw0 := hbw
        clear jG jC jO hm hbw
        go_wp2_with fail
        clear kcG kfG kaG kgG
        go_loopw [34] (fun i wr => ∃ (j : Nat) (m : List Int), j ≤ ht ∧ i = .int .i64 (j : Int) ∧ Bk wr (w.heap.size) 29 #[.int .i64 b.r.x0, .int .i64 b.r.y0, .int .i64 b.r.x1, .int .i64 b.r.y1, .slice b.A b.n b.c] ∧ Bk wr (w.heap.size + 1) 29 #[.int .i64 0, .int .i64 0, .int .i64 0, .int .i64 0, .slice none 0 0] ∧ Bk wr (w2.heap.size) 70 #[.int .i64 (wd : Int), .int .i64 (ht : Int), .slice A2 b.n c2] ∧ OwnL encB 5 1 wr w1.heap.size (.slice A2 b.n c2) m ∧ Hid (passD wd ht fwdN (madeL fpt 0 0 wd j) L0 = m) ∧ Below w.heap.size w wr) (fun i _ => ht - (intOf i).toNat)
        case atStart => exact ⟨0, _, Nat.zero_le _, rfl, jC0, jO0, jG0, hm0, rfl, hbw0⟩
        case round =>
          obtain ⟨j, m, hj, rfl, jC, jO, jG, hm, HM, hbw⟩ := hrel
          obtain ⟨kcC, kfC, kaC, kgC, klC⟩ := jC.rules
          obtain ⟨kcO, kfO, kaO, kgO, klO⟩ := jO.rules
          obtain ⟨kcG, kfG, kaG, kgG, klG⟩ := jG.rules
          by_cases hlt : j < ht
          · have c0 : (0 : Int) ≤ (ht : Int) - 1 - (j : Int) := by omega
            have c0' : (j : Int) ≤ (ht : Int) - 1 := by omega
            go_wp2_with fail
            clear kcC kfC kaC kgC kcO kfO kaO kgO kcG kfG kaG kgG
            go_loopw [39] (fun i wr => ∃ (k : Nat) (m : List Int), k ≤ wd ∧ i = .int .i64 (k : Int) ∧ Bk wr (w.heap.size) 29 #[.int .i64 b.r.x0, .int .i64 b.r.y0, .int .i64 b.r.x1, .int .i64 b.r.y1, .slice b.A b.n b.c] ∧ Bk wr (w.heap.size + 1) 29 #[.int .i64 0, .int .i64 0, .int .i64 0, .int .i64 0, .slice none 0 0] ∧ Bk wr (w2.heap.size) 70 #[.int .i64 (wd : Int), .int .i64 (ht : Int), .slice A2 b.n c2] ∧ OwnL encB 5 1 wr w1.heap.size (.slice A2 b.n c2) m ∧ Hid (passD wd ht fwdN (madeL fpt 0 0 wd j ++ rowL fpt 0 (0 + (j : Int)) k) L0 = m) ∧ Below w.heap.size w wr) (fun i _ => wd - (intOf i).toNat)
            case atStart => exact ⟨0, m, Nat.zero_le _, rfl, jC, jO, jG, hm, by unfold Hid; rw [show rowL fpt 0 (0 + (j : Int)) 0 = [] from rfl, List.append_nil]; exact HM.out, hbw⟩
            case round =>
              clear hm HM hbw jC jO jG
              obtain ⟨k, m, hk, rfl, jC, jO, jG, hm, HM, hbw⟩ := hrel
              obtain ⟨kcC, kfC, kaC, kgC, klC⟩ := jC.rules
              obtain ⟨kcO, kfO, kaO, kgO, klO⟩ := jO.rules
              obtain ⟨kcG, kfG, kaG, kgG, klG⟩ := jG.rules
              by_cases hlx : k < wd
              · have c1 : (0 : Int) ≤ (wd : Int) - 1 - (k : Int) := by omega
                have c1' : (k : Int) ≤ (wd : Int) - 1 := by omega
                have hok : OkD wd ht m := by rw [← HM.out]; exact pass_ok _ HOK.out
                have hin : inG wd ht (k : Int) (j : Int) := ⟨by omega, by omega, by omega, by omega⟩
                have hne : m ≠ [] := by intro h; have h2 := hok.len; rw [h] at h2; have h3 := gix_lt hin; simp at h2; omega
                obtain ⟨g, cap, cur, hvv, hbg, kg0, hcap, hmx, hsz, htk⟩ := hm.block hne
                have hmn : m.length = b.n := by rw [hok.len]; exact harea
                have hA : A2 = some ⟨g, 0, none⟩ ∧ b.n = m.length ∧ c2 = cap := by injection hvv with h1 h2 h3; exact ⟨h1, h2, h3⟩
                obtain ⟨rfl, -, rfl⟩ := hA
                clear hvv hsz htk hmx hcap kg0 hne cur
                have HIN := Lib.hid hin
                have q0C := jC
                have q0O := jO
                have q0G := jG
                have oh0 := hm
                have hB0 := hbw
                have ok0 := hok
                obtain ⟨m1, Hm1⟩ : ∃ u, Hid (relP wd ht m (k : Int) (j : Int) (-1) (0) = u) := ⟨_, rfl⟩
                have ok1 : OkD wd ht m1 := by rw [← Hm1.out]; exact rel_ok ok0 _ _ _ _
                obtain ⟨m2, Hm2⟩ : ∃ u, Hid (relP wd ht m1 (k : Int) (j : Int) (-1) (-1) = u) := ⟨_, rfl⟩
                have ok2 : OkD wd ht m2 := by rw [← Hm2.out]; exact rel_ok ok1 _ _ _ _
                obtain ⟨m3, Hm3⟩ : ∃ u, Hid (relP wd ht m2 (k : Int) (j : Int) (0) (-1) = u) := ⟨_, rfl⟩
                have ok3 : OkD wd ht m3 := by rw [← Hm3.out]; exact rel_ok ok2 _ _ _ _
                obtain ⟨m4, Hm4⟩ : ∃ u, Hid (relP wd ht m3 (k : Int) (j : Int) (1) (-1) = u) := ⟨_, rfl⟩
                have ok4 : OkD wd ht m4 := by rw [← Hm4.out]; exact rel_ok ok3 _ _ _ _
                have HK0 := Lib.hid ok0
                have HK1 := Lib.hid ok1
                have HK2 := Lib.hid ok2
                have HK3 := Lib.hid ok3
                have HK4 := Lib.hid ok4
                clear hin hmn hok ok0 ok1 ok2 ok3 ok4
                go_wp2_with fail
                refine (relax_any wd ht g c2 b.n m (k : Int) (j : Int) (-1) (0) w1.heap.size _ oh0 (HK0.out.len.trans harea) harea hwl hhl HIN.out (by decide) HK0.out.byte m1 Hm1).mono ?_
                rintro e x1 ⟨rfl, oh1, hg1⟩
                have q1C := q0C.grown hg1 (oh0.neBk q0C (by decide))
                have q1O := q0O.grown hg1 (oh0.neBk q0O (by decide))
                have q1G := q0G.grown hg1 (oh0.neBk q0G (by decide))
                have hB1 := below_grown oh0 hg1 hB0 hbase
                clear kcG kfG kaG kgG
                obtain ⟨kcG, kfG, kaG, kgG, klG⟩ := q1G.rules
                go_wp2_with fail
                refine (relax_any wd ht g c2 b.n m1 (k : Int) (j : Int) (-1) (-1) w1.heap.size _ oh1 (HK1.out.len.trans harea) harea hwl hhl HIN.out (by decide) HK1.out.byte m2 Hm2).mono ?_
                rintro e x2 ⟨rfl, oh2, hg2⟩
                have q2C := q1C.grown hg2 (oh1.neBk q1C (by decide))
                have q2O := q1O.grown hg2 (oh1.neBk q1O (by decide))
                have q2G := q1G.grown hg2 (oh1.neBk q1G (by decide))
                have hB2 := below_grown oh1 hg2 hB1 hbase
                clear kcG kfG kaG kgG
                obtain ⟨kcG, kfG, kaG, kgG, klG⟩ := q2G.rules
                go_wp2_with fail
                refine (relax_any wd ht g c2 b.n m2 (k : Int) (j : Int) (0) (-1) w1.heap.size _ oh2 (HK2.out.len.trans harea) harea hwl hhl HIN.out (by decide) HK2.out.byte m3 Hm3).mono ?_
                rintro e x3 ⟨rfl, oh3, hg3⟩
                have q3C := q2C.grown hg3 (oh2.neBk q2C (by decide))
                have q3O := q2O.grown hg3 (oh2.neBk q2O (by decide))
                have q3G := q2G.grown hg3 (oh2.neBk q2G (by decide))
                have hB3 := below_grown oh2 hg3 hB2 hbase
                clear kcG kfG kaG kgG
                obtain ⟨kcG, kfG, kaG, kgG, klG⟩ := q3G.rules
                go_wp2_with fail
                refine (relax_any wd ht g c2 b.n m3 (k : Int) (j : Int) (1) (-1) w1.heap.size _ oh3 (HK3.out.len.trans harea) harea hwl hhl HIN.out (by decide) HK3.out.byte m4 Hm4).mono ?_
                rintro e x4 ⟨rfl, oh4, hg4⟩
                have q4C := q3C.grown hg4 (oh3.neBk q3C (by decide))
                have q4O := q3O.grown hg4 (oh3.neBk q3O (by decide))
                have q4G := q3G.grown hg4 (oh3.neBk q3G (by decide))
                have hB4 := below_grown oh3 hg4 hB3 hbase
                clear kcG kfG kaG kgG
                obtain ⟨kcG, kfG, kaG, kgG, klG⟩ := q4G.rules
                have HM' : Hid (passD wd ht fwdN (madeL fpt 0 0 wd j ++ rowL fpt 0 (0 + (j : Int)) (k + 1)) L0 = m4) := by
                  unfold Hid
                  rw [rowL_succ, ← List.append_assoc, pass_snoc, HM.out, show fpt (0 + (k : Int)) (0 + (j : Int)) = ((k : Int), (j : Int)) by unfold fpt; rw [Int.zero_add, Int.zero_add], step_fwd, Hm1.out, Hm2.out, Hm3.out, Hm4.out]
                go_wp2
                go_roundw
                case rel => exact ⟨k + 1, m4, by omega, by go_num, q4C, q4O, q4G, oh4, HM', hB4⟩
                case measure => simp [intOf]; omega
              · obtain rfl : wd = k := by omega
                have c1 : (wd : Int) - 1 - (wd : Int) < 0 := by omega
                have HM' : Hid (passD wd ht fwdN (madeL fpt 0 0 wd (j + 1)) L0 = m) := by
                  unfold Hid; rw [madeL_succ]; exact HM.out
                go_wp2
                go_roundw
                case rel => exact ⟨j + 1, m, by omega, by go_num, jC, jO, jG, hm, HM', hbw⟩
                case measure => simp [intOf]; omega
          · obtain rfl : ht = j := by omega
            have c0 : (ht : Int) - 1 - (ht : Int) < 0 := by omega
            have HE : Hid (m = L1) := by unfold Hid; rw [← HM.out]; exact HL1.out
            rw [HE.out] at hm
            have HOK := Lib.hid HOK1.out
            have jG0 := jG
            have jC0 := jC
            have jO0 := jO
            have hm0 := hm
            have hbw0 := hbw
            clear jG jC jO hm hbw HM
            go_wp2_with fail
            clear kcC kfC kaC kgC kcO kfO kaO kgO kcG kfG kaG kgG
            go_loopw [9] (fun i wr => ∃ (j : Nat) (m : List Int), j ≤ ht ∧ i = .int .i64 ((ht : Int) - 1 - (j : Int)) ∧ Bk wr (w.heap.size) 29 #[.int .i64 b.r.x0, .int .i64 b.r.y0, .int .i64 b.r.x1, .int .i64 b.r.y1, .slice b.A b.n b.c] ∧ Bk wr (w.heap.size + 1) 29 #[.int .i64 0, .int .i64 0, .int .i64 0, .int .i64 0, .slice none 0 0] ∧ Bk wr (w2.heap.size) 70 #[.int .i64 (wd : Int), .int .i64 (ht : Int), .slice A2 b.n c2] ∧ OwnL encB 5 1 wr w1.heap.size (.slice A2 b.n c2) m ∧ Hid (passD wd ht bwdN (madeL (bpt wd ht) 0 0 wd j) L1 = m) ∧ Below w.heap.size w wr) (fun i _ => (intOf i + 1).toNat)
            case atStart => exact ⟨0, _, Nat.zero_le _, by simp, jC0, jO0, jG0, hm0, rfl, hbw0⟩
            case round =>
              obtain ⟨j, m, hj, rfl, jC, jO, jG, hm, HM, hbw⟩ := hrel
              obtain ⟨kcC, kfC, kaC, kgC, klC⟩ := jC.rules
              obtain ⟨kcO, kfO, kaO, kgO, klO⟩ := jO.rules
              obtain ⟨kcG, kfG, kaG, kgG, klG⟩ := jG.rules
              by_cases hlt : j < ht
              · have c0 : (0 : Int) ≤ (ht : Int) - 1 - (j : Int) := by omega
                have c0' : (j : Int) ≤ (ht : Int) - 1 := by omega
                go_wp2_with fail
                clear kcC kfC kaC kgC kcO kfO kaO kgO kcG kfG kaG kgG
                go_loopw [10] (fun i wr => ∃ (k : Nat) (m : List Int), k ≤ wd ∧ i = .int .i64 ((wd : Int) - 1 - (k : Int)) ∧ Bk wr (w.heap.size) 29 #[.int .i64 b.r.x0, .int .i64 b.r.y0, .int .i64 b.r.x1, .int .i64 b.r.y1, .slice b.A b.n b.c] ∧ Bk wr (w.heap.size + 1) 29 #[.int .i64 0, .int .i64 0, .int .i64 0, .int .i64 0, .slice none 0 0] ∧ Bk wr (w2.heap.size) 70 #[.int .i64 (wd : Int), .int .i64 (ht : Int), .slice A2 b.n c2] ∧ OwnL encB 5 1 wr w1.heap.size (.slice A2 b.n c2) m ∧ Hid (passD wd ht bwdN (madeL (bpt wd ht) 0 0 wd j ++ rowL (bpt wd ht) 0 (0 + (j : Int)) k) L1 = m) ∧ Below w.heap.size w wr) (fun i _ => (intOf i + 1).toNat)
                case atStart => exact ⟨0, m, Nat.zero_le _, by simp, jC, jO, jG, hm, by unfold Hid; rw [show rowL (bpt wd ht) 0 (0 + (j : Int)) 0 = [] from rfl, List.append_nil]; exact HM.out, hbw⟩
                case round =>
                  clear hm HM hbw jC jO jG
                  obtain ⟨k, m, hk, rfl, jC, jO, jG, hm, HM, hbw⟩ := hrel
                  obtain ⟨kcC, kfC, kaC, kgC, klC⟩ := jC.rules
                  obtain ⟨kcO, kfO, kaO, kgO, klO⟩ := jO.rules
                  obtain ⟨kcG, kfG, kaG, kgG, klG⟩ := jG.rules
                  by_cases hlx : k < wd
                  · have c1 : (0 : Int) ≤ (wd : Int) - 1 - (k : Int) := by omega
                    have c1' : (k : Int) ≤ (wd : Int) - 1 := by omega
                    have hok : OkD wd ht m := by rw [← HM.out]; exact pass_ok _ HOK.out
                    have hin : inG wd ht ((wd : Int) - 1 - (k : Int)) ((ht : Int) - 1 - (j : Int)) := ⟨by omega, by omega, by omega, by omega⟩
                    have hne : m ≠ [] := by intro h; have h2 := hok.len; rw [h] at h2; have h3 := gix_lt hin; simp at h2; omega
                    obtain ⟨g, cap, cur, hvv, hbg, kg0, hcap, hmx, hsz, htk⟩ := hm.block hne
                    have hmn : m.length = b.n := by rw [hok.len]; exact harea
                    have hA : A2 = some ⟨g, 0, none⟩ ∧ b.n = m.length ∧ c2 = cap := by injection hvv with h1 h2 h3; exact ⟨h1, h2, h3⟩
                    obtain ⟨rfl, -, rfl⟩ := hA
                    clear hvv hsz htk hmx hcap kg0 hne cur
                    have HIN := Lib.hid hin
                    have q0C := jC
                    have q0O := jO
                    have q0G := jG
                    have oh0 := hm
                    have hB0 := hbw
                    have ok0 := hok
                    obtain ⟨m1, Hm1⟩ : ∃ u, Hid (relP wd ht m ((wd : Int) - 1 - (k : Int)) ((ht : Int) - 1 - (j : Int)) (1) (0) = u) := ⟨_, rfl⟩
                    have ok1 : OkD wd ht m1 := by rw [← Hm1.out]; exact rel_ok ok0 _ _ _ _
                    obtain ⟨m2, Hm2⟩ : ∃ u, Hid (relP wd ht m1 ((wd : Int) - 1 - (k : Int)) ((ht : Int) - 1 - (j : Int)) (1) (1) = u) := ⟨_, rfl⟩
                    have ok2 : OkD wd ht m2 := by rw [← Hm2.out]; exact rel_ok ok1 _ _ _ _
                    obtain ⟨m3, Hm3⟩ : ∃ u, Hid (relP wd ht m2 ((wd : Int) - 1 - (k : Int)) ((ht : Int) - 1 - (j : Int)) (0) (1) = u) := ⟨_, rfl⟩
                    have ok3 : OkD wd ht m3 := by rw [← Hm3.out]; exact rel_ok ok2 _ _ _ _
                    obtain ⟨m4, Hm4⟩ : ∃ u, Hid (relP wd ht m3 ((wd : Int) - 1 - (k : Int)) ((ht : Int) - 1 - (j : Int)) (-1) (1) = u) := ⟨_, rfl⟩
                    have ok4 : OkD wd ht m4 := by rw [← Hm4.out]; exact rel_ok ok3 _ _ _ _
                    have HK0 := Lib.hid ok0
                    have HK1 := Lib.hid ok1
                    have HK2 := Lib.hid ok2
                    have HK3 := Lib.hid ok3
                    have HK4 := Lib.hid ok4
                    clear hin hmn hok ok0 ok1 ok2 ok3 ok4
                    go_wp2_with fail
                    refine (relax_any wd ht g c2 b.n m ((wd : Int) - 1 - (k : Int)) ((ht : Int) - 1 - (j : Int)) (1) (0) w1.heap.size _ oh0 (HK0.out.len.trans harea) harea hwl hhl HIN.out (by decide) HK0.out.byte m1 Hm1).mono ?_
                    rintro e x1 ⟨rfl, oh1, hg1⟩
                    have q1C := q0C.grown hg1 (oh0.neBk q0C (by decide))
                    have q1O := q0O.grown hg1 (oh0.neBk q0O (by decide))
                    have q1G := q0G.grown hg1 (oh0.neBk q0G (by decide))
                    have hB1 := below_grown oh0 hg1 hB0 hbase
                    clear kcG kfG kaG kgG
                    obtain ⟨kcG, kfG, kaG, kgG, klG⟩ := q1G.rules
                    go_wp2_with fail
                    refine (relax_any wd ht g c2 b.n m1 ((wd : Int) - 1 - (k : Int)) ((ht : Int) - 1 - (j : Int)) (1) (1) w1.heap.size _ oh1 (HK1.out.len.trans harea) harea hwl hhl HIN.out (by decide) HK1.out.byte m2 Hm2).mono ?_
                    rintro e x2 ⟨rfl, oh2, hg2⟩
                    have q2C := q1C.grown hg2 (oh1.neBk q1C (by decide))
                    have q2O := q1O.grown hg2 (oh1.neBk q1O (by decide))
                    have q2G := q1G.grown hg2 (oh1.neBk q1G (by decide))
                    have hB2 := below_grown oh1 hg2 hB1 hbase
                    clear kcG kfG kaG kgG
                    obtain ⟨kcG, kfG, kaG, kgG, klG⟩ := q2G.rules
                    go_wp2_with fail
                    refine (relax_any wd ht g c2 b.n m2 ((wd : Int) - 1 - (k : Int)) ((ht : Int) - 1 - (j : Int)) (0) (1) w1.heap.size _ oh2 (HK2.out.len.trans harea) harea hwl hhl HIN.out (by decide) HK2.out.byte m3 Hm3).mono ?_
                    rintro e x3 ⟨rfl, oh3, hg3⟩
                    have q3C := q2C.grown hg3 (oh2.neBk q2C (by decide))
                    have q3O := q2O.grown hg3 (oh2.neBk q2O (by decide))
                    have q3G := q2G.grown hg3 (oh2.neBk q2G (by decide))
                    have hB3 := below_grown oh2 hg3 hB2 hbase
                    clear kcG kfG kaG kgG
                    obtain ⟨kcG, kfG, kaG, kgG, klG⟩ := q3G.rules
                    go_wp2_with fail
                    refine (relax_any wd ht g c2 b.n m3 ((wd : Int) - 1 - (k : Int)) ((ht : Int) - 1 - (j : Int)) (-1) (1) w1.heap.size _ oh3 (HK3.out.len.trans harea) harea hwl hhl HIN.out (by decide) HK3.out.byte m4 Hm4).mono ?_
                    rintro e x4 ⟨rfl, oh4, hg4⟩
                    have q4C := q3C.grown hg4 (oh3.neBk q3C (by decide))
                    have q4O := q3O.grown hg4 (oh3.neBk q3O (by decide))
                    have q4G := q3G.grown hg4 (oh3.neBk q3G (by decide))
                    have hB4 := below_grown oh3 hg4 hB3 hbase
                    clear kcG kfG kaG kgG
                    obtain ⟨kcG, kfG, kaG, kgG, klG⟩ := q4G.rules
                    have HM' : Hid (passD wd ht bwdN (madeL (bpt wd ht) 0 0 wd j ++ rowL (bpt wd ht) 0 (0 + (j : Int)) (k + 1)) L1 = m4) := by
                      unfold Hid
                      rw [rowL_succ, ← List.append_assoc, pass_snoc, HM.out, show (bpt wd ht) (0 + (k : Int)) (0 + (j : Int)) = (((wd : Int) - 1 - (k : Int)), ((ht : Int) - 1 - (j : Int))) by unfold bpt; rw [Int.zero_add, Int.zero_add], step_bwd, Hm1.out, Hm2.out, Hm3.out, Hm4.out]
                    go_wp2
                    go_roundw
                    case rel => exact ⟨k + 1, m4, by omega, by rw [show (wd : Int) - 1 - (k : Int) - 1 = (wd : Int) - 1 - ((k + 1 : Nat) : Int) by omega], q4C, q4O, q4G, oh4, HM', hB4⟩
                    case measure => simp [intOf]; omega
                  · obtain rfl : wd = k := by omega
                    have c1 : (wd : Int) - 1 - (wd : Int) < 0 := by omega
                    have HM' : Hid (passD wd ht bwdN (madeL (bpt wd ht) 0 0 wd (j + 1)) L1 = m) := by
                      unfold Hid; rw [madeL_succ]; exact HM.out
                    go_wp2
                    go_roundw
                    case rel => exact ⟨j + 1, m, by omega, by rw [show (ht : Int) - 1 - (j : Int) - 1 = (ht : Int) - 1 - ((j + 1 : Nat) : Int) by omega], jC, jO, jG, hm, HM', hbw⟩
                    case measure => simp [intOf]; omega
              · obtain rfl : ht = j := by omega
                have c0 : (ht : Int) - 1 - (ht : Int) < 0 := by omega
                have HE : Hid (m = D0) := by unfold Hid; rw [← HM.out]; exact HD0.out
                rw [HE.out] at hm
                have ho : OwnL encB 5 1 wr w.heap.size (.slice A2 b.n c2) D0 := hm.mono hbase
                have o1 := ho.setFar jO (by decide) 0 (.int .i64 b.r.x0)
                have m1 := jO.set 0 (.int .i64 b.r.x0)
                have o2 := o1.setFar m1 (by decide) 1 (.int .i64 b.r.y0)
                have m2 := m1.set 1 (.int .i64 b.r.y0)
                have o3 := o2.setFar m2 (by decide) 2 (.int .i64 b.r.x1)
                have m3 := m2.set 2 (.int .i64 b.r.x1)
                have o4 := o3.setFar m3 (by decide) 3 (.int .i64 b.r.y1)
                have m4 := m3.set 3 (.int .i64 b.r.y1)
                have o5 := o4.setFar m4 (by decide) 4 (.slice A2 b.n c2)
                clear o1 o2 o3 o4 m1 m2 m3 m4
                go_wp2
                refine bodyPost_ret (v := _) ?_ rfl ⟨_, rfl, o5, (by repeat (first | (with_reducible exact Below.refl _ _) | (with_reducible refine balloc ?_ _) | (with_reducible refine Below.drew ?_) | (with_reducible refine bdrewN ?_ _) | ((with_reducible refine bset ?_ ?_ _); rotate_left; focus (first | (with_reducible exact Nat.le_refl _) | (simp; done) | (simp; omega) | omega)) | (with_reducible refine bstep (by with_reducible assumption) ?_)))⟩
                simp [results, Try.results41, go_sem, kcO]
end Go.Proofs.Ytndablijjkchjaa
