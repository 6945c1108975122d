/-
  The walks of grisailleref01.Normalize, Digit and Cmp.
-/
import Derived.Test.YtlholebpfgjpdaaBig1
namespace Go.Proofs.Ytlholebpfgjpdaa
open Go.RowKit
set_option linter.unusedSimpArgs false
set_option linter.unusedVariables false

set_option maxHeartbeats 3200000 in
theorem norm_f (d : Dg) (w : World) (hd : d.ok w) (hs : d.n ≤ 4000) :
    Calls Try.prog 87 #[.slice d.A d.n d.c] w (RetF (valD d.l) w) := by
  have HD := Lib.hid hd
  have HLN := Lib.hid hd.ln
  clear hd
  go_enter Try.func87, Try.ntmps87
  go_wp2_with fail
  go_loopw [3] (fun i wr => ∃ k : Nat, k ≤ d.n ∧ i = .int .i64 k ∧ Hid (∀ j, k ≤ j → d.l.getD j 0 = 0) ∧ Hid (w = wr)) (fun i _ => (intOf i).toNat)
  case atStart => exact ⟨d.n, Nat.le_refl _, rfl, fun j hj => by rw [List.getD_eq_getElem?_getD, List.getElem?_eq_none (by have := HLN.out; omega)]; rfl, rfl⟩
  case round =>
    obtain ⟨k, hk, rfl, HZ, hw⟩ := hrel
    obtain rfl := hw.out
    clear hw
    have hcase : (∃ m, k = m + 1 ∧ Hid (d.l.getD m 0 = 0)) ∨ ((k = 0 ∨ ∃ m, k = m + 1 ∧ ∃ x, Hid (d.l.getD m 0 = x) ∧ x ≠ 0) ∧ Hid (dig (valD d.l) = d.l.take k)) := by
      rcases Nat.eq_zero_or_pos k with h | h
      · exact .inr ⟨.inl h, dig_take HD.out.dg (by have := HLN.out; omega) HZ.out (.inl h)⟩
      · by_cases h2 : d.l.getD (k - 1) 0 = 0
        · exact .inl ⟨k - 1, by omega, h2⟩
        · exact .inr ⟨.inr ⟨k - 1, by omega, _, rfl, h2⟩, dig_take HD.out.dg (by have := HLN.out; omega) HZ.out (.inr h2)⟩
    rcases hcase with ⟨m, rfl, hm⟩ | ⟨hcase, HE⟩
    · obtain ⟨g, o, hA, hg, hc⟩ := rdD (HD.out.rd) (show m < d.l.length by have := HLN.out; omega)
      rw [hm.out] at hc
      have i0 : (0 : Int) ≤ (m : Int) := by omega
      have i1 : (m : Int) < (d.n : Int) := by omega
      have e1 : ((m + 1 : Nat) : Int) = (m : Int) + 1 := by omega
      rw [e1]
      clear e1
      have HA := Lib.hid hA
      rw [HA.out]
      clear hA
      have HZ2 : Hid (∀ j, m ≤ j → d.l.getD j 0 = 0) := fun j hj => by
        rcases Nat.eq_or_lt_of_le hj with h | h
        · subst h; exact hm.out
        · exact HZ.out j h
      go_wp2
      go_roundw
      case rel => exact ⟨m, by omega, by go_num, HZ2, by first | trivial | exact rfl⟩
      case measure => first | (simp [intOf]; done) | (simp [intOf]; omega)
    · have hkl : k ≤ d.l.length := by have := HLN.out; omega
      clear HZ
      obtain ⟨A, HA⟩ : ∃ A, Hid (d.A = A) := ⟨_, rfl⟩
      have hrd := HD.out.rd
      rw [HA.out] at hrd ⊢
      have HRD := Lib.hid hrd
      clear hrd
      rcases hcase with rfl | ⟨m, rfl, x, hx, hx0⟩
      · skip
        go_wp2_with fail
        have kO : Bk (w.alloc (.cells #[] 108)) w.heap.size 108 #[] := Bk.new _ _ _ rfl
        go_loopw [4, 5] (fun u i wr => ∃ k : Nat, k ≤ 0 ∧ i = .int .i64 k ∧ OwnL encD 108 1 wr w.heap.size u (d.l.take k) ∧ Below w.heap.size w wr) (fun _ i _ => 0 - (intOf i).toNat)
        case atStart => exact ⟨0, Nat.zero_le _, rfl, OwnL.lit (l := []) encD_len kO (by omega) (by decide) rfl, (by repeat (first | (with_reducible exact Below.refl _ _) | (with_reducible refine balloc ?_ _) | (with_reducible refine Below.drew ?_) | (with_reducible refine bdrewN ?_ _) | ((with_reducible refine bset ?_ ?_ _); rotate_left; focus (first | (with_reducible exact Nat.le_refl _) | (simp; done) | (simp; omega) | omega)) | (with_reducible refine bstep (by with_reducible assumption) ?_)))⟩
        case round =>
          obtain ⟨k, hk2, rfl, hu, hbw⟩ := hrel
          by_cases hlt : k < 0
          · exact absurd hlt (Nat.not_lt_zero _)
          · obtain rfl : k = 0 := by omega
            have j2 : ¬ ((0 : Int) < 0) := by omega
            rw [← HE.out] at hu
            obtain ⟨dd, hdv, hdo, hdl, hdf⟩ := dg_of_own2 hu (dig_ok _)
            go_wp2
            go_ret
            exact ⟨dd, by first | rfl | rw [hdv], hdo, hdl, hdf, hbw⟩
      · obtain ⟨g, o, rfl, hg, hc⟩ := rdD HRD.out (show m < d.l.length by omega)
        rw [hx.out] at hc
        have i0 : (0 : Int) ≤ (m : Int) := by omega
        have i1 : (m : Int) < (d.n : Int) := by omega
        have i2 : ((x : Int) == 0) = false := by simp; omega
        have e1 : ((m + 1 : Nat) : Int) = (m : Int) + 1 := by omega
        rw [e1]
        clear e1
        go_wp2_with fail
        have kO : Bk (w.alloc (.cells #[] 108)) w.heap.size 108 #[] := Bk.new _ _ _ rfl
        go_loopw [4, 5] (fun u i wr => ∃ k : Nat, k ≤ (m + 1) ∧ i = .int .i64 k ∧ OwnL encD 108 1 wr w.heap.size u (d.l.take k) ∧ Below w.heap.size w wr) (fun _ i _ => (m + 1) - (intOf i).toNat)
        case atStart => exact ⟨0, Nat.zero_le _, rfl, OwnL.lit (l := []) encD_len kO (by omega) (by decide) rfl, (by repeat (first | (with_reducible exact Below.refl _ _) | (with_reducible refine balloc ?_ _) | (with_reducible refine Below.drew ?_) | (with_reducible refine bdrewN ?_ _) | ((with_reducible refine bset ?_ ?_ _); rotate_left; focus (first | (with_reducible exact Nat.le_refl _) | (simp; done) | (simp; omega) | omega)) | (with_reducible refine bstep (by with_reducible assumption) ?_)))⟩
        case round =>
          obtain ⟨k, hk2, rfl, hu, hbw⟩ := hrel
          by_cases hlt : k < (m + 1)
          · have hkl2 : k < d.l.length := by omega
            obtain ⟨g2, o2, hA2, hg2, hc2⟩ := rdD (HRD.out.below hbw) hkl2
            injection hA2 with hA2; injection hA2 with hA3 hA4 hA5; clear hA5; subst hA3 hA4
            obtain ⟨y, Hy⟩ : ∃ y, Hid (d.l.getD k 0 = y) := ⟨_, rfl⟩
            rw [Hy.out] at hc2
            have j0 : (0 : Int) ≤ (k : Int) := by omega
            have j1 : (k : Int) < (d.n : Int) := by omega
            have j2 : (k : Int) < ((m : Int) + 1) := by omega
            have hlen : (d.l.take k).length ≤ 4294967296 := by rw [List.length_take]; omega
            have hsz := hbw.size
            have HT : Hid (d.l.take k ++ [y] = d.l.take (k + 1)) := by
              unfold Hid
              rw [List.take_succ_eq_append_getElem hkl2, ← Hy.out, List.getD_eq_getElem?_getD, List.getElem?_eq_getElem hkl2]; rfl
            go_wp2_with (at_builtin; refine wpList_append_one encD_len encD_one 94 Try.infoU32 rfl (by decide) (by decide) Try.underlying94 rfl _ _ rfl w.heap.size _ _ rfl (hu.alloc _) wr.heap.size (y) rfl (Bk.new _ _ _ rfl) (by first | rfl | (simp [encD]; done) | (simp [encD]; omega)) hlen (by simp at hsz ⊢; omega) ?_; intro v5 w5 ho5 hg5 hv5)
            rw [HT.out] at ho5
            have hB5 := below_grown (hu.alloc (.cells #[.int .u32 (y : Int)] 108)) hg5 (balloc hbw (.cells #[.int .u32 (y : Int)] 108)) (by first | exact Nat.le_refl _ | omega)
            clear hu hg5 HT hc2
            go_wp2
            go_roundw
            case rel => exact ⟨k + 1, by omega, by go_num, ho5, hB5⟩
            case measure => first | (simp [intOf]; done) | (simp [intOf]; omega)
          · obtain rfl : k = (m + 1) := by omega
            have j2 : ¬ ((((m : Int) + 1) : Int) < ((m : Int) + 1)) := by omega
            rw [← HE.out] at hu
            obtain ⟨dd, hdv, hdo, hdl, hdf⟩ := dg_of_own2 hu (dig_ok _)
            go_wp2
            go_ret
            exact ⟨dd, by first | rfl | rw [hdv], hdo, hdl, hdf, hbw⟩
theorem norm_any (d : Dg) (w : World) (hd : d.ok w) (hs : d.n ≤ 4000) :
    Calls Try.prog 87 #[.slice d.A d.n d.c] w (RetD (valD d.l) w) := by
  refine (norm_f d w hd hs).mono ?_
  rintro e w' ⟨d6, he, ho, hl, _, hb⟩
  exact ⟨d6, he, ho, hl, hb⟩
set_option maxHeartbeats 1600000 in
theorem digit_any (d : Dg) (i : Nat) (w : World) (hd : d.ok w) (x : Nat) (Hx : Hid (d.l.getD i 0 = x)) :
    Calls Try.prog 91 #[.slice d.A d.n d.c, .int .i64 (i : Int)] w fun e w' => e = .returned (.int .u64 (x : Int)) ∧ w = w' := by
  have HD := Lib.hid hd
  have HLN := Lib.hid hd.ln
  clear hd
  by_cases hi : i < d.n
  · obtain ⟨g, o, hA, hg, hc⟩ := rdD (HD.out.rd) (show i < d.l.length by have := HLN.out; omega)
    rw [Hx.out] at hc
    have hx : x < 4294967296 := by rw [← Hx.out]; exact okD_get HD.out.dg i
    have i0 : (0 : Int) ≤ (i : Int) := by omega
    have i1 : (i : Int) < (d.n : Int) := by omega
    have i2 : ¬ ((i : Int) < 0) := by omega
    have i3 : ¬ ((d.n : Int) ≤ (i : Int)) := by omega
    have HA := Lib.hid hA
    rw [HA.out]
    clear hA
    go_enter Try.func91, Try.ntmps91
    go_wp2
    go_ret
    exact ⟨rfl, rfl⟩
  · have hx : x = 0 := by rw [← Hx.out, List.getD_eq_getElem?_getD, List.getElem?_eq_none (by have := HLN.out; omega)]; rfl
    subst hx
    have i2 : ¬ ((i : Int) < 0) := by omega
    have i3 : (d.n : Int) ≤ (i : Int) := by omega
    go_enter Try.func91, Try.ntmps91
    go_wp2
    go_ret
    exact ⟨rfl, rfl⟩
set_option maxHeartbeats 3200000 in
theorem cmp_any (a b : Dg) (w : World) (ha : a.ok w) (hb : b.ok w) (hna : a.n ≤ 4000) (hnb : b.n ≤ 4000) (v : Int) (Hv : Hid (cmpP (valD a.l) (valD b.l) = v)) :
    Calls Try.prog 94 #[.slice a.A a.n a.c, .slice b.A b.n b.c] w fun e w' => e = .returned (.int .i64 v) ∧ w = w' := by
  have HA := Lib.hid ha
  have HB := Lib.hid hb
  have HLA := Lib.hid ha.ln
  have HLB := Lib.hid hb.ln
  clear ha hb
  obtain ⟨M, hM⟩ : ∃ M, max a.n b.n = M := ⟨_, rfl⟩
  have hM4 : M ≤ 4000 := by omega
  have hM2 : (if a.n < b.n then (b.n : Int) else (a.n : Int)) = (M : Int) := by split <;> omega
  go_enter Try.func94, Try.ntmps94
  go_wp2_with fail
  go_loopw [5] (fun i wr => ∃ k : Nat, k ≤ M ∧ i = .int .i64 ((k : Int) - 1) ∧ Hid (∀ j, k ≤ j → a.l.getD j 0 = b.l.getD j 0) ∧ Hid (w = wr)) (fun i _ => ((intOf i) + 1).toNat)
  case atStart =>
    have HZ2 : Hid (∀ j, M ≤ j → a.l.getD j 0 = b.l.getD j 0) := fun j hj => by
      rw [List.getD_eq_getElem?_getD, List.getD_eq_getElem?_getD, List.getElem?_eq_none (by have := HLA.out; omega), List.getElem?_eq_none (by have := HLB.out; omega)]
    exact ⟨M, Nat.le_refl _, rfl, HZ2, by first | trivial | exact rfl⟩
  case round =>
    obtain ⟨k, hk, rfl, HZ, hw⟩ := hrel
    obtain rfl := hw.out
    clear hw
    rcases Nat.eq_zero_or_pos k with h0 | h0
    · subst h0
      obtain rfl : v = 0 := by
        rw [← Hv.out, cmpP, cmp_eq (a := a.l) (b := b.l) (m := M) (by have := HLA.out; have := HLB.out; omega) (fun j => HZ.out j (Nat.zero_le _)), if_neg (Nat.lt_irrefl _), if_neg (Nat.lt_irrefl _)]
      go_wp2
      go_ret
      exact ⟨rfl, rfl⟩
    · obtain ⟨m, rfl⟩ : ∃ m, k = m + 1 := ⟨k - 1, by omega⟩
      have e1 : ((m + 1 : Nat) : Int) - 1 = (m : Int) := by omega
      rw [e1]
      clear e1
      have i0 : (0 : Int) ≤ (m : Int) := by omega
      have hmM : m < M := hk
      have hm4 : (m : Int) < 4000 := by omega
      obtain ⟨x, Hx⟩ : ∃ x, Hid (a.l.getD m 0 = x) := ⟨_, rfl⟩
      obtain ⟨y, Hy⟩ : ∃ x, Hid (b.l.getD m 0 = x) := ⟨_, rfl⟩
      have hlm : a.l.length ≤ M ∧ b.l.length ≤ M := by have := HLA.out; have := HLB.out; omega
      rcases Nat.lt_trichotomy x y with hxy | hxy | hxy
      · have hlt := cmp_lt HA.out.dg HB.out.dg (m := M) (k := m) (by omega) hlm (fun j hj => HZ.out j hj) (by rw [Hx.out, Hy.out]; exact hxy)
        obtain rfl : v = -1 := by rw [← Hv.out, cmpP, if_pos hlt]
        clear hlt hlm
        go_wp2_with fail
        refine (digit_any a m _ HA.out x Hx).mono ?_
        rintro e w' ⟨rfl, rfl⟩
        go_wp2_with fail
        refine (digit_any b m _ HB.out y Hy).mono ?_
        rintro e w' ⟨rfl, rfl⟩
        go_wp2
        go_ret
        exact ⟨rfl, rfl⟩
      · subst hxy
        clear hlm
        go_wp2_with fail
        refine (digit_any a m _ HA.out x Hx).mono ?_
        rintro e w' ⟨rfl, rfl⟩
        go_wp2_with fail
        refine (digit_any b m _ HB.out x Hy).mono ?_
        rintro e w' ⟨rfl, rfl⟩
        go_wp2_with fail
        refine (digit_any a m _ HA.out x Hx).mono ?_
        rintro e w' ⟨rfl, rfl⟩
        go_wp2_with fail
        refine (digit_any b m _ HB.out x Hy).mono ?_
        rintro e w' ⟨rfl, rfl⟩
        have HZ2 : Hid (∀ j, m ≤ j → a.l.getD j 0 = b.l.getD j 0) := fun j hj => by
          rcases Nat.eq_or_lt_of_le hj with h | h
          · subst h; rw [Hx.out, Hy.out]
          · exact HZ.out j h
        go_wp2
        go_roundw
        case rel => exact ⟨m, by omega, by go_num, HZ2, by first | trivial | exact rfl⟩
        case measure => first | (simp [intOf]; done) | (simp [intOf]; omega)
      · have hlt := cmp_lt HB.out.dg HA.out.dg (m := M) (k := m) (by omega) hlm.symm (fun j hj => (HZ.out j hj).symm) (by rw [Hx.out, Hy.out]; exact hxy)
        obtain rfl : v = 1 := by rw [← Hv.out, cmpP, if_neg (Nat.not_lt.2 (Nat.le_of_lt hlt)), if_pos hlt]
        have i2 : ¬ (x < y) := by omega
        clear hlt hlm
        go_wp2_with fail
        refine (digit_any a m _ HA.out x Hx).mono ?_
        rintro e w' ⟨rfl, rfl⟩
        go_wp2_with fail
        refine (digit_any b m _ HB.out y Hy).mono ?_
        rintro e w' ⟨rfl, rfl⟩
        go_wp2_with fail
        refine (digit_any a m _ HA.out x Hx).mono ?_
        rintro e w' ⟨rfl, rfl⟩
        go_wp2_with fail
        refine (digit_any b m _ HB.out y Hy).mono ?_
        rintro e w' ⟨rfl, rfl⟩
        go_wp2
        go_ret
        exact ⟨rfl, rfl⟩
end Go.Proofs.Ytlholebpfgjpdaa
