/-
  The walks of grisailleref01.Add and Times.
-/
import Derived.Test.YtlholebpfgjpdaaBig2
namespace Go.Proofs.Ytlholebpfgjpdaa
open Go.RowKit
set_option linter.unusedSimpArgs false
set_option linter.unusedVariables false

set_option maxHeartbeats 3200000 in
theorem add_any (a b : Dg) (w : World) (ha : a.ok w) (hb : b.ok w) (hna : a.n ≤ 2000) (hnb : b.n ≤ 2000) :
    Calls Try.prog 84 #[.slice a.A a.n a.c, .slice b.A b.n b.c] w (RetD (valD a.l + valD b.l) w) := by
  have HA := Lib.hid ha
  have HB := Lib.hid hb
  have HLA := Lib.hid ha.ln
  have HLB := Lib.hid hb.ln
  clear ha hb
  obtain ⟨M, hM⟩ : ∃ M, max a.n b.n = M := ⟨_, rfl⟩
  have hM4 : M ≤ 2000 := by omega
  have hM2 : (if a.n < b.n then (b.n : Int) else (a.n : Int)) = (M : Int) := by split <;> omega
  go_enter Try.func84, Try.ntmps84
  go_wp2_with fail
  have kO : Bk (w.alloc (.cells #[] 108)) w.heap.size 108 #[] := Bk.new _ _ _ rfl
  go_loopw [5, 6, 7] (fun u c i wr => ∃ k : Nat, k ≤ M ∧ i = .int .i64 k ∧ c = .int .u64 ((addS a.l b.l k).2 : Nat) ∧ OwnL encD 108 1 wr w.heap.size u (addS a.l b.l k).1 ∧ Below w.heap.size w wr) (fun _ _ i _ => M - (intOf i).toNat)
  case atStart => exact ⟨0, Nat.zero_le _, rfl, rfl, OwnL.lit (l := []) encD_len kO (by omega) (by decide) rfl, (by repeat (first | (with_reducible exact Below.refl _ _) | (with_reducible refine balloc ?_ _) | (with_reducible refine Below.drew ?_) | (with_reducible refine bdrewN ?_ _) | ((with_reducible refine bset ?_ ?_ _); rotate_left; focus (first | (with_reducible exact Nat.le_refl _) | (simp; done) | (simp; omega) | omega)) | (with_reducible refine bstep (by with_reducible assumption) ?_)))⟩
  case round =>
    obtain ⟨k, hk, rfl, rfl, hu, hbw⟩ := hrel
    obtain ⟨s1, s2, s3, s4⟩ := addS_spec HA.out.dg HB.out.dg k
    have hsz := hbw.size
    have hk4 : k ≤ 4000 := by omega
    have hlen : (addS a.l b.l k).1.length ≤ 4294967296 := by rw [s1]; omega
    have HT0 : Hid ((addS a.l b.l (k + 1)) = ((addS a.l b.l k).1 ++ [(a.l.getD k 0 + b.l.getD k 0 + (addS a.l b.l k).2) % 4294967296], (a.l.getD k 0 + b.l.getD k 0 + (addS a.l b.l k).2) / 4294967296)) := by unfold Hid; rfl
    have HS1 := Lib.hid s1
    have HS2 := Lib.hid s2
    have HS3 := Lib.hid s3
    clear s1 s2 s3 s4
    by_cases hlt : k < M
    · have hsz2 := hbw.size
      obtain ⟨x, Hx⟩ : ∃ x, Hid (a.l.getD k 0 = x) := ⟨_, rfl⟩
      obtain ⟨y, Hy⟩ : ∃ x, Hid (b.l.getD k 0 = x) := ⟨_, rfl⟩
      have hx : x < 4294967296 := by rw [← Hx.out]; exact okD_get HA.out.dg k
      have hy : y < 4294967296 := by rw [← Hy.out]; exact okD_get HB.out.dg k
      rw [Hx.out, Hy.out] at HT0
      obtain ⟨c0, hc0⟩ : ∃ c, (addS a.l b.l k).2 = c := ⟨_, rfl⟩
      obtain ⟨L, hL⟩ : ∃ L, (addS a.l b.l k).1 = L := ⟨_, rfl⟩
      have hcb := HS3.out
      rw [hc0, hL] at HT0
      rw [hc0] at hcb ⊢
      rw [hL] at hlen hu
      clear hL hc0 HS1 HS2 HS3
      go_wp2_with fail
      refine (digit_any a k _ (HA.out.below hbw) x Hx).mono ?_
      rintro e w' ⟨rfl, rfl⟩
      go_wp2_with fail
      refine (digit_any b k _ (HB.out.below hbw) y Hy).mono ?_
      rintro e w' ⟨rfl, rfl⟩
      go_wp2_with (at_builtin; refine wpList_append_one encD_len encD_one 94 Try.infoU32 rfl (by decide) (by decide) Try.underlying94 rfl _ _ rfl w.heap.size _ _ rfl (hu.alloc _) wr.heap.size ((x + y + c0) % 4294967296) rfl (Bk.new _ _ _ rfl) (by first | rfl | (simp [encD]; done) | (simp [encD]; omega)) hlen (by simp at hsz ⊢; omega) ?_; intro v5 w5 ho5 hg5 hv5)
      rw [show L ++ [(x + y + c0) % 4294967296] = (addS a.l b.l (k + 1)).1 by rw [HT0.out]] at ho5
      have HC : Hid ((((x + y + c0) / 4294967296) : Nat) = (addS a.l b.l (k + 1)).2) := by unfold Hid; rw [HT0.out]
      have hB5 := below_grown (hu.alloc _) hg5 (balloc hbw _) (by first | exact Nat.le_refl _ | omega)
      clear hu hg5 HT0
      go_wp2
      go_roundw
      case rel => exact ⟨k + 1, by omega, by go_num, by rw [← HC.out]; first | rfl | (congr 1; omega) | (congr 1; simp; omega), ho5, hB5⟩
      case measure => first | (simp [intOf]; done) | (simp [intOf]; omega)
    · have hkB : k = M := by omega
      obtain ⟨c0, hc0⟩ : ∃ c, (addS a.l b.l k).2 = c := ⟨_, rfl⟩
      obtain ⟨L, hL⟩ : ∃ L, (addS a.l b.l k).1 = L := ⟨_, rfl⟩
      obtain ⟨hok, hval⟩ := addS_all HA.out.dg HB.out.dg (k := k) (by have := HLA.out; have := HLB.out; omega)
      have hll := HS1.out
      have hcb := HS3.out
      rw [hc0, hL] at hok hval
      rw [hc0] at hcb ⊢
      rw [hL] at hlen hu hll
      clear hL hc0 HS1 HS2 HS3 HT0
      have HOK := Lib.hid hok
      have HVAL := Lib.hid hval
      clear hok hval
      skip
      go_wp2_with (at_builtin; refine wpList_append_one encD_len encD_one 94 Try.infoU32 rfl (by decide) (by decide) Try.underlying94 rfl _ _ rfl w.heap.size _ _ rfl (hu.alloc _) wr.heap.size (c0) rfl (Bk.new _ _ _ rfl) (by first | rfl | (simp [encD]; done) | (simp [encD]; omega)) hlen (by simp at hsz ⊢; omega) ?_; intro v5 w5 ho5 hg5 hv5)
      have hB5 := below_grown (hu.alloc _) hg5 (balloc hbw _) (by first | exact Nat.le_refl _ | omega)
      obtain ⟨dd, hdv, hdo, hdl⟩ := dg_of_own ho5 HOK.out
      have hdn : dd.n ≤ 4000 := by rw [← hdo.ln, hdl, List.length_append, hll]; simp; omega
      rw [← hdl] at HVAL
      have HDO := Lib.hid hdo
      clear hg5 hu ho5 hdo hdl
      subst hdv
      go_wp2_with fail
      refine (norm_any dd _ HDO.out hdn).mono ?_
      rintro e w6 ⟨d6, rfl, ho6, hl6, hb6⟩
      have HO6 := Lib.hid ho6
      have HL6 := Lib.hid hl6
      clear ho6 hl6
      go_wp2
      go_ret
      exact ⟨d6, rfl, HO6.out, by rw [HL6.out, HVAL.out], bstep hb6 hB5⟩
set_option maxHeartbeats 3200000 in
theorem times_any (a : Dg) (d : Nat) (w : World) (ha : a.ok w) (hna : a.n ≤ 2000) (hd : d < 4294967296) :
    Calls Try.prog 93 #[.slice a.A a.n a.c, .int .u64 (d : Int)] w (RetD (valD a.l * d) w) := by
  have HA := Lib.hid ha
  have HLA := Lib.hid ha.ln
  clear ha
  go_enter Try.func93, Try.ntmps93
  go_wp2_with fail
  have kO : Bk (w.alloc (.cells #[] 108)) w.heap.size 108 #[] := Bk.new _ _ _ rfl
  go_loopw [5, 6, 7] (fun u c i wr => ∃ k : Nat, k ≤ a.n ∧ i = .int .i64 k ∧ c = .int .u64 ((timesS a.l d k).2 : Nat) ∧ OwnL encD 108 1 wr w.heap.size u (timesS a.l d k).1 ∧ Below w.heap.size w wr) (fun _ _ i _ => a.n - (intOf i).toNat)
  case atStart => exact ⟨0, Nat.zero_le _, rfl, rfl, OwnL.lit (l := []) encD_len kO (by omega) (by decide) rfl, (by repeat (first | (with_reducible exact Below.refl _ _) | (with_reducible refine balloc ?_ _) | (with_reducible refine Below.drew ?_) | (with_reducible refine bdrewN ?_ _) | ((with_reducible refine bset ?_ ?_ _); rotate_left; focus (first | (with_reducible exact Nat.le_refl _) | (simp; done) | (simp; omega) | omega)) | (with_reducible refine bstep (by with_reducible assumption) ?_)))⟩
  case round =>
    obtain ⟨k, hk, rfl, rfl, hu, hbw⟩ := hrel
    obtain ⟨s1, s2, s3, s4⟩ := timesS_spec HA.out.dg hd k
    have hsz := hbw.size
    have hk4 : k ≤ 4000 := by omega
    have hlen : (timesS a.l d k).1.length ≤ 4294967296 := by rw [s1]; omega
    have HT0 : Hid ((timesS a.l d (k + 1)) = ((timesS a.l d k).1 ++ [(a.l.getD k 0 * d + (timesS a.l d k).2) % 4294967296], (a.l.getD k 0 * d + (timesS a.l d k).2) / 4294967296)) := by unfold Hid; rfl
    have HS1 := Lib.hid s1
    have HS2 := Lib.hid s2
    have HS3 := Lib.hid s3
    clear s1 s2 s3 s4
    by_cases hlt : k < a.n
    · have hsz2 := hbw.size
      obtain ⟨x, Hx⟩ : ∃ x, Hid (a.l.getD k 0 = x) := ⟨_, rfl⟩
      have hx : x < 4294967296 := by rw [← Hx.out]; exact okD_get HA.out.dg k
      obtain ⟨g, o, hA, hg, hc⟩ := rdD (HA.out.below hbw).rd (show k < a.l.length by have := HLA.out; omega)
      rw [Hx.out] at HT0 hc
      have i0 : (0 : Int) ≤ (k : Int) := by omega
      have i1 : (k : Int) < (a.n : Int) := by omega
      have HAA := Lib.hid hA
      obtain ⟨c0, hc0⟩ : ∃ c, (timesS a.l d k).2 = c := ⟨_, rfl⟩
      obtain ⟨L, hL⟩ : ∃ L, (timesS a.l d k).1 = L := ⟨_, rfl⟩
      have hcb := HS3.out
      rw [hc0, hL] at HT0
      rw [hc0] at hcb ⊢
      rw [hL] at hlen hu
      clear hL hc0 HS1 HS2 HS3
      have hmul := (digit_mul hx hd hcb).1
      have hmul2 : (x * d : Nat) < 18446744073709551616 := by omega
      have hmul3 : (x : Int) * (d : Int) = ((x * d : Nat) : Int) := by rw [Int.natCast_mul]
      obtain ⟨m, hm⟩ : ∃ m, x * d = m := ⟨_, rfl⟩
      rw [hm] at hmul hmul2 hmul3 HT0
      rw [HAA.out]
      clear hA
      go_wp2_with (at_builtin; refine wpList_append_one encD_len encD_one 94 Try.infoU32 rfl (by decide) (by decide) Try.underlying94 rfl _ _ rfl w.heap.size _ _ rfl (hu.alloc _) wr.heap.size ((m + c0) % 4294967296) rfl (Bk.new _ _ _ rfl) (by first | rfl | (simp [encD]; done) | (simp [encD]; omega)) hlen (by simp at hsz ⊢; omega) ?_; intro v5 w5 ho5 hg5 hv5)
      rw [show L ++ [(m + c0) % 4294967296] = (timesS a.l d (k + 1)).1 by rw [HT0.out]] at ho5
      have HC : Hid ((((m + c0) / 4294967296) : Nat) = (timesS a.l d (k + 1)).2) := by unfold Hid; rw [HT0.out]
      have hB5 := below_grown (hu.alloc _) hg5 (balloc hbw _) (by first | exact Nat.le_refl _ | omega)
      clear hu hg5 HT0
      go_wp2
      go_roundw
      case rel => exact ⟨k + 1, by omega, by go_num, by rw [← HC.out]; first | rfl | (congr 1; omega) | (congr 1; simp; omega), ho5, hB5⟩
      case measure => first | (simp [intOf]; done) | (simp [intOf]; omega)
    · have hkB : k = a.n := by omega
      obtain ⟨c0, hc0⟩ : ∃ c, (timesS a.l d k).2 = c := ⟨_, rfl⟩
      obtain ⟨L, hL⟩ : ∃ L, (timesS a.l d k).1 = L := ⟨_, rfl⟩
      obtain ⟨hok, hval⟩ := timesS_all HA.out.dg hd (k := k) (by have := HLA.out; omega)
      have hll := HS1.out
      have hcb := HS3.out
      rw [hc0, hL] at hok hval
      rw [hc0] at hcb ⊢
      rw [hL] at hlen hu hll
      clear hL hc0 HS1 HS2 HS3 HT0
      have HOK := Lib.hid hok
      have HVAL := Lib.hid hval
      clear hok hval
      skip
      go_wp2_with (at_builtin; refine wpList_append_one encD_len encD_one 94 Try.infoU32 rfl (by decide) (by decide) Try.underlying94 rfl _ _ rfl w.heap.size _ _ rfl (hu.alloc _) wr.heap.size (c0) rfl (Bk.new _ _ _ rfl) (by first | rfl | (simp [encD]; done) | (simp [encD]; omega)) hlen (by simp at hsz ⊢; omega) ?_; intro v5 w5 ho5 hg5 hv5)
      have hB5 := below_grown (hu.alloc _) hg5 (balloc hbw _) (by first | exact Nat.le_refl _ | omega)
      obtain ⟨dd, hdv, hdo, hdl⟩ := dg_of_own ho5 HOK.out
      have hdn : dd.n ≤ 4000 := by rw [← hdo.ln, hdl, List.length_append, hll]; simp; omega
      rw [← hdl] at HVAL
      have HDO := Lib.hid hdo
      clear hg5 hu ho5 hdo hdl
      subst hdv
      go_wp2_with fail
      refine (norm_any dd _ HDO.out hdn).mono ?_
      rintro e w6 ⟨d6, rfl, ho6, hl6, hb6⟩
      have HO6 := Lib.hid ho6
      have HL6 := Lib.hid hl6
      clear ho6 hl6
      go_wp2
      go_ret
      exact ⟨d6, rfl, HO6.out, by rw [HL6.out, HVAL.out], bstep hb6 hB5⟩
end Go.Proofs.Ytlholebpfgjpdaa
