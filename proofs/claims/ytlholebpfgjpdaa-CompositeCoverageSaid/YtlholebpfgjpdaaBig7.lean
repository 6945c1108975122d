/-
  The walk of grisailleref01.often.
-/
import Derived.Test.YtlholebpfgjpdaaBig3
import Derived.Test.YtlholebpfgjpdaaBig5
import Derived.IntWalk
namespace Go.Proofs.Ytlholebpfgjpdaa
open Go.RowKit
set_option linter.unusedSimpArgs false
set_option linter.unusedVariables false

/-- What often hands back: a digit and the rest. -/
def RetO (q n : Nat) (w : World) (e : Ending) (w' : World) : Prop := ∃ d : Dg, e = .returned (.tuple #[.int .u64 (q : Int), .slice d.A d.n d.c]) ∧ d.ok w' ∧ d.l = dig n ∧ Frs w.heap.size d ∧ Below w.heap.size w w'
set_option maxHeartbeats 6400000 in
theorem often_any (r b : Dg) (w : World) (hr : r.ok w) (hb : b.ok w) (hnr : r.n ≤ 1000) (hnb : b.n ≤ 1000) (hne : b.l ≠ []) (htop : b.l.getD (b.l.length - 1) 0 ≠ 0) (hlt : valD r.l < 4294967296 * valD b.l) :
    Calls Try.prog 90 #[.slice r.A r.n r.c, .slice b.A b.n b.c] w (RetO (valD r.l / valD b.l) (valD r.l % valD b.l) w) := by
  have HR := Lib.hid hr
  have HB := Lib.hid hb
  have HLB := Lib.hid hb.ln
  obtain ⟨k1, k2, k3⟩ := often_top hr.dg hb.dg hne htop hlt
  have hbl : 0 < b.l.length := List.length_pos_iff.2 hne
  obtain ⟨m, hm⟩ : ∃ m, b.n = m + 1 := ⟨b.n - 1, by have := HLB.out; omega⟩
  have hlm : b.l.length - 1 = m := by have := HLB.out; omega
  have hlen : b.l.length = b.n := HLB.out
  rw [hlm] at k1 htop
  rw [hlen] at k1
  obtain ⟨x1, H1⟩ : ∃ x, Hid (r.l.getD b.n 0 = x) := ⟨_, rfl⟩
  obtain ⟨x0, H0⟩ : ∃ x, Hid (r.l.getD m 0 = x) := ⟨_, rfl⟩
  obtain ⟨t, Ht⟩ : ∃ x, Hid (b.l.getD m 0 = x) := ⟨_, rfl⟩
  rw [H1.out, H0.out, Ht.out] at k1
  rw [Ht.out] at htop
  have b1 : x1 < 4294967296 := by rw [← H1.out]; exact okD_get hr.dg _
  have b0 : x0 < 4294967296 := by rw [← H0.out]; exact okD_get hr.dg _
  have bt : t < 4294967296 := by rw [← Ht.out]; exact okD_get hb.dg _
  obtain ⟨Y, hY⟩ : ∃ Y, x1 * 4294967296 + x0 = Y := ⟨_, rfl⟩
  rw [hY] at k1
  obtain ⟨Q, hQ⟩ : ∃ Q, Y / t = Q := ⟨_, rfl⟩
  rw [hQ] at k1
  obtain ⟨R, HRv⟩ : ∃ R, Hid (valD r.l = R) := ⟨_, rfl⟩
  obtain ⟨V, HV⟩ : ∃ R, Hid (valD b.l = R) := ⟨_, rfl⟩
  have hVb : V < 4294967296 ^ b.n := by rw [← HV.out, ← hlen]; exact val_lt hb.dg
  rw [HRv.out, HV.out] at k1 k2 hlt ⊢
  rw [HV.out] at k3
  obtain ⟨q, Hq⟩ : ∃ R, Hid (R = R) ∧ R = R := ⟨0, rfl, rfl⟩
  clear Hq q
  obtain ⟨q, Hq⟩ : ∃ d, Hid (R / V = d) := ⟨_, rfl⟩
  rw [Hq.out] at k1 k2 ⊢
  obtain ⟨d0, hd0⟩ : ∃ d, min Q 4294967295 = d := ⟨_, rfl⟩
  have hd1 : q ≤ d0 := by omega
  have hd2 : d0 ≤ 4294967295 := by omega
  have hQb : Q < 18446744073709551616 := by rw [← hQ]; exact Nat.lt_of_le_of_lt (Nat.div_le_self _ _) (by omega)
  have q1 : (if (4294967295 : Int) < (Q : Int) then (4294967295 : Int) else (Q : Int)) = (d0 : Int) := by split <;> omega
  have q2 : (if 4294967295 < Q then (4294967295 : Int) else (Q : Int)) = (d0 : Int) := by split <;> omega
  have e1 : IntKind.i64.wrap ((b.n : Int) - 1) = (m : Int) := by rw [show (b.n : Int) - 1 = (m : Int) by omega]; exact IntWalk.i64_in _ (by omega)
  have e2 : IntKind.u64.wrap ((x1 : Int) * 4294967296) = (x1 : Int) * 4294967296 := IntWalk.u64_in _ (by omega)
  have e3 : IntKind.u64.wrap ((x1 : Int) * 4294967296 + (x0 : Int)) = (Y : Int) := by rw [show (x1 : Int) * 4294967296 + (x0 : Int) = (Y : Int) by omega]; exact IntWalk.u64_in _ (by omega)
  have e4 : IntKind.u64.wrap (t : Int) = (t : Int) := IntWalk.u64_in _ (by omega)
  have e5 : IntKind.u64.wrap ((Y : Int).tdiv (t : Int)) = (Q : Int) := by rw [Int.tdiv_eq_ediv_of_nonneg (by omega), ← Int.natCast_ediv, hQ]; exact IntWalk.u64_in _ (by omega)
  have e8 : IntKind.u64.wrap ((Y : Int) / (t : Int)) = (Q : Int) := by rw [← Int.natCast_ediv, hQ]; exact IntWalk.u64_in _ (by omega)
  have e6 : ¬ (t = 0) := by omega
  have e7 : ((t : Int) == 0) = false := by simp; omega
  obtain ⟨g, o, hA, hg, hc⟩ := rdD hb.rd (show m < b.l.length by omega)
  rw [Ht.out] at hc
  have HC := Lib.hid hc
  have HA := Lib.hid hA
  have HVB := Lib.hid hVb
  have HLT := Lib.hid hlt
  have i0 : (0 : Int) ≤ (m : Int) := by omega
  have i1 : (m : Int) < (b.n : Int) := by omega
  clear hr hb hc hA hVb hlt hm hlm hlen hY hQ hd0 htop hne hbl k1
  go_enter Try.func90, Try.ntmps90
  go_wp2_with fail
  refine wp_region_gob 17 [(0, true), (1, true), (4, true), (5, true), (6, true), (9, true), (10, true), (11, true), (12, true), (13, true), (14, true), (2, false), (3, true), (7, false), (8, true), (15, true), (16, true)] (by kernel_rfl) (by kernel_rfl) (fun c a d v w h => by cases d <;> exact h) ?_
  repeat (first | (refine wpGo_pure (v := ?_) rfl rfl (fun w' hS => ?_) ?_; rotate_left; (· have qc := (hS.cell (p := ⟨g, o + m, none⟩) hg).trans HC.out; have hA' := HA.out; go_simp; exact rfl); (try simp only [Act.put, List.setIfInBounds_toArray, List.set_cons_zero, List.set_cons_succ])) | ((refine wpGo_skip rfl rfl ?_); (try simp only [Act.put, List.setIfInBounds_toArray, List.set_cons_zero, List.set_cons_succ])))
  refine wpGo_eff rfl (fun K hK => ?_)
  go_simp
  refine (digit_any r b.n _ HR.out.drew x1 H1).mono ?_
  rintro e w1 ⟨rfl, rfl⟩
  refine hK.out _ _ (by repeat (first | (with_reducible exact Below.refl _ _) | (with_reducible refine balloc ?_ _) | (with_reducible refine Below.drew ?_) | (with_reducible refine bdrewN ?_ _) | ((with_reducible refine bset ?_ ?_ _); rotate_left; focus (first | (with_reducible exact Nat.le_refl _) | (simp; done) | (simp; omega) | omega)) | (with_reducible refine bstep (by with_reducible assumption) ?_))) (fun hS1 => ?_)
  clear hK K
  repeat (first | (refine wpGo_pure (v := ?_) rfl rfl (fun w' hS => ?_) ?_; rotate_left; (· skip; go_simp; exact rfl); (try simp only [Act.put, List.setIfInBounds_toArray, List.set_cons_zero, List.set_cons_succ])) | ((refine wpGo_skip rfl rfl ?_); (try simp only [Act.put, List.setIfInBounds_toArray, List.set_cons_zero, List.set_cons_succ])))
  refine wpGo_eff rfl (fun K hK => ?_)
  go_simp
  refine (digit_any r m _ HR.out.drew x0 H0).mono ?_
  rintro e w2 ⟨rfl, rfl⟩
  refine hK.out _ _ (by repeat (first | (with_reducible exact Below.refl _ _) | (with_reducible refine balloc ?_ _) | (with_reducible refine Below.drew ?_) | (with_reducible refine bdrewN ?_ _) | ((with_reducible refine bset ?_ ?_ _); rotate_left; focus (first | (with_reducible exact Nat.le_refl _) | (simp; done) | (simp; omega) | omega)) | (with_reducible refine bstep (by with_reducible assumption) ?_))) (fun hS2 => ?_)
  clear hK K
  repeat (first | (refine wpGo_pure (v := ?_) rfl rfl (fun w' hS => ?_) ?_; rotate_left; (· skip; go_simp; exact rfl); (try simp only [Act.put, List.setIfInBounds_toArray, List.set_cons_zero, List.set_cons_succ])) | ((refine wpGo_skip rfl rfl ?_); (try simp only [Act.put, List.setIfInBounds_toArray, List.set_cons_zero, List.set_cons_succ])))
  refine wpGo_nil ?_
  simp only [List.drop_succ_cons, List.drop_zero]
  clear e1 e2 e3 e4 e5 e6 e7 e8
  go_wp2_with fail
  refine (times_any b d0 _ HB.out.drew (by omega) (by omega)).mono ?_
  rintro e w1 ⟨p0, rfl, po, pl, hb1⟩
  have HP0 : Hid (p0.ok w1 ∧ p0.l = dig (V * d0)) := ⟨po, by rw [pl, HV.out]⟩
  have hB1 : Below w.heap.size w w1 := (by repeat (first | (with_reducible exact Below.refl _ _) | (with_reducible refine balloc ?_ _) | (with_reducible refine Below.drew ?_) | (with_reducible refine bdrewN ?_ _) | ((with_reducible refine bset ?_ ?_ _); rotate_left; focus (first | (with_reducible exact Nat.le_refl _) | (simp; done) | (simp; omega) | omega)) | (with_reducible refine bstep (by with_reducible assumption) ?_)))
  clear po pl
  go_wp2_with fail
  go_loopw [8, 9] (fun x y wr => ∃ (d : Nat) (p : Dg), q ≤ d ∧ d ≤ 4294967295 ∧ x = .int .u64 (d : Int) ∧ y = .slice p.A p.n p.c ∧ Hid (p.ok wr ∧ p.l = dig (V * d)) ∧ Below w.heap.size w wr) (fun x _ _ => (intOf x).toNat)
  case atStart => exact ⟨d0, p0, hd1, hd2, rfl, rfl, HP0, hB1⟩
  case round =>
    obtain ⟨d, p, hqd, hd, rfl, rfl, HP, hbw⟩ := hrel
    have hpn : p.n ≤ b.n + 1 := by
      refine HP.out.1.le HP.out.2 ?_
      rw [Nat.pow_succ]
      exact Nat.mul_lt_mul_of_lt_of_le HVB.out (by omega) (by decide)
    have hpv : valD p.l = V * d := by rw [HP.out.2, val_dig]
    by_cases hlt2 : R < V * d
    · have Hv : Hid (cmpP (valD p.l) (valD r.l) = 1) := by unfold Hid cmpP; rw [hpv, HRv.out, if_neg (Nat.not_lt.2 (Nat.le_of_lt hlt2)), if_pos hlt2]
      have hdq : q + 1 ≤ d := by
        rw [← Hq.out]
        exact (Nat.div_lt_iff_lt_mul k3).2 (by rw [Nat.mul_comm]; exact hlt2)
      have hvd : V ≤ V * d := Nat.le_mul_of_pos_right _ (by omega)
      have HS : Hid (valD b.l ≤ valD p.l) := by unfold Hid; rw [hpv, HV.out]; exact hvd
      have HE : Hid (valD p.l - valD b.l = V * (d - 1)) := by unfold Hid; rw [hpv, HV.out, Nat.mul_sub, Nat.mul_one]
      clear hpv hvd hlt2
      go_wp2_with fail
      refine (cmp_any p r _ HP.out.1 (HR.out.below hbw) (by omega) (by omega) 1 Hv).mono ?_
      rintro e w' ⟨rfl, rfl⟩
      go_wp2_with fail
      refine (sub_any p b _ HP.out.1 (HB.out.below hbw) (by omega) (by omega) HS.out).mono ?_
      rintro e w2 ⟨p2, rfl, po, pl, pf, hb2⟩
      have HP2 : Hid (p2.ok w2 ∧ p2.l = dig (V * (d - 1))) := ⟨po, by rw [pl, HE.out]⟩
      clear po pl
      go_wp2
      go_roundw
      case rel => exact ⟨d - 1, p2, by omega, by omega, by congr 1; omega, rfl, HP2, bstep hb2 hbw⟩
      case measure => first | (simp [intOf]; omega) | (simp [intOf]; done)
    · have hdq : d = q := by
        have h2 : d ≤ q := by rw [← Hq.out, Nat.le_div_iff_mul_le k3, Nat.mul_comm]; omega
        omega
      subst hdq
      obtain ⟨v, Hv⟩ : ∃ v, Hid (cmpP (valD p.l) (valD r.l) = v) := ⟨_, rfl⟩
      have hv : ¬ (0 < v) := by rw [← Hv.out]; unfold cmpP; rw [hpv, HRv.out]; split <;> (try split) <;> omega
      have HS : Hid (valD p.l ≤ valD r.l) := by unfold Hid; rw [hpv, HRv.out]; omega
      have HE : Hid (valD r.l - valD p.l = R % V) := by
        unfold Hid
        rw [hpv, HRv.out, ← Hq.out]
        have := Nat.div_add_mod R V
        omega
      clear hpv hlt2
      go_wp2_with fail
      refine (cmp_any p r _ HP.out.1 (HR.out.below hbw) (by omega) (by omega) v Hv).mono ?_
      rintro e w' ⟨rfl, rfl⟩
      go_wp2_with fail
      refine (sub_any r p _ (HR.out.below hbw) HP.out.1 (by omega) (by omega) HS.out).mono ?_
      rintro e w2 ⟨p2, rfl, po, pl, pf, hb2⟩
      have HP2 : Hid (p2.ok w2 ∧ p2.l = dig (R % V)) := ⟨po, by rw [pl, HE.out]⟩
      clear po pl
      go_wp2
      go_ret2
      exact ⟨p2, rfl, HP2.out.1, HP2.out.2, pf.mono hbw.size, bstep hb2 hbw⟩
end Go.Proofs.Ytlholebpfgjpdaa
