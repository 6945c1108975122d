/-
  The walk of grisailleref01.DivMod.
-/
import Derived.Test.YtlholebpfgjpdaaBig7
import Derived.Test.YtlholebpfgjpdaaBig6
import Derived.IntWalk
namespace Go.Proofs.Ytlholebpfgjpdaa
open Go.RowKit
set_option linter.unusedSimpArgs false
set_option linter.unusedVariables false

/-- What DivMod hands back: the quotient's digits, whatever rest, no error. -/
def RetQ (n : Nat) (w : World) (e : Ending) (w' : World) : Prop := ∃ d r : Dg, e = .returned (.tuple #[.slice d.A d.n d.c, .slice r.A r.n r.c, .int .i64 0]) ∧ d.ok w' ∧ d.l = dig n ∧ Below w.heap.size w w'
theorem shiftneg_any (a : Dg) (s : Nat) (w : World) (ha : a.ok w) (hna : a.n ≤ 1000) (hs : s < 32) :
    Calls Try.prog 89 #[.slice a.A a.n a.c, .int .i64 (-(s : Int))] w (RetA w) := by
  rcases Nat.eq_zero_or_pos s with h | h
  · subst h
    have h2 := shiftup_any a 0 w ha hna (by decide)
    refine h2.mono ?_
    rintro e w' ⟨d, he, hd, _, hb⟩
    exact ⟨d, he, hd, hb⟩
  · exact shiftdown_any a s w ha hna hs h
set_option maxHeartbeats 12800000 in
theorem divmod_any (a b : Dg) (w : World) (ha : a.ok w) (hb : b.ok w) (hna : a.n ≤ 500) (hnb : b.n ≤ 500) (hb0 : valD b.l ≠ 0) :
    Calls Try.prog 83 #[.slice a.A a.n a.c, .slice b.A b.n b.c] w (RetQ (valD a.l / valD b.l) w) := by
  have HA := Lib.hid ha
  have HB := Lib.hid hb
  obtain ⟨X, HX⟩ : ∃ X, Hid (valD a.l = X) := ⟨_, rfl⟩
  obtain ⟨Z, HZ⟩ : ∃ X, Hid (valD b.l = X) := ⟨_, rfl⟩
  have hXb : X < 4294967296 ^ a.n := by rw [← HX.out, ← ha.ln]; exact val_lt ha.dg
  have hZb : Z < 4294967296 ^ b.n := by rw [← HZ.out, ← hb.ln]; exact val_lt hb.dg
  rw [HZ.out] at hb0
  obtain ⟨htn, htt⟩ := dig_top hb0
  obtain ⟨m, Hm⟩ : ∃ m, Hid ((dig Z).length = m + 1) := ⟨(dig Z).length - 1, by have := List.length_pos_iff.2 htn; unfold Hid; omega⟩
  have hm5 : m + 1 ≤ 500 := by have h := dig_len_le _ _ hZb; rw [Hm.out] at h; omega
  have HXB := Lib.hid hXb
  have HZB := Lib.hid hZb
  have HB0 := Lib.hid hb0
  rw [HX.out, HZ.out]
  clear ha hb hXb hZb hb0 htn htt
  go_enter Try.func83, Try.ntmps83
  go_wp2_with fail
  refine (norm_any b _ HB.out (by omega)).mono ?_
  rintro e w1 ⟨t, rfl, to, tl, hb1⟩
  have htnn : t.n = m + 1 := by rw [← to.ln, tl, HZ.out, Hm.out]
  have htv : Hid (valD t.l = Z) := by unfold Hid; rw [tl, val_dig, HZ.out]
  have HT := Lib.hid to
  have hn1 : ¬ (t.n = 0) := by omega
  have HTN := Lib.hid htnn
  clear htnn
  have htn5 : t.n ≤ 500 := by rw [HTN.out]; exact hm5
  clear to tl
  go_wp2_with fail
  refine (bitlen_any t _ HT.out (by omega) m (by unfold Hid; rw [htv.out]; exact Hm.out)).mono ?_
  rintro e w2 ⟨j, hj1, hj2, rfl, hb2⟩
  obtain ⟨s, hs⟩ : ∃ s, 32 - j = s := ⟨_, rfl⟩
  have hs1 : s < 32 := by omega
  have hby : 32 * (t.n : Int) - (32 * (m : Int) + (j : Int)) = (s : Int) := by have := HTN.out; omega
  have hB2 : Below w.heap.size w w2 := bstep hb2 hb1
  clear hs hn1 hj1 hj2
  have HAW := Lib.hid (HA.out.below hB2)
  have HTW := Lib.hid (HT.out.below hb2)
  go_wp2_with fail
  refine (shiftup_any a s _ HAW.out (by omega) hs1).mono ?_
  rintro e w3 ⟨u, rfl, uo, ul, hb3⟩
  have HUL := Lib.hid ul
  have HU3 := Lib.hid uo
  clear ul uo
  go_wp2_with fail
  refine (shiftup_any t s _ (HTW.out.below hb3) (by omega) hs1).mono ?_
  rintro e w4 ⟨v, rfl, vo, vl, hb4⟩
  have HVL := Lib.hid vl
  have HV4 := Lib.hid vo
  have HU4 := Lib.hid (HU3.out.below hb4)
  have hB4 : Below w.heap.size w w4 := bstep hb4 (bstep hb3 hB2)
  clear vl vo
  have h2s : 2 ^ s < 4294967296 := Nat.pow_lt_pow_right (by decide) (show s < 32 from hs1)
  have h2p : 0 < 2 ^ s := Nat.pow_pos (by decide)
  obtain ⟨p2, Hp2⟩ : ∃ p, 2 ^ s = p := ⟨_, rfl⟩
  have HUV : Hid (u.l = dig (X * p2)) := by unfold Hid; rw [HUL.out, HX.out, Hp2]
  have HVV : Hid (v.l = dig (Z * p2)) := by unfold Hid; rw [HVL.out, htv.out, Hp2]
  rw [Hp2] at h2s h2p
  clear HUL HVL Hp2
  have hun : u.n ≤ 501 := by
    have h := HU4.out.le HUV.out (k := a.n + 1) (by rw [Nat.pow_succ]; exact Nat.mul_lt_mul_of_lt_of_le HXB.out (by omega) (by decide))
    omega
  have hvn : v.n ≤ 501 := by
    have h := HV4.out.le HVV.out (k := b.n + 1) (by rw [Nat.pow_succ]; exact Nat.mul_lt_mul_of_lt_of_le HZB.out (by omega) (by decide))
    omega
  obtain ⟨V, HVd⟩ : ∃ V, Hid (Z * p2 = V) := ⟨_, rfl⟩
  have hV0 : 0 < V := by rw [← HVd.out]; exact Nat.mul_pos (Nat.pos_of_ne_zero HB0.out) h2p
  have HVv : Hid (valD v.l = V) := by unfold Hid; rw [HVV.out, val_dig, HVd.out]
  have HVt : Hid (v.l ≠ [] ∧ v.l.getD (v.l.length - 1) 0 ≠ 0) := by unfold Hid; rw [HVV.out, HVd.out]; exact dig_top (by omega)
  have HQV : Hid (valD u.l / V = X / Z) := by
    unfold Hid; rw [HUV.out, val_dig, ← HVd.out]; exact Nat.mul_div_mul_right _ _ h2p
  have HULN := Lib.hid HU4.out.ln
  clear hby
  obtain ⟨i0, hi, hz0, hz1, hz2⟩ := info_parts Try.infoU32
  go_wp2_with (at_make; refine wpList_make_full _ rfl _ _ 94 rfl w4.heap.size 108 i0 (.int .u32 0) 1 Try.underlying94 hi hz0 hz1 _ _ _ _ u.n rfl rfl (by first | rfl | omega) (by first | rfl | omega) (by rw [hz2]; omega) (by unfold maxLen; omega) (Nat.le_refl _) ?_; intro w5 hown5 hgrow5)
  have hB5 := below_grown (OwnL.nil (enc := encD) (e := 108) (size := 1) w4 w4.heap.size) hgrow5 (Below.refl _ _) (Nat.le_refl _)
  have ho5 : OwnL encD 108 1 w5 w4.heap.size (.slice (some ⟨w4.heap.size, 0, none⟩) u.n u.n) (List.replicate u.n 0) := by
    unfold OwnL; rw [List.length_replicate, ← made_zero]; exact hown5
  have ho6 := ho5.alloc (.cells #[] 108)
  have hB6 : Below w4.heap.size w4 (w5.alloc (.cells #[] 108)) := balloc hB5 _
  have HR0 : Hid ((Dg.mk (some ⟨w5.heap.size, 0, none⟩) 0 0 []).ok (w5.alloc (.cells #[] 108)) ∧ ([] : List Nat) = dig (valD (u.l.drop u.n) % V)) :=
    ⟨⟨RdL.nil, rfl, okD_nil⟩, by rw [List.drop_of_length_le (by rw [HULN.out]; exact Nat.le_refl _)]; show [] = dig (valD [] % V); rw [show valD [] = 0 from rfl, Nat.zero_mod, dig_zero]⟩
  have HQ0 : Hid ((List.replicate u.n 0).length = u.n ∧ okD (List.replicate u.n 0) ∧ valD ((List.replicate u.n 0).drop u.n) = valD (u.l.drop u.n) / V) :=
    ⟨List.length_replicate, zeros_ok _, by rw [List.drop_of_length_le (by rw [List.length_replicate]; exact Nat.le_refl _), List.drop_of_length_le (by rw [HULN.out]; exact Nat.le_refl _)]; show 0 = 0 / V; rw [Nat.zero_div]⟩
  clear hown5 hgrow5 ho5 hB5 hi hz0 hz1 hz2
  go_loopw [12, 13] (fun x i wr => ∃ (k : Nat) (r : Dg) (Q : List Nat), k ≤ u.n ∧ i = .int .i64 ((k : Int) - 1) ∧ x = .slice r.A r.n r.c ∧ Hid (r.ok wr ∧ r.l = dig (valD (u.l.drop k) % V)) ∧ OwnL encD 108 1 wr w4.heap.size (.slice (some ⟨w4.heap.size, 0, none⟩) u.n u.n) Q ∧ Hid (Q.length = u.n ∧ okD Q ∧ valD (Q.drop k) = valD (u.l.drop k) / V) ∧ Below w4.heap.size w4 wr) (fun _ i _ => (intOf i + 1).toNat)
  case atStart => exact ⟨u.n, _, _, Nat.le_refl _, rfl, rfl, HR0, ho6, HQ0, hB6⟩
  case round =>
    obtain ⟨k, r, Q, hk, rfl, rfl, HR, hQ, HQ, hbw⟩ := hrel
    obtain ⟨wo, hwo⟩ : ∃ x, x = wr := ⟨wr, rfl⟩
    subst hwo
    rcases Nat.eq_zero_or_pos k with hk0 | hk0
    · subst hk0
      obtain ⟨A9, c9, hv9, hr9, _⟩ := hQ.form encD_len
      have hA9 : A9 = some ⟨w4.heap.size, 0, none⟩ := (congrArg (fun v => match v with | .slice A _ _ => A | _ => none) hv9).symm
      subst hA9
      have HDO : Hid (Dg.ok ⟨some ⟨w4.heap.size, 0, none⟩, u.n, u.n, Q⟩ wo) := ⟨hr9, HQ.out.1, HQ.out.2.1⟩
      have HQE : Hid (valD Q = X / Z) := by have h := HQ.out.2.2; rw [List.drop_zero, List.drop_zero] at h; unfold Hid; rw [h, HQV.out]
      have hrn : r.n ≤ 502 := by
        have h := HR.out.1.le HR.out.2 (k := v.n) (Nat.lt_trans (Nat.mod_lt _ hV0) (by rw [← HVv.out, ← HV4.out.ln]; exact val_lt HV4.out.dg))
        omega
      clear hv9 hr9 hQ
      go_wp2_with fail
      refine (norm_any ⟨some ⟨w4.heap.size, 0, none⟩, u.n, u.n, Q⟩ _ HDO.out (by show u.n ≤ 4000; omega)).mono ?_
      rintro e w6 ⟨d6, rfl, do6, dl6, hb6⟩
      have HO6 := Lib.hid do6
      have HL6 := Lib.hid dl6
      clear do6 dl6
      go_wp2_with fail
      refine (shiftneg_any r s _ (HR.out.1.below hb6) (by omega) hs1).mono ?_
      rintro e w7 ⟨d7, rfl, do7, hb7⟩
      have HO7 := Lib.hid do7
      clear do7
      go_wp2
      refine bodyPost_ret (v := .tuple #[.slice d6.A d6.n d6.c, .slice d7.A d7.n d7.c, .int .i64 0]) ?_ rfl ⟨d6, d7, rfl, HO6.out.below hb7, by rw [HL6.out, HQE.out], bstep hb7 (bstep hb6 (bstep hbw hB4))⟩
      simp [results, Try.results83, go_sem]
    · obtain ⟨i, rfl⟩ : ∃ i, k = i + 1 := ⟨k - 1, by omega⟩
      have e1 : ((i + 1 : Nat) : Int) - 1 = (i : Int) := by omega
      rw [e1]
      clear e1
      have hiu : i < u.l.length := by rw [HULN.out]; omega
      have hi5 : i < 501 := by omega
      obtain ⟨x, Hx⟩ : ∃ x, Hid (u.l.getD i 0 = x) := ⟨_, rfl⟩
      have hx : x < 4294967296 := by rw [← Hx.out]; exact okD_get HU4.out.dg _
      obtain ⟨g, o, hA, hg, hc⟩ := rdD (HU4.out.below hbw).rd hiu
      rw [Hx.out] at hc
      have HAA := Lib.hid hA
      have hrn : r.n ≤ 502 := by
        have h := HR.out.1.le HR.out.2 (k := v.n) (Nat.lt_trans (Nat.mod_lt _ hV0) (by rw [← HVv.out, ← HV4.out.ln]; exact val_lt HV4.out.dg))
        omega
      obtain ⟨rv, Hrv⟩ : ∃ y, Hid (valD (u.l.drop (i + 1)) % V = y) := ⟨_, rfl⟩
      have hrvV : rv < V := by rw [← Hrv.out]; exact Nat.mod_lt _ hV0
      have HRv : Hid (valD r.l = rv) := by unfold Hid; rw [HR.out.2, val_dig, Hrv.out]
      have i0' : (0 : Int) ≤ (i : Int) := by omega
      have i1' : (i : Int) < (u.n : Int) := by omega
      have kO : Bk (wo.alloc (.cells #[.int .u32 (x : Int)] 108)) wo.heap.size 108 #[.int .u32 (x : Int)] := Bk.new _ _ _ rfl
      have hN0 : OwnL encD 108 1 (wo.alloc (.cells #[.int .u32 (x : Int)] 108)) wo.heap.size (.slice (some ⟨wo.heap.size, 0, none⟩) 1 1) (x :: r.l.take 0) := OwnL.lit (l := [x]) encD_len kO (Nat.le_refl _) (by simp [maxLen]) rfl
      rw [HAA.out]
      clear hA
      go_wp2_with fail
      go_loopw [14, 15] (fun y q wr => ∃ (j : Nat), j ≤ r.n ∧ q = .int .i64 (j : Int) ∧ OwnL encD 108 1 wr wo.heap.size y (x :: r.l.take j) ∧ Below wo.heap.size wo wr) (fun _ q _ => r.n - (intOf q).toNat)
      case atStart => exact ⟨0, Nat.zero_le _, rfl, hN0, (by repeat (first | (with_reducible exact Below.refl _ _) | (with_reducible refine balloc ?_ _) | (with_reducible refine Below.drew ?_) | (with_reducible refine bdrewN ?_ _) | ((with_reducible refine bset ?_ ?_ _); rotate_left; focus (first | (with_reducible exact Nat.le_refl _) | (simp; done) | (simp; omega) | omega)) | (with_reducible refine bstep (by with_reducible assumption) ?_)))⟩
      case round =>
        obtain ⟨j, hj, rfl, hN, hb2w⟩ := hrel
        by_cases hlt : j < r.n
        · have hjl : j < r.l.length := by rw [HR.out.1.ln]; exact hlt
          obtain ⟨y, Hy⟩ : ∃ x, Hid (r.l.getD j 0 = x) := ⟨_, rfl⟩
          obtain ⟨g2, o2, hA2, hg2, hc2⟩ := rdD (HR.out.1.below hb2w).rd hjl
          rw [Hy.out] at hc2
          have HA2 := Lib.hid hA2
          have j0 : (0 : Int) ≤ (j : Int) := by omega
          have j1 : (j : Int) < (r.n : Int) := by omega
          have hsz := hb2w.size
          have hlen : (x :: r.l.take j).length ≤ 4294967296 := by rw [List.length_cons, List.length_take]; omega
          have HT2 : Hid ((x :: r.l.take j) ++ [y] = x :: r.l.take (j + 1)) := by
            unfold Hid
            rw [List.cons_append, List.take_succ_eq_append_getElem hjl, ← Hy.out, List.getD_eq_getElem?_getD, List.getElem?_eq_getElem hjl]; rfl
          rw [HA2.out]
          clear hA2
          go_wp2_with (at_builtin; refine wpList_append_one encD_len encD_one 94 Try.infoU32 rfl (by decide) (by decide) Try.underlying94 rfl _ _ rfl wo.heap.size _ _ rfl (hN.alloc _) wr.heap.size (y) rfl (Bk.new _ _ _ rfl) (by first | rfl | (simp [encD]; done) | (simp [encD]; omega)) hlen (by simp at hsz ⊢; omega) ?_; intro v8 w8 ho8 hg8 hv8)
          rw [HT2.out] at ho8
          have hB8 := below_grown (hN.alloc _) hg8 (balloc hb2w _) (by first | exact Nat.le_refl _ | omega)
          clear hN hg8 HT2
          go_wp2
          go_roundw
          case rel => exact ⟨j + 1, by omega, by go_num, ho8, hB8⟩
          case measure => first | (simp [intOf]; done) | (simp [intOf]; omega)
        · have hjr : j = r.n := by omega
          have HE : Hid (x :: r.l.take j = x :: r.l) := by unfold Hid; rw [List.take_of_length_le (by rw [HR.out.1.ln]; omega)]
          rw [HE.out] at hN
          obtain ⟨nx, hnv, hno, hnl⟩ := dg_of_own hN (fun d hd => by
            rcases List.mem_cons.1 hd with rfl | hd
            · exact hx
            · exact HR.out.1.dg d hd)
          have HNO := Lib.hid hno
          have hnn : nx.n ≤ 600 := by rw [← hno.ln, hnl, List.length_cons, HR.out.1.ln]; omega
          have HNV : Hid (valD nx.l = x + 4294967296 * rv) := by unfold Hid; rw [hnl, valD, HRv.out]
          have hQ2 := hQ.below hb2w
          have HNSZ : w4.heap.size < wr.heap.size := by
            have h1 := hb2w.size
            obtain ⟨g', _, _, hv', _, kg, _⟩ := hQ.block (by intro h; have h2 := HQ.out.1; rw [h] at h2; simp at h2; omega)
            have h3 := congrArg Value.ownBlock hv'
            have h4 : w4.heap.size = g' := by simpa [Value.ownBlock] using h3
            have h5 := kg.lt
            omega
          have hB9 := bstep hb2w hbw
          have HVW := Lib.hid (HV4.out.below hB9)
          clear hno hnl hN HE hjr
          subst hnv
          go_wp2_with fail
          refine (norm_any nx _ HNO.out (by omega)).mono ?_
          rintro e w6 ⟨d6, rfl, do6, dl6, hb6⟩
          have hd6 : valD d6.l = x + 4294967296 * rv := by rw [dl6, val_dig, HNV.out]
          have hd6n : d6.n ≤ 1000 := by
            have h := dig_val_len HNO.out.dg
            rw [← dl6, do6.ln, HNO.out.ln] at h
            omega
          have HD6 := Lib.hid do6
          have HDV := Lib.hid hd6
          have HLT : Hid (valD d6.l < 4294967296 * valD v.l) := by
            unfold Hid; rw [hd6, HVv.out]
            have h9 : 4294967296 * rv + 4294967296 ≤ 4294967296 * V := by omega
            omega
          clear do6 dl6 hd6
          go_wp2_with fail
          refine (often_any d6 v _ HD6.out (HVW.out.below hb6) hd6n (by omega) HVt.out.1 HVt.out.2 HLT.out).mono ?_
          rintro e w7 ⟨d7, rfl, do7, dl7, df7, hb7⟩
          obtain ⟨qd, Hqd⟩ : ∃ q, Hid (valD d6.l / valD v.l = q) := ⟨_, rfl⟩
          have hqd : qd < 4294967296 := by
            rw [← Hqd.out]
            exact (Nat.div_lt_iff_lt_mul (by rw [HVv.out]; exact hV0)).2 HLT.out
          rw [Hqd.out]
          have HD7 := Lib.hid do7
          have HL7 := Lib.hid dl7
          have hQ3 := (hQ2.below hb6).below hb7
          have hB7 := bstep hb7 (bstep hb6 hB9)
          obtain ⟨gd1, gd2⟩ := div_step (V := V) (r := rv) (d := x) hV0 hrvV (valD (u.l.drop (i + 1)))
          have hdv : valD (u.l.drop i) = valD (u.l.drop (i + 1)) * 4294967296 + x := by rw [drop_val hiu, Hx.out, Nat.mul_comm]; omega
          rw [Hrv.out, ← hdv, show rv * 4294967296 + x = x + 4294967296 * rv by omega, ← HDV.out, ← HVv.out, Hqd.out] at gd1
          rw [Hrv.out, ← hdv, show rv * 4294967296 + x = x + 4294967296 * rv by omega, ← HDV.out, ← HVv.out] at gd2
          have hiQ : i < Q.length := by rw [HQ.out.1]; omega
          have HQ2 : Hid ((Q.set i qd).length = u.n ∧ okD (Q.set i qd) ∧ valD ((Q.set i qd).drop i) = valD (u.l.drop i) / V) := by
            refine ⟨by rw [List.length_set]; exact HQ.out.1, okD_set HQ.out.2.1 _ _ hqd, ?_⟩
            rw [set_drop hiQ, valD, HQ.out.2.2, ← HVv.out, gd1]
            omega
          have HR2 : Hid (d7.l = dig (valD (u.l.drop i) % V)) := by unfold Hid; rw [HL7.out, ← HVv.out, gd2]
          obtain ⟨z, Hz⟩ : ∃ x, Hid (Q.getD i 0 = x) := ⟨_, rfl⟩
          obtain ⟨g', cap', cur', hv', _, kg, _⟩ := hQ3.block (by intro h; rw [h] at hiQ; simp at hiQ)
          obtain rfl : w4.heap.size = g' := by have h3 := congrArg Value.ownBlock hv'; simpa [Value.ownBlock] using h3
          clear hv' gd1 gd2 hdv
          have hcz := World.ownsRow.cellAt (g := w4.heap.size) (show OwnL encD 108 1 w7 w4.heap.size (.slice (some ⟨w4.heap.size, 0, none⟩) Q.length u.n) Q by rw [HQ.out.1]; exact hQ3) (i * 1) (by omega)
          have hfz := flat_at encD_len Q i hiQ 0 (.int .u32 (z : Int)) (by rw [← Hz.out, List.getD_eq_getElem?_getD, List.getElem?_eq_getElem hiQ]; rfl)
          rw [Nat.add_zero] at hfz
          rw [hfz, Nat.mul_one] at hcz
          have hfr := kg.rules.2.1 i
          have hgl := kg.lt
          have f1 : (qd : Int) % 4294967296 = (qd : Int) := by omega
          have hm2 := OwnL.storeAt encD_len hQ3 hiQ 0 (.int .u32 (qd : Int)) qd (by decide) rfl HQ.out.1.symm
          rw [Nat.mul_one, Nat.add_zero] at hm2
          have hB3 := bset hB7 (p := ⟨w4.heap.size, i, none⟩) (Nat.le_refl _) (.int .u32 (qd : Int))
          have HM2 := Lib.hid hm2
          have HD7S : Hid (Dg.ok d7 (w7.setCell ⟨w4.heap.size, i, none⟩ (.int .u32 (qd : Int)))) := ⟨HD7.out.rd.far (fun g0 o0 e0 => by have h1 := df7 g0 o0 e0; have h2 := hb6.size; have h3 := HNSZ; show g0 ≠ w4.heap.size; omega) _, HD7.out.ln, HD7.out.dg⟩
          clear hfz kg hm2 hQ3 hQ2
          go_wp2
          go_roundw
          case rel => exact ⟨i, d7, _, by omega, by go_num, rfl, ⟨HD7S.out, HR2.out⟩, HM2.out, HQ2, hB3⟩
          case measure => first | (simp [intOf]; done) | (simp [intOf]; omega)
end Go.Proofs.Ytlholebpfgjpdaa
