/-
  The walks of grisailleref02.ToInt, grisailleref08.MulDivRound, DivRound.
-/
import Derived.Test.YtlholebpfgjpdaaBig10
import Derived.Test.YtlholebpfgjpdaaBlendP
import Derived.IntWalk
namespace Go.Proofs.Ytlholebpfgjpdaa
open Go.RowKit
set_option linter.unusedSimpArgs false
set_option linter.unusedVariables false

theorem or_zero (x : Int) (h0 : 0 ≤ x) (h1 : x < 4294967296) : bits .or .u64 0 x = x := by
  have h2 : (BitVec.ofInt 64 x).toNat = x.toNat := by
    rw [BitVec.toNat_ofInt, Int.emod_eq_of_lt h0 (by simp; omega)]
  show IntKind.u64.wrap ((BitVec.ofInt 64 0 ||| BitVec.ofInt 64 x).toNat : Int) = x
  rw [BitVec.toNat_or, h2, show (BitVec.ofInt 64 0).toNat = 0 from rfl, Nat.zero_or]
  rw [IntWalk.u64_in _ (by omega)]
  omega
set_option maxHeartbeats 3200000 in
theorem toint_any (a : Dg) (q : Nat) (w : World) (ha : a.ok w) (hl : a.l = dig q) (hq : q < 4294967296) :
    Calls Try.prog 80 #[.agg #[.bool false, .slice a.A a.n a.c]] w fun e w' => e = .returned (.tuple #[.int .i64 (q : Int), .bool true]) ∧ Below w.heap.size w w' := by
  have HA := Lib.hid ha
  have hna : a.n ≤ 1 := ha.le hl (by omega)
  have HV : Hid (valD a.l = q) := by unfold Hid; rw [hl, val_dig]
  clear ha hl
  go_enter Try.func80, Try.ntmps80
  have k0 : Bk (w.alloc (.cells #[.bool false, .slice a.A a.n a.c] 96)) w.heap.size 96 #[.bool false, .slice a.A a.n a.c] := Bk.new _ _ _ rfl
  obtain ⟨kc0, kf0, ka0, kg0, kl0⟩ := k0.rules
  go_wp2_with fail
  refine (new_any a _ (HA.out.below (by repeat (first | (with_reducible exact Below.refl _ _) | (with_reducible refine balloc ?_ _) | (with_reducible refine Below.drew ?_) | (with_reducible refine bdrewN ?_ _) | ((with_reducible refine bset ?_ ?_ _); rotate_left; focus (first | (with_reducible exact Nat.le_refl _) | (simp; done) | (simp; omega) | omega)) | (with_reducible refine bstep (by with_reducible assumption) ?_)))) (by omega)).mono ?_
  rintro e w1 ⟨d, rfl, do1, dl1, df1, hb1⟩
  have HD := Lib.hid do1
  have hdl : d.l = dig q := by rw [dl1, HV.out]
  have HDL := Lib.hid hdl
  have hB1 : Below w.heap.size w w1 := (by repeat (first | (with_reducible exact Below.refl _ _) | (with_reducible refine balloc ?_ _) | (with_reducible refine Below.drew ?_) | (with_reducible refine bdrewN ?_ _) | ((with_reducible refine bset ?_ ?_ _); rotate_left; focus (first | (with_reducible exact Nat.le_refl _) | (simp; done) | (simp; omega) | omega)) | (with_reducible refine bstep (by with_reducible assumption) ?_)))
  have hdn : d.n ≤ 1 := do1.le hdl (by omega)
  clear kc0 kf0 ka0 kg0 dl1 do1 df1
  have HT0 : Hid (valT d.l 0 = 0) := rfl
  have HTN : Hid (valT d.l d.n = q) := by unfold Hid; rw [valT_len (by rw [HD.out.ln]; exact Nat.le_refl _), hdl, val_dig]
  clear hdl
  have kO : Bk (w1.alloc (.cells #[.bool false, .slice d.A d.n d.c] 96)) w1.heap.size 96 #[.bool false, .slice d.A d.n d.c] := Bk.new _ _ _ rfl
  have hB2 : Below w.heap.size w (w1.alloc (.cells #[.bool false, .slice d.A d.n d.c] 96)) := (by repeat (first | (with_reducible exact Below.refl _ _) | (with_reducible refine balloc ?_ _) | (with_reducible refine Below.drew ?_) | (with_reducible refine bdrewN ?_ _) | ((with_reducible refine bset ?_ ?_ _); rotate_left; focus (first | (with_reducible exact Nat.le_refl _) | (simp; done) | (simp; omega) | omega)) | (with_reducible refine bstep (by with_reducible assumption) ?_)))
  have HD2 := Lib.hid (HD.out.below (((Below.refl w1.heap.size w1).alloc (Nat.le_refl _) (.cells #[.bool false, .slice d.A d.n d.c] 96))))
  go_wp2_with fail
  generalize (w1.alloc (.cells #[.bool false, .slice d.A d.n d.c] 96)) = w2 at *
  obtain ⟨kc1, kf1, ka1, kg1, kl1⟩ := kO.rules
  go_loopw [5, 6] (fun u i wr => ∃ (k : Nat), k ≤ d.n ∧ i = .int .i64 (k : Int) ∧ u = .int .u64 ((valT d.l k : Nat) : Int) ∧ Hid (w2 = wr)) (fun _ i _ => d.n - (intOf i).toNat)
  case atStart => exact ⟨0, Nat.zero_le _, rfl, rfl, by first | trivial | exact rfl⟩
  case round =>
    obtain ⟨k, hk, rfl, rfl, hw⟩ := hrel
    obtain rfl := hw.out
    clear hw
    by_cases hlt : k < d.n
    · obtain rfl : k = 0 := by omega
      have hn1 : d.n = 1 := by omega
      have hT1 : valT d.l 1 = d.l.getD 0 0 := by simp [valT]
      obtain ⟨g, o, hA, hg, hc⟩ := rdD HD2.out.rd (show 0 < d.l.length by rw [HD.out.ln]; omega)
      obtain ⟨x, Hx⟩ : ∃ x, Hid (d.l.getD 0 0 = x) := ⟨_, rfl⟩
      have hx : x < 4294967296 := by rw [← Hx.out]; exact okD_get HD.out.dg _
      rw [Hx.out] at hc hT1
      rw [Nat.add_zero] at hc
      have HT1 := Lib.hid hT1
      have ho := or_zero (x : Int) (by omega) (by omega)
      rw [HT0.out]
      rw [hn1, hA] at kc1
      have HA2 := Lib.hid hA
      have HN1 := Lib.hid hn1
      clear hT1 hA hn1
      go_wp2
      go_roundw
      case rel => exact ⟨1, by rw [HN1.out]; exact Nat.le_refl _, rfl, by rw [HT1.out], by first | trivial | exact rfl⟩
      case measure => rw [HN1.out]; simp [intOf]
    · obtain rfl : k = d.n := by omega
      rw [HTN.out]
      have hq2 : (q : Int) < 9223372036854775808 := by omega
      go_wp2
      go_ret2
      exact ⟨rfl, hB2⟩
set_option maxHeartbeats 3200000 in
theorem rmuldiv_any (x y : Nat) (w : World) (hx : x < 4611686018427387904) (hy : y < 4611686018427387904) (hy0 : 1 ≤ y) (q : Nat) (Hq : Hid ((x + x + y) / (y + y) = q)) (hq : q < 4294967296) :
    Calls Try.prog 75 #[.int .i64 (x : Int), .int .i64 1, .int .i64 (y : Int)] w fun e w' => e = .returned (.tuple #[.int .i64 (q : Int), .bool true]) ∧ Below w.heap.size w w' := by
  have HF1 : Hid (∀ w, Calls Try.prog 79 #[.int .i64 1] w (RetI 1 w)) := fun w => fromint_any 1 w (by decide)
  have hy1 : ¬ (y = 0) := by omega
  go_enter Try.func75, Try.ntmps75
  go_wp2_with fail
  refine (fromint_any x _ hx).mono ?_
  rintro e w1 ⟨d1, rfl, o1, l1, f1, hb1⟩
  have HD1 := Lib.hid o1
  have HV1 : Hid (valD d1.l = x) := by unfold Hid; rw [l1, val_dig]
  have hn1 : d1.n ≤ 2 := o1.le l1 (by omega)
  clear o1 l1 f1
  go_wp2_with fail
  refine (HF1.out _).mono ?_
  rintro e w2 ⟨d2, rfl, o2, l2, f2, hb2⟩
  have HD2 := Lib.hid o2
  have HV2 : Hid (valD d2.l = 1) := by unfold Hid; rw [l2, val_dig]
  have hn2 : d2.n ≤ 2 := o2.le l2 (by omega)
  clear o2 l2 f2
  go_wp2_with fail
  refine (imul_any d1 d2 _ (HD1.out.below hb2) HD2.out (by omega) (by omega)).mono ?_
  rintro e w3 ⟨d3, rfl, o3, l3, f3, hb3⟩
  have l3 : d3.l = dig x := by rw [l3, HV1.out, HV2.out, Nat.mul_one]
  have HD3 := Lib.hid o3
  have HV3 : Hid (valD d3.l = x) := by unfold Hid; rw [l3, val_dig]
  have hn3 : d3.n ≤ 2 := o3.le l3 (by omega)
  clear o3 l3 f3
  go_wp2_with fail
  refine (fromint_any y _ hy).mono ?_
  rintro e w4 ⟨d4, rfl, o4, l4, f4, hb4⟩
  have HD4 := Lib.hid o4
  have HV4 : Hid (valD d4.l = y) := by unfold Hid; rw [l4, val_dig]
  have hn4 : d4.n ≤ 2 := o4.le l4 (by omega)
  clear o4 l4 f4
  go_wp2_with fail
  refine (idivround_any d3 d4 _ (HD3.out.below hb4) HD4.out (by omega) (by omega) (by rw [HV4.out]; omega)).mono ?_
  rintro e w5 ⟨d5, rfl, o5, l5, f5, hb5⟩
  have l5 : d5.l = dig q := by rw [l5, HV3.out, HV4.out, Hq.out]
  have HD5 := Lib.hid o5
  have HL5 := Lib.hid l5
  clear o5 l5 f5
  have HB5 := Lib.hid (bstep hb5 (bstep hb4 (bstep hb3 (bstep hb2 hb1))))
  have kO : Bk (w5.alloc (.cells #[.bool false, .slice d5.A d5.n d5.c] 96)) w5.heap.size 96 #[.bool false, .slice d5.A d5.n d5.c] := Bk.new _ _ _ rfl
  obtain ⟨kc1, kf1, ka1, kg1, kl1⟩ := kO.rules
  have hbo : Below w5.heap.size w5 (w5.alloc (.cells #[.bool false, .slice d5.A d5.n d5.c] 96)) := (Below.refl w5.heap.size w5).alloc (Nat.le_refl _) _
  go_wp2_with fail
  refine (toint_any d5 q _ (HD5.out.below hbo) HL5.out hq).mono ?_
  rintro e w6 ⟨rfl, hb6⟩
  go_wp2
  go_ret2
  exact ⟨rfl, bstep hb6 (bstep hbo HB5.out)⟩
set_option maxHeartbeats 1600000 in
theorem rdivround_nat (x y : Nat) (w : World) (hx : x < 4611686018427387904) (hy : y < 4611686018427387904) (hy0 : 1 ≤ y) (q : Nat) (Hq : Hid ((x + x + y) / (y + y) = q)) (hq : q < 4294967296) :
    Calls Try.prog 69 #[.int .i64 (x : Int), .int .i64 (y : Int)] w fun e w' => e = .returned (.int .i64 (q : Int)) ∧ Below w.heap.size w w' := by
  go_enter Try.func69, Try.ntmps69
  go_wp2_with fail
  refine (rmuldiv_any x y _ hx hy hy0 q Hq hq).mono ?_
  rintro e w1 ⟨rfl, hb1⟩
  go_wp2
  go_ret
  exact ⟨rfl, hb1⟩
theorem rdivround_q (x y : Int) (w : World) (hx0 : 0 ≤ x) (hx : x < 4611686018427387904) (hy : y < 4611686018427387904) (hy0 : 1 ≤ y) (q : Int) (Hq : Hid (rndP x y = q)) (hq : q < 4294967296) :
    Calls Try.prog 69 #[.int .i64 x, .int .i64 y] w fun e w' => e = .returned (.int .i64 q) ∧ Below w.heap.size w w' := by
  obtain ⟨a, rfl⟩ : ∃ a : Nat, x = a := ⟨x.toNat, by omega⟩
  obtain ⟨b, rfl⟩ : ∃ b : Nat, y = b := ⟨y.toNat, by omega⟩
  have h : ((((a + a + b) / (b + b) : Nat)) : Int) = q := by
    rw [← Hq.out]; unfold rndP
    rw [Int.natCast_ediv]
    congr 1 <;> omega
  rw [← h] at hq ⊢
  exact rdivround_nat a b w (by omega) (by omega) (by omega) _ rfl (by omega)
end Go.Proofs.Ytlholebpfgjpdaa
