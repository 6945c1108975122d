/-
  The walk of grisailleref01.Mul.
-/
import Derived.Test.YtlholebpfgjpdaaBig4
import Derived.Test.YtlholebpfgjpdaaFrame
import Derived.IntWalk
namespace Go.Proofs.Ytlholebpfgjpdaa
open Go.RowKit
set_option linter.unusedSimpArgs false
set_option linter.unusedVariables false

/-- Zeros that 'make' lays are an owned list. -/
theorem made_zero (n : Nat) : (madeCells (Value.int .u32 0).cells (n * 1)).toList = (List.replicate n 0).flatMap encD := by
  rw [Nat.mul_one]
  have h1 : ∀ m, (List.replicate m 0).flatMap encD = List.replicate m (Value.int .u32 0) := fun m => by
    induction m with
    | zero => rfl
    | succ m ih => rw [List.replicate_succ, List.flatMap_cons, ih, List.replicate_succ]; rfl
  rw [h1]
  apply List.ext_getElem?
  intro i
  rw [Array.getElem?_toList]
  simp [madeCells, List.getElem?_replicate, Value.cells, Nat.mod_one]
  split <;> simp_all
set_option maxHeartbeats 6400000 in
theorem mul_any (a b : Dg) (w : World) (ha : a.ok w) (hb : b.ok w) (hna : a.n ≤ 1000) (hnb : b.n ≤ 1000) :
    Calls Try.prog 86 #[.slice a.A a.n a.c, .slice b.A b.n b.c] w (RetD (valD a.l * valD b.l) w) := by
  have HA := Lib.hid ha
  have HB := Lib.hid hb
  have HLA := Lib.hid ha.ln
  have HLB := Lib.hid hb.ln
  clear ha hb
  obtain ⟨i0, hi, hz0, hz1, hz2⟩ := info_parts Try.infoU32
  have HSP := Lib.hid (mulS_spec (o := List.replicate (a.n + b.n + 1) 0) HA.out.dg HB.out.dg (zeros_ok _) (by rw [List.length_replicate, HLA.out, HLB.out]; omega) (zeros_get _) (zeros_val _))
  go_enter Try.func86, Try.ntmps86
  go_wp2_with (at_make; refine wpList_make_full _ rfl _ _ 94 rfl w.heap.size 108 i0 (.int .u32 0) 1 Try.underlying94 hi hz0 hz1 _ _ _ _ (a.n + b.n + 1) rfl rfl (by first | rfl | omega) (by first | rfl | omega) (by rw [hz2]; omega) (by unfold maxLen; omega) (Nat.le_refl _) ?_; intro w0 hown0 hgrow0)
  have hB0 := below_grown (OwnL.nil (enc := encD) (e := 108) (size := 1) w w.heap.size) hgrow0 (Below.refl _ _) (Nat.le_refl _)
  have ho0 : OwnL encD 108 1 w0 w.heap.size (.slice (some ⟨w.heap.size, 0, none⟩) (a.n + b.n + 1) (a.n + b.n + 1)) (List.replicate (a.n + b.n + 1) 0) := by
    unfold OwnL; rw [List.length_replicate, ← made_zero]; exact hown0
  clear hown0 hgrow0
  go_loopw [6] (fun i wr => ∃ (k : Nat) (L : List Nat), k ≤ a.n ∧ i = .int .i64 k ∧ OwnL encD 108 1 wr w.heap.size (.slice (some ⟨w.heap.size, 0, none⟩) (a.n + b.n + 1) (a.n + b.n + 1)) L ∧ Hid (L = mulS a.l b.l (List.replicate (a.n + b.n + 1) 0) k) ∧ Below w.heap.size w wr) (fun i _ => a.n - (intOf i).toNat)
  case atStart => exact ⟨0, _, Nat.zero_le _, rfl, ho0, rfl, hB0⟩
  case round =>
    obtain ⟨k, L, hk, rfl, hu, HL, hbw⟩ := hrel
    have hkl : k ≤ a.l.length := by rw [HLA.out]; exact hk
    obtain ⟨s1, s2, s3, s4⟩ := HSP.out k hkl
    rw [← HL.out] at s1 s2 s3 s4
    rw [List.length_replicate] at s1
    have HS1 := Lib.hid s1
    have HS2 := Lib.hid s2
    have HS4 := Lib.hid s4
    clear s1 s2 s3 s4
    by_cases hlt : k < a.n
    · obtain ⟨x, Hx⟩ : ∃ x, Hid (a.l.getD k 0 = x) := ⟨_, rfl⟩
      have hx : x < 4294967296 := by rw [← Hx.out]; exact okD_get HA.out.dg _
      have HSI := Lib.hid (mulI_spec (x := x) (i := k) hx HB.out.dg HS2.out (by rw [HS1.out, HLB.out]; omega))
      go_wp2_with fail
      go_loopw [7, 8] (fun c i wr => ∃ (j : Nat) (M : List Nat), j ≤ b.n ∧ i = .int .i64 j ∧ c = .int .u64 ((mulI x b.l k L j).2 : Nat) ∧ OwnL encD 108 1 wr w.heap.size (.slice (some ⟨w.heap.size, 0, none⟩) (a.n + b.n + 1) (a.n + b.n + 1)) M ∧ Hid (M = (mulI x b.l k L j).1) ∧ Below w.heap.size w wr) (fun _ i _ => b.n - (intOf i).toNat)
      case atStart => exact ⟨0, L, Nat.zero_le _, rfl, rfl, hu, rfl, hbw⟩
      case round =>
        obtain ⟨j, M, hj, rfl, rfl, hm, HM, hbw2⟩ := hrel
        obtain ⟨t1, t2, t3, _, _⟩ := HSI.out j (by rw [HLB.out]; exact hj)
        rw [← HM.out] at t1 t2
        rw [HS1.out] at t1
        by_cases hlt2 : j < b.n
        · obtain ⟨y, Hy⟩ : ∃ x, Hid (b.l.getD j 0 = x) := ⟨_, rfl⟩
          obtain ⟨z, Hz⟩ : ∃ x, Hid (M.getD (k + j) 0 = x) := ⟨_, rfl⟩
          have hy : y < 4294967296 := by rw [← Hy.out]; exact okD_get HB.out.dg _
          have hz : z < 4294967296 := by rw [← Hz.out]; exact okD_get t2 _
          have HC : Hid (mulI x b.l k L (j + 1) = (M.set (k + j) ((x * y + z + (mulI x b.l k L j).2) % 4294967296), (x * y + z + (mulI x b.l k L j).2) / 4294967296)) := by
            unfold Hid
            rw [← Hy.out, ← Hz.out, HM.out]; rfl
          obtain ⟨c0, hc0⟩ : ∃ c, (mulI x b.l k L j).2 = c := ⟨_, rfl⟩
          rw [hc0] at HC t3 ⊢
          clear hc0
          have hmm := (digit_mul2 hx hy t3 hz).1
          obtain ⟨m1, h1⟩ : ∃ m, x * y = m := ⟨_, rfl⟩
          rw [h1] at HC hmm
          obtain ⟨m3, h3⟩ : ∃ m, m1 + z + c0 = m := ⟨_, rfl⟩
          rw [h3] at HC hmm
          have e1 : IntKind.u64.wrap ((x : Int) * (y : Int)) = (m1 : Int) := by rw [← Int.natCast_mul, h1]; exact IntWalk.u64_in _ (by omega)
          obtain ⟨m2, h2⟩ : ∃ m, m1 + z = m := ⟨_, rfl⟩
          have e2 : IntKind.u64.wrap ((m1 : Int) + (z : Int)) = (m2 : Int) := by rw [← Int.natCast_add, h2]; exact IntWalk.u64_in _ (by omega)
          have e3 : IntKind.u64.wrap ((m2 : Int) + (c0 : Int)) = (m3 : Int) := by rw [← Int.natCast_add, ← h2, h3]; exact IntWalk.u64_in _ (by omega)
          have ex : IntKind.u64.wrap (x : Int) = (x : Int) := IntWalk.u64_in _ (by omega)
          have ey : IntKind.u64.wrap (y : Int) = (y : Int) := IntWalk.u64_in _ (by omega)
          have ez : IntKind.u64.wrap (z : Int) = (z : Int) := IntWalk.u64_in _ (by omega)
          obtain ⟨P, hP⟩ : ∃ P, k + j = P := ⟨_, rfl⟩
          have hP' : (k : Int) + (j : Int) = (P : Int) := by omega
          have e0 : IntKind.i64.wrap (P : Int) = (P : Int) := IntWalk.i64_in _ (by omega)
          obtain ⟨ga, oa, hAA, hga, hca⟩ := rdD (HA.out.below hbw2).rd (show k < a.l.length by have := HLA.out; omega)
          obtain ⟨gb, ob, hBB, hgb, hcb⟩ := rdD (HB.out.below hbw2).rd (show j < b.l.length by have := HLB.out; omega)
          rw [Hx.out] at hca
          rw [Hy.out] at hcb
          have HM1 := Lib.hid t1
          have HAA := Lib.hid hAA
          have HBB := Lib.hid hBB
          rw [hP] at HC Hz
          have hkj : P < M.length := by rw [t1]; omega
          obtain ⟨g', cap', cur', hv', _, kg, _⟩ := hm.block (by intro h; rw [h] at hkj; simp at hkj)
          obtain rfl : w.heap.size = g' := by have h3 := congrArg Value.ownBlock hv'; simpa [Value.ownBlock] using h3
          clear hv'
          have hcz := World.ownsRow.cellAt (g := w.heap.size) (show OwnL encD 108 1 wr w.heap.size (.slice (some ⟨w.heap.size, 0, none⟩) M.length (a.n + b.n + 1)) M by rw [t1]; exact hm) (P * 1) (by omega)
          have hfz := flat_at encD_len M P hkj 0 (.int .u32 (z : Int)) (by rw [← Hz.out, List.getD_eq_getElem?_getD, List.getElem?_eq_getElem hkj]; rfl)
          rw [Nat.add_zero] at hfz
          rw [hfz, Nat.mul_one] at hcz
          have hfr := kg.rules.2.1 P
          have hgl := kg.lt
          rw [HAA.out, HBB.out]
          have HCA := Lib.hid hca
          have HCB := Lib.hid hcb
          have HCZ := Lib.hid hcz
          have j0 : (0 : Int) ≤ (k : Int) := by omega
          have j1 : (k : Int) < (a.n : Int) := by omega
          have j2 : (0 : Int) ≤ (j : Int) := by omega
          have j3 : (j : Int) < (b.n : Int) := by omega
          have j4 : (0 : Int) ≤ (P : Int) := by omega
          have j5 : (P : Int) < (a.n : Int) + (b.n : Int) + 1 := by omega
          have j6 : P < a.n + b.n + 1 := by omega
          clear hca hcb hAA hBB hfz kg h1 h2 t1 t2 hkl hP
          go_wp2_with fail
          refine wp_region_gob 22 [(0, true), (1, true), (2, true), (3, true), (4, true), (5, true), (6, true), (7, true), (8, true), (9, true), (10, true), (11, true), (12, true), (13, true), (14, true), (15, true), (16, true), (17, true), (18, true), (19, true), (20, true), (21, true)] (by kernel_rfl) (by kernel_rfl) (fun c a d v w h => by cases d <;> exact h) ?_
          repeat (refine wpGo_pure (v := ?_) rfl rfl (fun w' hS => ?_) ?_; rotate_left; (· have qa := (hS.cell (p := ⟨ga, oa + k, none⟩) hga).trans HCA.out; have qb := (hS.cell (p := ⟨gb, ob + j, none⟩) hgb).trans HCB.out; have qz := (hS.cell (p := ⟨w.heap.size, P, none⟩) hgl).trans HCZ.out; go_simp; exact rfl); (try simp only [Act.put, List.setIfInBounds_toArray, List.set_cons_zero, List.set_cons_succ]))
          refine wpGo_nil ?_
          simp only [List.drop_succ_cons, List.drop_zero]
          have f1 : (m3 : Int) % 4294967296 = ((m3 % 4294967296 : Nat) : Int) := by omega
          obtain ⟨D, hD⟩ : ∃ D, m3 % 4294967296 = D := ⟨_, rfl⟩
          rw [hD] at f1 HC
          have f2 : (m3 : Int) / 4294967296 = ((m3 / 4294967296 : Nat) : Int) := by omega
          obtain ⟨q, hq⟩ : ∃ D, m3 / 4294967296 = D := ⟨_, rfl⟩
          rw [hq] at f2 HC
          clear hD hq ex ey ez e0 e1 e2 e3
          have hcz := HCZ.out
          have hm2 := OwnL.storeAt encD_len hm hkj 0 (.int .u32 (D : Int)) D (by decide) rfl (by rw [HM1.out])
          rw [Nat.mul_one, Nat.add_zero] at hm2
          have hB3 := bset hbw2 (p := ⟨w.heap.size, P, none⟩) (Nat.le_refl _) (.int .u32 (D : Int))
          have HM2 : Hid (M.set P D = (mulI x b.l k L (j + 1)).1) := by unfold Hid; rw [HC.out]
          have HC2 : Hid (q = (mulI x b.l k L (j + 1)).2) := by unfold Hid; rw [HC.out]
          have hm2d := Lib.hid hm2
          clear hm2 HC
          go_wp2
          go_roundw
          case rel => exact ⟨j + 1, _, by omega, by go_num, by rw [← HC2.out], hm2d.out, HM2, hB3.drew⟩
          case measure => first | (simp [intOf]; done) | (simp [intOf]; omega)
        · have hjb : j = b.n := by omega
          obtain ⟨_, _, _, t4, _⟩ := HSI.out j (by rw [HLB.out]; exact hj)
          rw [← HM.out] at t4
          obtain ⟨c0, hc0⟩ : ∃ c, (mulI x b.l k L j).2 = c := ⟨_, rfl⟩
          have HC : Hid (mulS a.l b.l (List.replicate (a.n + b.n + 1) 0) (k + 1) = M.set (k + j) c0) := by
            unfold Hid
            rw [mulS, Hx.out, ← HL.out, HLB.out, ← hjb, hc0, HM.out]
          rw [hc0] at t3 ⊢
          clear hc0 t4
          have HM1 := Lib.hid t1
          obtain ⟨P, hP⟩ : ∃ P, k + j = P := ⟨_, rfl⟩
          have hP' : (k : Int) + (b.n : Int) = (P : Int) := by omega
          rw [hP] at HC
          have hkj : P < M.length := by rw [t1]; omega
          obtain ⟨z, Hz⟩ : ∃ x, Hid (M.getD P 0 = x) := ⟨_, rfl⟩
          obtain ⟨g', cap', cur', hv', _, kg, _⟩ := hm.block (by intro h; rw [h] at hkj; simp at hkj)
          obtain rfl : w.heap.size = g' := by have h3 := congrArg Value.ownBlock hv'; simpa [Value.ownBlock] using h3
          clear hv'
          have hcz := World.ownsRow.cellAt (g := w.heap.size) (show OwnL encD 108 1 wr w.heap.size (.slice (some ⟨w.heap.size, 0, none⟩) M.length (a.n + b.n + 1)) M by rw [t1]; exact hm) (P * 1) (by omega)
          have hfz := flat_at encD_len M P hkj 0 (.int .u32 (z : Int)) (by rw [← Hz.out, List.getD_eq_getElem?_getD, List.getElem?_eq_getElem hkj]; rfl)
          rw [Nat.add_zero] at hfz
          rw [hfz, Nat.mul_one] at hcz
          have hfr := kg.rules.2.1 P
          have hgl := kg.lt
          have j4 : (0 : Int) ≤ (P : Int) := by omega
          have j5 : (P : Int) < (a.n : Int) + (b.n : Int) + 1 := by omega
          have j6 : P < a.n + b.n + 1 := by omega
          have hm2 := OwnL.storeAt encD_len hm hkj 0 (.int .u32 (c0 : Int)) c0 (by decide) rfl (by rw [HM1.out])
          rw [Nat.mul_one, Nat.add_zero, ← HC.out] at hm2
          have hB3 := bset hbw2 (p := ⟨w.heap.size, P, none⟩) (Nat.le_refl _) (.int .u32 (c0 : Int))
          have hm2d := Lib.hid hm2
          clear hfz kg t1 t2 hkl hP hm2
          go_wp2
          go_roundw
          case rel => exact ⟨k + 1, _, by omega, by go_num, hm2d.out, rfl, hB3⟩
          case measure => first | (simp [intOf]; done) | (simp [intOf]; omega)
    · have hkA : k = a.n := by omega
      have HV : Hid (valD L = valD a.l * valD b.l) := by
        unfold Hid; rw [HS4.out, valT_len (by rw [HLA.out]; omega)]
      have hu2 : OwnL encD 108 1 wr w.heap.size (.slice (some ⟨w.heap.size, 0, none⟩) (a.n + b.n + 1) (a.n + b.n + 1)) L := hu
      obtain ⟨A9, c9, hv9, hr9, _⟩ := hu.form encD_len
      have hA9 : A9 = some ⟨w.heap.size, 0, none⟩ := (congrArg (fun v => match v with | .slice A _ _ => A | _ => none) hv9).symm
      subst hA9
      have HDO : Hid (Dg.ok ⟨some ⟨w.heap.size, 0, none⟩, a.n + b.n + 1, a.n + b.n + 1, L⟩ wr) := ⟨hr9, HS1.out, HS2.out⟩
      clear hv9 hr9 hu hu2
      go_wp2_with fail
      refine (norm_any ⟨some ⟨w.heap.size, 0, none⟩, a.n + b.n + 1, a.n + b.n + 1, L⟩ _ HDO.out (by show a.n + b.n + 1 ≤ 4000; omega)).mono ?_
      rintro e w6 ⟨d6, rfl, ho6, hl6, hb6⟩
      have HO6 := Lib.hid ho6
      have HL6 := Lib.hid hl6
      clear ho6 hl6
      go_wp2
      go_ret
      exact ⟨d6, rfl, HO6.out, by rw [HL6.out, HV.out], bstep hb6 hbw⟩
end Go.Proofs.Ytlholebpfgjpdaa
