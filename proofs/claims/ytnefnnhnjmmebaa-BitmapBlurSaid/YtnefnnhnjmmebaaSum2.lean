/-
  The walk of bitmap.sumsOf.
-/
import Derived.Test.YtnefnnhnjmmebaaSumW
import Derived.Test.YtnefnnhnjmmebaaOpenB
import Derived.Test.YtnefnnhnjmmebaaPlB
import Derived.OwnWalk
namespace Go.Proofs.Ytnefnnhnjmmebaa
open Go.RowKit
set_option linter.unusedSimpArgs false
set_option linter.unusedVariables false

theorem OwnL.store4 {e : TypeId} {w : World} {base g cap n : Nat} {l : List Px} (h : OwnL encI e 4 w base (.slice (some ⟨g, 0, none⟩) n cap) l) {i : Nat} (hi : i < l.length) (hn : n = l.length) (v : Px) :
    OwnL encI e 4 ((((w.setCell ⟨g, i * 4, none⟩ (.int .i64 v.r)).setCell ⟨g, i * 4 + 1, none⟩ (.int .i64 v.g)).setCell ⟨g, i * 4 + 2, none⟩ (.int .i64 v.b)).setCell ⟨g, i * 4 + 3, none⟩ (.int .i64 v.a)) base (.slice (some ⟨g, 0, none⟩) n cap) (l.set i v) := by
  have h1 := OwnL.storeAt encI_len h hi 0 (.int .i64 v.r) ⟨v.r, l[i].g, l[i].b, l[i].a⟩ (by decide) rfl hn
  have h2 := OwnL.storeAt encI_len h1 (i := i) (by simpa using hi) 1 (.int .i64 v.g) ⟨v.r, v.g, l[i].b, l[i].a⟩ (by decide) (by rw [List.getElem_set_self]; rfl) (by simpa using hn)
  have h3 := OwnL.storeAt encI_len h2 (i := i) (by simpa using hi) 2 (.int .i64 v.b) ⟨v.r, v.g, v.b, l[i].a⟩ (by decide) (by rw [List.getElem_set_self]; rfl) (by simpa using hn)
  have h4 := OwnL.storeAt encI_len h3 (i := i) (by simpa using hi) 3 (.int .i64 v.a) v (by decide) (by rw [List.getElem_set_self]; rfl) (by simpa using hn)
  simp only [List.set_set] at h4
  exact h4
theorem OwnL.away {α : Type} {enc : α → List Value} {e : TypeId} {sz : Nat} {w : World} {base g n c : Nat} {l : List α} (ho : OwnL enc e sz w base (.slice (some ⟨g, 0, none⟩) n c) l) {p : Addr} (hne : g ≠ p.block) (u : Value) : OwnL enc e sz (w.setCell p u) base (.slice (some ⟨g, 0, none⟩) n c) l :=
  ownsRow_setCell_other ho (fun h => hne (by simpa [Value.ownBlock] using h)) u
theorem ix4_0 (p : Px) (w : World) : (Instr.index 81 (.agg #[.int .i64 p.r, .int .i64 p.g, .int .i64 p.b, .int .i64 p.a]) (.int .i64 0)).run Try.prog w = .ok (.int .i64 p.r) w := by kernel_rfl
theorem ix4_1 (p : Px) (w : World) : (Instr.index 81 (.agg #[.int .i64 p.r, .int .i64 p.g, .int .i64 p.b, .int .i64 p.a]) (.int .i64 1)).run Try.prog w = .ok (.int .i64 p.g) w := by kernel_rfl
theorem ix4_2 (p : Px) (w : World) : (Instr.index 81 (.agg #[.int .i64 p.r, .int .i64 p.g, .int .i64 p.b, .int .i64 p.a]) (.int .i64 2)).run Try.prog w = .ok (.int .i64 p.b) w := by kernel_rfl
theorem ix4_3 (p : Px) (w : World) : (Instr.index 81 (.agg #[.int .i64 p.r, .int .i64 p.g, .int .i64 p.b, .int .i64 p.a]) (.int .i64 3)).run Try.prog w = .ok (.int .i64 p.a) w := by kernel_rfl
theorem tat_q (wd ht : Nat) (A : Option Addr) (n c : Nat) (l : List Px) (i j : Nat) (x y : Int) (w : World) (hr : RdL encI 4 w A l) (hx : x = (i : Int)) (hy : y = (j : Int)) (hi : i ≤ wd) (hj : j ≤ ht) (hw : wd ≤ 8192) (hh : ht ≤ 8192) (hn : l.length = n) (hn2 : n = (wd + 1) * (ht + 1)) (v : Px) (hv : Hid (l[tix wd i j]? = some v)) :
    Calls Try.prog 113 #[.agg #[.int .i64 (wd : Int), .int .i64 (ht : Int), .slice A n c], .int .i64 x, .int .i64 y] w fun e w' => e = .returned (.agg #[.int .i64 v.r, .int .i64 v.g, .int .i64 v.b, .int .i64 v.a]) ∧ Below w.heap.size w w' := by
  subst hx hy; exact tat_any wd ht A n c l i j w hr hi hj hw hh hn hn2 v hv
set_option maxRecDepth 100000 in
set_option maxHeartbeats 12800000 in
theorem sumsof_any (b : Bm) (wd ht : Nat) (w : World) (hb : b.ok w) (hn0 : b.n = wd * ht) (hn2 : b.n ≤ 4000000000) (hwd : b.r.x1 - b.r.x0 = (wd : Int)) (hht : b.r.y1 - b.r.y0 = (ht : Int)) (h1 : wd ≤ 8192) (h2 : ht ≤ 8192) :
    Calls Try.prog 83 #[.agg #[.int .i64 b.r.x0, .int .i64 b.r.y0, .int .i64 b.r.x1, .int .i64 b.r.y1, .slice b.A b.n b.c]] w fun e w' => ∃ (A : Option Addr) (N c : Nat) (l : List Px), e = .returned (.agg #[.int .i64 (wd : Int), .int .i64 (ht : Int), .slice A N c]) ∧ RdL encI 4 w' A l ∧ l.length = N ∧ TabOk b.l wd ht l ∧ Below w.heap.size w w' := by
  have HB := Lib.hid hb
  have HN0 := Lib.hid hn0
  have hmul : (wd + 1) * (ht + 1) ≤ 8193 * 8193 := Nat.mul_le_mul (by omega) (by omega)
  obtain ⟨N, hN⟩ : ∃ N, (wd + 1) * (ht + 1) = N := ⟨_, rfl⟩
  have HN := Lib.hid hN
  have f1 : ((wd : Int) + 1) * ((ht : Int) + 1) = (N : Int) := by rw [← hN]; simp
  rw [hN] at hmul
  obtain ⟨gT, hgT⟩ : ∃ g, w.heap.size + 1 + 1 + 1 = g := ⟨_, rfl⟩
  have HG := Lib.hid hgT
  have lgT : w.heap.size + 1 + 1 < gT := by omega
  obtain ⟨W, HW⟩ : ∃ W : World, Hid (W = (((w.alloc (.cells #[.int .i64 b.r.x0, .int .i64 b.r.y0, .int .i64 b.r.x1, .int .i64 b.r.y1, .slice b.A b.n b.c] 28)).alloc (.cells #[.int .i64 0, .int .i64 0, .slice none 0 0] 98)).alloc (.cells #[.int .i64 (wd : Int), .int .i64 (ht : Int), .slice none 0 0] 98))) := ⟨_, rfl⟩
  have hszW : W.heap.size = gT := by rw [HW.out, ← hgT]; simp
  have kS : Bk W (w.heap.size) 28 #[.int .i64 b.r.x0, .int .i64 b.r.y0, .int .i64 b.r.x1, .int .i64 b.r.y1, .slice b.A b.n b.c] := by rw [HW.out]; exact (by repeat (first | (with_reducible assumption) | ((with_reducible refine Bk.new _ _ _ ?_); first | (with_reducible rfl) | (simp; done)) | (with_reducible refine Bk.alloc ?_ _) | (with_reducible refine Bk.drew ?_) | (with_reducible refine Bk.drewN ?_ _) | ((with_reducible refine Bk.far ?_ ?_ _); rotate_left; focus (first | (simp; done) | (simp; omega))) | (with_reducible refine Bk.below ?_ (by with_reducible assumption))))
  have kO : Bk W (w.heap.size + 1) 98 #[.int .i64 0, .int .i64 0, .slice none 0 0] := by rw [HW.out]; exact (by repeat (first | (with_reducible assumption) | ((with_reducible refine Bk.new _ _ _ ?_); first | (with_reducible rfl) | (simp; done)) | (with_reducible refine Bk.alloc ?_ _) | (with_reducible refine Bk.drew ?_) | (with_reducible refine Bk.drewN ?_ _) | ((with_reducible refine Bk.far ?_ ?_ _); rotate_left; focus (first | (simp; done) | (simp; omega))) | (with_reducible refine Bk.below ?_ (by with_reducible assumption))))
  have kT : Bk W (w.heap.size + 1 + 1) 98 #[.int .i64 (wd : Int), .int .i64 (ht : Int), .slice none 0 0] := by rw [HW.out]; exact (by repeat (first | (with_reducible assumption) | ((with_reducible refine Bk.new _ _ _ ?_); first | (with_reducible rfl) | (simp; done)) | (with_reducible refine Bk.alloc ?_ _) | (with_reducible refine Bk.drew ?_) | (with_reducible refine Bk.drewN ?_ _) | ((with_reducible refine Bk.far ?_ ?_ _); rotate_left; focus (first | (simp; done) | (simp; omega))) | (with_reducible refine Bk.below ?_ (by with_reducible assumption))))
  have hB0 : Below w.heap.size w W := by rw [HW.out]; exact (by repeat (first | (with_reducible exact Below.refl _ _) | (with_reducible refine balloc ?_ _) | (with_reducible refine Below.drew ?_) | (with_reducible refine bdrewN ?_ _) | ((with_reducible refine bset ?_ ?_ _); rotate_left; focus (first | (with_reducible exact Nat.le_refl _) | (simp; done) | (simp; omega) | omega)) | (with_reducible refine bstep (by with_reducible assumption) ?_)))
  obtain ⟨i0, hi, hz0, hz1, hz2⟩ := info_parts Try.infoI4
  have HSW := Lib.hid hszW
  clear hb hn0 hN hgT hszW
  go_enter Try.func83, Try.ntmps83
  go_wp2_with (rw [← HW.out]; at_make; refine wpList_make_full _ rfl _ _ 96 rfl w.heap.size 81 i0 (.agg #[.int .i64 0, .int .i64 0, .int .i64 0, .int .i64 0]) 4 Try.underlying96 hi hz0 hz1 _ _ _ _ N rfl rfl (by first | rfl | omega) (by first | rfl | omega) (by rw [hz2]; omega) (by unfold maxLen; omega) hB0.size ?_; rw [HSW.out]; intro w0 hown0 hgrow0; have q0 := kT.grown hgrow0 (by simp); obtain ⟨kc0, kf0, ka0, kg0, kl0⟩ := q0.rules)
  have hB2 : Below w.heap.size w w0 := below_grown (OwnL.nil (enc := encI) (e := 81) (size := 4) W w.heap.size) hgrow0 hB0 (Nat.le_refl _)
  have ho0 : OwnL encI 81 4 w0 w.heap.size (.slice (some ⟨gT, 0, none⟩) N N) (List.replicate N pz) := by
    have h := hown0
    rw [show (madeCells (Value.agg #[.int .i64 0, .int .i64 0, .int .i64 0, .int .i64 0]).cells (N * 4)).toList = (List.replicate N pz).flatMap encI from made_flat N] at h
    unfold OwnL; rw [List.length_replicate]; exact h
  have rS0 := kS.grown hgrow0 (by simp)
  have rO0 := kO.grown hgrow0 (by simp)
  have ho1 := ho0.setFar q0 (by decide) 2 (.slice (some ⟨gT, 0, none⟩) N N)
  have rS1 := rS0.far (p := ⟨w.heap.size + 1 + 1, 2, none⟩) (by simp; omega) (.slice (some ⟨gT, 0, none⟩) N N)
  have rO1 := rO0.far (p := ⟨w.heap.size + 1 + 1, 2, none⟩) (by simp) (.slice (some ⟨gT, 0, none⟩) N N)
  have rT1 : Bk _ (w.heap.size + 1 + 1) 98 #[.int .i64 (wd : Int), .int .i64 (ht : Int), .slice (some ⟨gT, 0, none⟩) N N] := q0.set 2 (.slice (some ⟨gT, 0, none⟩) N N)
  have hB3 := bset (p := ⟨w.heap.size + 1 + 1, 2, none⟩) hB2 (by show _ ≤ w.heap.size + 1 + 1; omega) (.slice (some ⟨gT, 0, none⟩) N N)
  have hTB0 : TabI b.l wd ht 0 0 (List.replicate N pz) := by rw [← HN.out]; exact TabI.start _ _ _
  generalize w0.setCell ⟨w.heap.size + 1 + 1, 2, none⟩ (.slice (some ⟨gT, 0, none⟩) N N) = w1 at *
  clear q0 kc0 kf0 ka0 kg0 kl0 hown0 hgrow0 ho0 rS0 rO0 hB2 hB0 kS kO kT HW HSW
  go_loopw [36] (fun i wr => ∃ (j : Nat) (m : List Px), j ≤ ht ∧ i = .int .i64 (j : Int) ∧ Bk wr (w.heap.size) 28 #[.int .i64 b.r.x0, .int .i64 b.r.y0, .int .i64 b.r.x1, .int .i64 b.r.y1, .slice b.A b.n b.c] ∧ Bk wr (w.heap.size + 1) 98 #[.int .i64 0, .int .i64 0, .slice none 0 0] ∧ Bk wr (w.heap.size + 1 + 1) 98 #[.int .i64 (wd : Int), .int .i64 (ht : Int), .slice (some ⟨gT, 0, none⟩) N N] ∧ OwnL encI 81 4 wr w.heap.size (.slice (some ⟨gT, 0, none⟩) N N) m ∧ Hid (TabI b.l wd ht j 0 m) ∧ Below w.heap.size w wr) (fun i _ => ht - (intOf i).toNat)
  case atStart => exact ⟨0, _, Nat.zero_le _, rfl, rS1, rO1, rT1, ho1, hTB0, hB3⟩
  case round =>
    clear rS1 rO1 rT1 ho1 hTB0 hB3
    obtain ⟨j, m, hj, rfl, kS, kO, kT, ho, HT, hbw⟩ := hrel
    by_cases hlt : j < ht
    · have kS0 := kS.alloc (.cells #[.int .i64 0, .int .i64 0, .int .i64 0, .int .i64 0] 81)
      have kO0 := kO.alloc (.cells #[.int .i64 0, .int .i64 0, .int .i64 0, .int .i64 0] 81)
      have kT0 := kT.alloc (.cells #[.int .i64 0, .int .i64 0, .int .i64 0, .int .i64 0] 81)
      have kR0 := Bk.new wr 81 #[.int .i64 0, .int .i64 0, .int .i64 0, .int .i64 0] (g := wr.heap.size) rfl
      have ho0 := ho.alloc (.cells #[.int .i64 0, .int .i64 0, .int .i64 0, .int .i64 0] 81)
      have hb0 := balloc hbw (.cells #[.int .i64 0, .int .i64 0, .int .i64 0, .int .i64 0] 81)
      have lgR : gT < wr.heap.size := (World.ownsRow.lt ho gT rfl).2
      obtain ⟨kc, kf, ka, kg, kl⟩ := kT.rules
      obtain ⟨kc', kf', ka', kg', kl'⟩ := kS.rules
      go_wp2_with fail
      obtain ⟨gR, hgR⟩ : ∃ g, wr.heap.size = g := ⟨_, rfl⟩
      rw [hgR] at kR0 lgR ⊢
      generalize wr.alloc (.cells #[.int .i64 0, .int .i64 0, .int .i64 0, .int .i64 0] 81) = wi at *
      clear kc kf ka kg kl kc' kf' ka' kg' kl' hgR kS kO kT ho hbw
      go_loopw [41] (fun i wr => ∃ (k : Nat) (m : List Px) (z : Px), k ≤ wd ∧ i = .int .i64 (k : Int) ∧ Bk wr (w.heap.size) 28 #[.int .i64 b.r.x0, .int .i64 b.r.y0, .int .i64 b.r.x1, .int .i64 b.r.y1, .slice b.A b.n b.c] ∧ Bk wr (w.heap.size + 1) 98 #[.int .i64 0, .int .i64 0, .slice none 0 0] ∧ Bk wr (w.heap.size + 1 + 1) 98 #[.int .i64 (wd : Int), .int .i64 (ht : Int), .slice (some ⟨gT, 0, none⟩) N N] ∧ OwnL encI 81 4 wr w.heap.size (.slice (some ⟨gT, 0, none⟩) N N) m ∧ Hid (TabI b.l wd ht j k m) ∧ Below w.heap.size w wr ∧ Hid (rows4 b.l wd k j = z) ∧ Bk wr gR 81 #[.int .i64 z.r, .int .i64 z.g, .int .i64 z.b, .int .i64 z.a]) (fun i _ => wd - (intOf i).toNat)
      case atStart => exact ⟨0, m, pz, Nat.zero_le _, rfl, kS0, kO0, kT0, ho0, HT, hb0, rfl, kR0⟩
      case round =>
        clear kS0 kO0 kT0 ho0 hb0 kR0 HT m
        obtain ⟨k, m, z, hk, rfl, kS, kO, kT, ho, HT, hbw, HZ, kR⟩ := hrel
        by_cases hlx : k < wd
        · have hidx : j * wd + k < b.n := by
            rw [HN0.out, Nat.mul_comm wd]
            have h : (j + 1) * wd ≤ ht * wd := Nat.mul_le_mul_right _ hlt
            rw [Nat.succ_mul] at h; omega
          have hidl : j * wd + k < b.l.length := by rw [HB.out.ln]; exact hidx
          obtain ⟨gb, ob, hA, hg, hcA⟩ := rdp (HB.out.rd.below hbw) hidl
          obtain ⟨px, Hpx⟩ : ∃ s, Hid (b.l[j * wd + k] = s) := ⟨b.l[j * wd + k], rfl⟩
          have hpb := HB.out.byte _ (List.getElem_mem hidl)
          rw [Hpx.out] at hcA hpb
          have HPX : Hid (b.l.getD (j * wd + k) ⟨0, 0, 0, 0⟩ = px) := by unfold Hid; rw [List.getD_eq_getElem?_getD, List.getElem?_eq_getElem hidl, Option.getD_some, Hpx.out]
          obtain ⟨z1, HZ1⟩ : ∃ s, Hid (rows4 b.l wd (k + 1) j = s) := ⟨_, rfl⟩
          obtain ⟨v0, HV0⟩ : ∃ s, Hid (sum4 b.l wd (k + 1) j = s) := ⟨_, rfl⟩
          obtain ⟨v1, HV1⟩ : ∃ s, Hid (sum4 b.l wd (k + 1) (j + 1) = s) := ⟨_, rfl⟩
          have HZE : Hid (addP z px = z1) := by unfold Hid; rw [← HZ1.out, rows4_succ, HZ.out, HPX.out]
          have HVE : Hid (addP v0 z1 = v1) := by unfold Hid; rw [← HV1.out, sum4_succ, HV0.out, HZ1.out]
          have HIN := Lib.hid (And.intro (show z.in by rw [← HZ.out]; exact rows4_in HB.out.byte (by omega)) (And.intro (show z1.in by rw [← HZ1.out]; exact rows4_in HB.out.byte (by omega)) (And.intro (show v0.in by rw [← HV0.out]; exact sum4_in HB.out.byte (by omega) (by omega)) (show v1.in by rw [← HV1.out]; exact sum4_in HB.out.byte (by omega) (by omega)))))
          have HAT : Hid (m[tix wd (k + 1) j]? = some v0) := by unfold Hid; rw [HT.out.at_ _ _ (by omega) (by omega), if_pos (by omega), HV0.out]
          have hml : m.length = N := by rw [HT.out.len, HN.out]
          have HML := Lib.hid hml
          have hq1 := hidx
          have fi : (j : Int) * (wd : Int) + (k : Int) = ((j * wd + k : Nat) : Int) := by simp
          have fi0 : 0 ≤ (j : Int) * (wd : Int) := Int.mul_nonneg (by omega) (by omega)
          generalize j * wd + k = q at *
          have i0 : (0 : Int) ≤ (q : Int) := by omega
          have i1 : (q : Int) < (b.n : Int) := by omega
          have HHA := Lib.hid hA
          have HCA := Lib.hid hcA
          have HPB := Lib.hid hpb
          obtain ⟨kc, kf, ka, kg, kl⟩ := kT.rules
          obtain ⟨A0, c0, hv0, hr0, _⟩ := ho.form encI_len
          have hA0 : A0 = some ⟨gT, 0, none⟩ := by injection hv0 with h _ _; exact h.symm
          rw [hA0] at hr0
          have HR0 := Lib.hid hr0
          clear hA hcA hpb hml hv0 hr0 hA0 Hpx hidl
          go_wp2_with fail
          refine (tat_q wd ht _ N N m (k + 1) j _ _ _ HR0.out (by simp) rfl (by omega) (by omega) h1 h2 HML.out HN.out.symm v0 HAT).mono ?_
          rintro e w2 ⟨rfl, hb2⟩
          have jS := kS.below hb2
          have jO := kO.below hb2
          have jT := kT.below hb2
          have jR := kR.below hb2
          have o2 := ho.below hb2
          have hB2 := bstep hb2 hbw
          obtain ⟨d0, d1, d2, d3⟩ := HCA.out
          have hb23 : Below wr.heap.size wr (w2.alloc (.cells #[.int .i64 v0.r, .int .i64 v0.g, .int .i64 v0.b, .int .i64 v0.a] 81)) := balloc hb2 _
          have e0 := (hb23.cell (p := ⟨gb, ob + q * 4, none⟩) hg).trans d0
          have e1 := (hb23.cell (p := ⟨gb, ob + q * 4 + 1, none⟩) hg).trans d1
          have e2 := (hb23.cell (p := ⟨gb, ob + q * 4 + 2, none⟩) hg).trans d2
          have e3 := (hb23.cell (p := ⟨gb, ob + q * 4 + 3, none⟩) hg).trans d3
          clear kc kf ka kg kl d0 d1 d2 d3
          obtain ⟨kc, kf, ka, kg, kl⟩ := jT.rules
          obtain ⟨kc', kf', ka', kg', kl'⟩ := jS.rules
          rw [HHA.out] at kc' ka'
          have kA := Bk.new w2 81 #[.int .i64 v0.r, .int .i64 v0.g, .int .i64 v0.b, .int .i64 v0.a] (g := w2.heap.size) rfl
          have iS := jS.alloc (.cells #[.int .i64 v0.r, .int .i64 v0.g, .int .i64 v0.b, .int .i64 v0.a] 81)
          have iO := jO.alloc (.cells #[.int .i64 v0.r, .int .i64 v0.g, .int .i64 v0.b, .int .i64 v0.a] 81)
          have iT := jT.alloc (.cells #[.int .i64 v0.r, .int .i64 v0.g, .int .i64 v0.b, .int .i64 v0.a] 81)
          have iR := jR.alloc (.cells #[.int .i64 v0.r, .int .i64 v0.g, .int .i64 v0.b, .int .i64 v0.a] 81)
          have o3 := o2.alloc (.cells #[.int .i64 v0.r, .int .i64 v0.g, .int .i64 v0.b, .int .i64 v0.a] 81)
          have hB3 := balloc hB2 (.cells #[.int .i64 v0.r, .int .i64 v0.g, .int .i64 v0.b, .int .i64 v0.a] 81)
          have lRA : gR < w2.heap.size := jR.lt
          go_wp2_with fail
          obtain ⟨gA, hgA⟩ : ∃ g, w2.heap.size = g := ⟨_, rfl⟩
          rw [hgA] at kA lRA ⊢
          refine (parts_any px _ HPB.out).mono ?_
          rintro e w4 ⟨rfl, hb4⟩
          have jS := iS.below hb4
          have jO := iO.below hb4
          have jT := iT.below hb4
          have jR := iR.below hb4
          have jA := kA.below hb4
          have o4 := o3.below hb4
          have hB4 := bstep hb4 hB3
          clear kc kf ka kg kl kc' kf' ka' kg' kl' e0 e1 e2 e3 hb23 hgA iS iO iT iR kA o3 hB3 o2 hB2
          go_wp2_with fail
          clear hb4 hb2 HCA
          go_loopw [60] (fun i wr => ∃ (c : Nat) (x y : Px), c ≤ 4 ∧ i = .int .i64 (c : Int) ∧ Hid (mixq c z1 z = x) ∧ Hid (mixq c v1 v0 = y) ∧ Bk wr (w.heap.size) 28 #[.int .i64 b.r.x0, .int .i64 b.r.y0, .int .i64 b.r.x1, .int .i64 b.r.y1, .slice b.A b.n b.c] ∧ Bk wr (w.heap.size + 1) 98 #[.int .i64 0, .int .i64 0, .slice none 0 0] ∧ Bk wr (w.heap.size + 1 + 1) 98 #[.int .i64 (wd : Int), .int .i64 (ht : Int), .slice (some ⟨gT, 0, none⟩) N N] ∧ OwnL encI 81 4 wr w.heap.size (.slice (some ⟨gT, 0, none⟩) N N) m ∧ Bk wr gR 81 #[.int .i64 x.r, .int .i64 x.g, .int .i64 x.b, .int .i64 x.a] ∧ Bk wr gA 81 #[.int .i64 y.r, .int .i64 y.g, .int .i64 y.b, .int .i64 y.a] ∧ Below w.heap.size w wr) (fun i _ => 4 - (intOf i).toNat)
          case atStart => exact ⟨0, z, v0, by omega, rfl, rfl, rfl, jS, jO, jT, o4, jR, jA, hB4⟩
          case round =>
            clear jS jO jT o4 jR jA hB4 kS kO kT ho hbw kR
            obtain ⟨c, x, y, hc, rfl, HX, HY, kS, kO, kT, ho, kR, kA, hbw⟩ := hrel
            have nRA : gR ≠ gA := by omega
            have lS : w.heap.size + 1 + 1 < gT := lgT
            by_cases hl4 : c < 4
            · have h4 : c = 0 ∨ c = 1 ∨ c = 2 ∨ c = 3 := by omega
              clear hc hl4
              obtain ⟨⟨⟨zr0, zr1⟩, ⟨zg0, zg1⟩, ⟨zb0, zb1⟩, za0, za1⟩, ⟨⟨yr0, yr1⟩, ⟨yg0, yg1⟩, ⟨yb0, yb1⟩, ya0, ya1⟩, ⟨⟨vr0, vr1⟩, ⟨vg0, vg1⟩, ⟨vb0, vb1⟩, va0, va1⟩, ⟨ur0, ur1⟩, ⟨ug0, ug1⟩, ⟨ub0, ub1⟩, ua0, ua1⟩ := HIN.out
              rcases h4 with rfl | rfl | rfl | rfl
              · have hx : mixq 0 z1 z = x := HX.out
                have hy : mixq 0 v1 v0 = y := HY.out
                subst hx hy
                have kR : Bk wr gR 81 #[.int .i64 z.r, .int .i64 z.g, .int .i64 z.b, .int .i64 z.a] := kR
                have kA : Bk wr gA 81 #[.int .i64 v0.r, .int .i64 v0.g, .int .i64 v0.b, .int .i64 v0.a] := kA
                have e1 : z.r + px.r = z1.r := congrArg Px.r HZE.out
                have e2 : v0.r + z1.r = v1.r := congrArg Px.r HVE.out
                have f1 : IntKind.i64.wrap (z.r + px.r) = z1.r := by rw [← e1]; exact IntWalk.i64_in _ (by omega)
                have f2 : IntKind.i64.wrap (v0.r + z1.r) = v1.r := by rw [← e2]; exact IntWalk.i64_in _ (by omega)
                have hix := ix4_0 px
                obtain ⟨kc, kf, ka, kg, kl⟩ := kR.rules
                have iR : Bk _ gR 81 #[.int .i64 z1.r, .int .i64 z.g, .int .i64 z.b, .int .i64 z.a] := kR.set 0 (.int .i64 z1.r)
                have iA := kA.far (p := ⟨gR, 0, none⟩) (by simp; omega) (.int .i64 z1.r)
                go_wp2_with fail
                refine wp_region_gob 8 [(0, true), (1, true), (2, true), (3, true), (4, true), (5, true), (6, true), (7, true)] (by kernel_rfl) (by kernel_rfl) (fun c a d v w h => by cases d <;> exact h) ?_
                repeat (first | (refine wpGo_pure (v := ?_) rfl rfl (fun w' hS => ?_) ?_; rotate_left; (· have kRp : Bk w' (gR) 81 #[.int .i64 z1.r, .int .i64 z.g, .int .i64 z.b, .int .i64 z.a] := (by repeat (first | (with_reducible assumption) | ((with_reducible refine Bk.new _ _ _ ?_); first | (with_reducible rfl) | (simp; done)) | (with_reducible refine Bk.alloc ?_ _) | (with_reducible refine Bk.drew ?_) | (with_reducible refine Bk.drewN ?_ _) | ((with_reducible refine Bk.far ?_ ?_ _); rotate_left; focus (first | (simp; done) | (simp; omega))) | (with_reducible refine Bk.below ?_ (by with_reducible assumption)))); obtain ⟨kcRp, kfRp, kaRp, kgRp, klRp⟩ := kRp.rules; have kAp : Bk w' (gA) 81 #[.int .i64 v0.r, .int .i64 v0.g, .int .i64 v0.b, .int .i64 v0.a] := (by repeat (first | (with_reducible assumption) | ((with_reducible refine Bk.new _ _ _ ?_); first | (with_reducible rfl) | (simp; done)) | (with_reducible refine Bk.alloc ?_ _) | (with_reducible refine Bk.drew ?_) | (with_reducible refine Bk.drewN ?_ _) | ((with_reducible refine Bk.far ?_ ?_ _); rotate_left; focus (first | (simp; done) | (simp; omega))) | (with_reducible refine Bk.below ?_ (by with_reducible assumption)))); obtain ⟨kcAp, kfAp, kaAp, kgAp, klAp⟩ := kAp.rules; go_simp; exact rfl); (try simp only [Act.put, List.setIfInBounds_toArray, List.set_cons_zero, List.set_cons_succ])) | ((refine wpGo_skip rfl rfl ?_); (try simp only [Act.put, List.setIfInBounds_toArray, List.set_cons_zero, List.set_cons_succ])))
                refine wpGo_nil ?_
                simp only [List.drop_succ_cons, List.drop_zero]
                clear kc kf ka kg kl
                obtain ⟨kc, kf, ka, kg, kl⟩ := iA.drew.rules
                have nR := iR.drew.far (p := ⟨gA, 0, none⟩) (by simp; omega) (.int .i64 v1.r)
                have nA : Bk _ gA 81 #[.int .i64 v1.r, .int .i64 v0.g, .int .i64 v0.b, .int .i64 v0.a] := iA.drew.set 0 (.int .i64 v1.r)
                have nS := (kS.far (p := ⟨gR, 0, none⟩) (by simp; omega) (.int .i64 z1.r)).drew.far (p := ⟨gA, 0, none⟩) (by simp; omega) (.int .i64 v1.r)
                have nO := (kO.far (p := ⟨gR, 0, none⟩) (by simp; omega) (.int .i64 z1.r)).drew.far (p := ⟨gA, 0, none⟩) (by simp; omega) (.int .i64 v1.r)
                have nT := (kT.far (p := ⟨gR, 0, none⟩) (by simp; omega) (.int .i64 z1.r)).drew.far (p := ⟨gA, 0, none⟩) (by simp; omega) (.int .i64 v1.r)
                have no := (ho.away (p := ⟨gR, 0, none⟩) (by simp; omega) (.int .i64 z1.r)).drew.away (p := ⟨gA, 0, none⟩) (by simp; omega) (.int .i64 v1.r)
                have hb5 := bset (p := ⟨gA, 0, none⟩) (bset (p := ⟨gR, 0, none⟩) hbw (by show _ ≤ gR; omega) (.int .i64 z1.r)).drew (by show _ ≤ gA; omega) (.int .i64 v1.r)
                go_wp2
                go_roundw
                case rel => exact ⟨0 + 1, mixq (0 + 1) z1 z, mixq (0 + 1) v1 v0, by omega, by go_num, rfl, rfl, nS, nO, nT, no, nR, nA, hb5⟩
                case measure => simp [intOf]
              · have hx : mixq 1 z1 z = x := HX.out
                have hy : mixq 1 v1 v0 = y := HY.out
                subst hx hy
                have kR : Bk wr gR 81 #[.int .i64 z1.r, .int .i64 z.g, .int .i64 z.b, .int .i64 z.a] := kR
                have kA : Bk wr gA 81 #[.int .i64 v1.r, .int .i64 v0.g, .int .i64 v0.b, .int .i64 v0.a] := kA
                have e1 : z.g + px.g = z1.g := congrArg Px.g HZE.out
                have e2 : v0.g + z1.g = v1.g := congrArg Px.g HVE.out
                have f1 : IntKind.i64.wrap (z.g + px.g) = z1.g := by rw [← e1]; exact IntWalk.i64_in _ (by omega)
                have f2 : IntKind.i64.wrap (v0.g + z1.g) = v1.g := by rw [← e2]; exact IntWalk.i64_in _ (by omega)
                have hix := ix4_1 px
                obtain ⟨kc, kf, ka, kg, kl⟩ := kR.rules
                have iR : Bk _ gR 81 #[.int .i64 z1.r, .int .i64 z1.g, .int .i64 z.b, .int .i64 z.a] := kR.set 1 (.int .i64 z1.g)
                have iA := kA.far (p := ⟨gR, 1, none⟩) (by simp; omega) (.int .i64 z1.g)
                go_wp2_with fail
                refine wp_region_gob 8 [(0, true), (1, true), (2, true), (3, true), (4, true), (5, true), (6, true), (7, true)] (by kernel_rfl) (by kernel_rfl) (fun c a d v w h => by cases d <;> exact h) ?_
                repeat (first | (refine wpGo_pure (v := ?_) rfl rfl (fun w' hS => ?_) ?_; rotate_left; (· have kRp : Bk w' (gR) 81 #[.int .i64 z1.r, .int .i64 z1.g, .int .i64 z.b, .int .i64 z.a] := (by repeat (first | (with_reducible assumption) | ((with_reducible refine Bk.new _ _ _ ?_); first | (with_reducible rfl) | (simp; done)) | (with_reducible refine Bk.alloc ?_ _) | (with_reducible refine Bk.drew ?_) | (with_reducible refine Bk.drewN ?_ _) | ((with_reducible refine Bk.far ?_ ?_ _); rotate_left; focus (first | (simp; done) | (simp; omega))) | (with_reducible refine Bk.below ?_ (by with_reducible assumption)))); obtain ⟨kcRp, kfRp, kaRp, kgRp, klRp⟩ := kRp.rules; have kAp : Bk w' (gA) 81 #[.int .i64 v1.r, .int .i64 v0.g, .int .i64 v0.b, .int .i64 v0.a] := (by repeat (first | (with_reducible assumption) | ((with_reducible refine Bk.new _ _ _ ?_); first | (with_reducible rfl) | (simp; done)) | (with_reducible refine Bk.alloc ?_ _) | (with_reducible refine Bk.drew ?_) | (with_reducible refine Bk.drewN ?_ _) | ((with_reducible refine Bk.far ?_ ?_ _); rotate_left; focus (first | (simp; done) | (simp; omega))) | (with_reducible refine Bk.below ?_ (by with_reducible assumption)))); obtain ⟨kcAp, kfAp, kaAp, kgAp, klAp⟩ := kAp.rules; go_simp; exact rfl); (try simp only [Act.put, List.setIfInBounds_toArray, List.set_cons_zero, List.set_cons_succ])) | ((refine wpGo_skip rfl rfl ?_); (try simp only [Act.put, List.setIfInBounds_toArray, List.set_cons_zero, List.set_cons_succ])))
                refine wpGo_nil ?_
                simp only [List.drop_succ_cons, List.drop_zero]
                clear kc kf ka kg kl
                obtain ⟨kc, kf, ka, kg, kl⟩ := iA.drew.rules
                have nR := iR.drew.far (p := ⟨gA, 1, none⟩) (by simp; omega) (.int .i64 v1.g)
                have nA : Bk _ gA 81 #[.int .i64 v1.r, .int .i64 v1.g, .int .i64 v0.b, .int .i64 v0.a] := iA.drew.set 1 (.int .i64 v1.g)
                have nS := (kS.far (p := ⟨gR, 1, none⟩) (by simp; omega) (.int .i64 z1.g)).drew.far (p := ⟨gA, 1, none⟩) (by simp; omega) (.int .i64 v1.g)
                have nO := (kO.far (p := ⟨gR, 1, none⟩) (by simp; omega) (.int .i64 z1.g)).drew.far (p := ⟨gA, 1, none⟩) (by simp; omega) (.int .i64 v1.g)
                have nT := (kT.far (p := ⟨gR, 1, none⟩) (by simp; omega) (.int .i64 z1.g)).drew.far (p := ⟨gA, 1, none⟩) (by simp; omega) (.int .i64 v1.g)
                have no := (ho.away (p := ⟨gR, 1, none⟩) (by simp; omega) (.int .i64 z1.g)).drew.away (p := ⟨gA, 1, none⟩) (by simp; omega) (.int .i64 v1.g)
                have hb5 := bset (p := ⟨gA, 1, none⟩) (bset (p := ⟨gR, 1, none⟩) hbw (by show _ ≤ gR; omega) (.int .i64 z1.g)).drew (by show _ ≤ gA; omega) (.int .i64 v1.g)
                go_wp2
                go_roundw
                case rel => exact ⟨1 + 1, mixq (1 + 1) z1 z, mixq (1 + 1) v1 v0, by omega, by go_num, rfl, rfl, nS, nO, nT, no, nR, nA, hb5⟩
                case measure => simp [intOf]
              · have hx : mixq 2 z1 z = x := HX.out
                have hy : mixq 2 v1 v0 = y := HY.out
                subst hx hy
                have kR : Bk wr gR 81 #[.int .i64 z1.r, .int .i64 z1.g, .int .i64 z.b, .int .i64 z.a] := kR
                have kA : Bk wr gA 81 #[.int .i64 v1.r, .int .i64 v1.g, .int .i64 v0.b, .int .i64 v0.a] := kA
                have e1 : z.b + px.b = z1.b := congrArg Px.b HZE.out
                have e2 : v0.b + z1.b = v1.b := congrArg Px.b HVE.out
                have f1 : IntKind.i64.wrap (z.b + px.b) = z1.b := by rw [← e1]; exact IntWalk.i64_in _ (by omega)
                have f2 : IntKind.i64.wrap (v0.b + z1.b) = v1.b := by rw [← e2]; exact IntWalk.i64_in _ (by omega)
                have hix := ix4_2 px
                obtain ⟨kc, kf, ka, kg, kl⟩ := kR.rules
                have iR : Bk _ gR 81 #[.int .i64 z1.r, .int .i64 z1.g, .int .i64 z1.b, .int .i64 z.a] := kR.set 2 (.int .i64 z1.b)
                have iA := kA.far (p := ⟨gR, 2, none⟩) (by simp; omega) (.int .i64 z1.b)
                go_wp2_with fail
                refine wp_region_gob 8 [(0, true), (1, true), (2, true), (3, true), (4, true), (5, true), (6, true), (7, true)] (by kernel_rfl) (by kernel_rfl) (fun c a d v w h => by cases d <;> exact h) ?_
                repeat (first | (refine wpGo_pure (v := ?_) rfl rfl (fun w' hS => ?_) ?_; rotate_left; (· have kRp : Bk w' (gR) 81 #[.int .i64 z1.r, .int .i64 z1.g, .int .i64 z1.b, .int .i64 z.a] := (by repeat (first | (with_reducible assumption) | ((with_reducible refine Bk.new _ _ _ ?_); first | (with_reducible rfl) | (simp; done)) | (with_reducible refine Bk.alloc ?_ _) | (with_reducible refine Bk.drew ?_) | (with_reducible refine Bk.drewN ?_ _) | ((with_reducible refine Bk.far ?_ ?_ _); rotate_left; focus (first | (simp; done) | (simp; omega))) | (with_reducible refine Bk.below ?_ (by with_reducible assumption)))); obtain ⟨kcRp, kfRp, kaRp, kgRp, klRp⟩ := kRp.rules; have kAp : Bk w' (gA) 81 #[.int .i64 v1.r, .int .i64 v1.g, .int .i64 v0.b, .int .i64 v0.a] := (by repeat (first | (with_reducible assumption) | ((with_reducible refine Bk.new _ _ _ ?_); first | (with_reducible rfl) | (simp; done)) | (with_reducible refine Bk.alloc ?_ _) | (with_reducible refine Bk.drew ?_) | (with_reducible refine Bk.drewN ?_ _) | ((with_reducible refine Bk.far ?_ ?_ _); rotate_left; focus (first | (simp; done) | (simp; omega))) | (with_reducible refine Bk.below ?_ (by with_reducible assumption)))); obtain ⟨kcAp, kfAp, kaAp, kgAp, klAp⟩ := kAp.rules; go_simp; exact rfl); (try simp only [Act.put, List.setIfInBounds_toArray, List.set_cons_zero, List.set_cons_succ])) | ((refine wpGo_skip rfl rfl ?_); (try simp only [Act.put, List.setIfInBounds_toArray, List.set_cons_zero, List.set_cons_succ])))
                refine wpGo_nil ?_
                simp only [List.drop_succ_cons, List.drop_zero]
                clear kc kf ka kg kl
                obtain ⟨kc, kf, ka, kg, kl⟩ := iA.drew.rules
                have nR := iR.drew.far (p := ⟨gA, 2, none⟩) (by simp; omega) (.int .i64 v1.b)
                have nA : Bk _ gA 81 #[.int .i64 v1.r, .int .i64 v1.g, .int .i64 v1.b, .int .i64 v0.a] := iA.drew.set 2 (.int .i64 v1.b)
                have nS := (kS.far (p := ⟨gR, 2, none⟩) (by simp; omega) (.int .i64 z1.b)).drew.far (p := ⟨gA, 2, none⟩) (by simp; omega) (.int .i64 v1.b)
                have nO := (kO.far (p := ⟨gR, 2, none⟩) (by simp; omega) (.int .i64 z1.b)).drew.far (p := ⟨gA, 2, none⟩) (by simp; omega) (.int .i64 v1.b)
                have nT := (kT.far (p := ⟨gR, 2, none⟩) (by simp; omega) (.int .i64 z1.b)).drew.far (p := ⟨gA, 2, none⟩) (by simp; omega) (.int .i64 v1.b)
                have no := (ho.away (p := ⟨gR, 2, none⟩) (by simp; omega) (.int .i64 z1.b)).drew.away (p := ⟨gA, 2, none⟩) (by simp; omega) (.int .i64 v1.b)
                have hb5 := bset (p := ⟨gA, 2, none⟩) (bset (p := ⟨gR, 2, none⟩) hbw (by show _ ≤ gR; omega) (.int .i64 z1.b)).drew (by show _ ≤ gA; omega) (.int .i64 v1.b)
                go_wp2
                go_roundw
                case rel => exact ⟨2 + 1, mixq (2 + 1) z1 z, mixq (2 + 1) v1 v0, by omega, by go_num, rfl, rfl, nS, nO, nT, no, nR, nA, hb5⟩
                case measure => simp [intOf]
              · have hx : mixq 3 z1 z = x := HX.out
                have hy : mixq 3 v1 v0 = y := HY.out
                subst hx hy
                have kR : Bk wr gR 81 #[.int .i64 z1.r, .int .i64 z1.g, .int .i64 z1.b, .int .i64 z.a] := kR
                have kA : Bk wr gA 81 #[.int .i64 v1.r, .int .i64 v1.g, .int .i64 v1.b, .int .i64 v0.a] := kA
                have e1 : z.a + px.a = z1.a := congrArg Px.a HZE.out
                have e2 : v0.a + z1.a = v1.a := congrArg Px.a HVE.out
                have f1 : IntKind.i64.wrap (z.a + px.a) = z1.a := by rw [← e1]; exact IntWalk.i64_in _ (by omega)
                have f2 : IntKind.i64.wrap (v0.a + z1.a) = v1.a := by rw [← e2]; exact IntWalk.i64_in _ (by omega)
                have hix := ix4_3 px
                obtain ⟨kc, kf, ka, kg, kl⟩ := kR.rules
                have iR : Bk _ gR 81 #[.int .i64 z1.r, .int .i64 z1.g, .int .i64 z1.b, .int .i64 z1.a] := kR.set 3 (.int .i64 z1.a)
                have iA := kA.far (p := ⟨gR, 3, none⟩) (by simp; omega) (.int .i64 z1.a)
                go_wp2_with fail
                refine wp_region_gob 8 [(0, true), (1, true), (2, true), (3, true), (4, true), (5, true), (6, true), (7, true)] (by kernel_rfl) (by kernel_rfl) (fun c a d v w h => by cases d <;> exact h) ?_
                repeat (first | (refine wpGo_pure (v := ?_) rfl rfl (fun w' hS => ?_) ?_; rotate_left; (· have kRp : Bk w' (gR) 81 #[.int .i64 z1.r, .int .i64 z1.g, .int .i64 z1.b, .int .i64 z1.a] := (by repeat (first | (with_reducible assumption) | ((with_reducible refine Bk.new _ _ _ ?_); first | (with_reducible rfl) | (simp; done)) | (with_reducible refine Bk.alloc ?_ _) | (with_reducible refine Bk.drew ?_) | (with_reducible refine Bk.drewN ?_ _) | ((with_reducible refine Bk.far ?_ ?_ _); rotate_left; focus (first | (simp; done) | (simp; omega))) | (with_reducible refine Bk.below ?_ (by with_reducible assumption)))); obtain ⟨kcRp, kfRp, kaRp, kgRp, klRp⟩ := kRp.rules; have kAp : Bk w' (gA) 81 #[.int .i64 v1.r, .int .i64 v1.g, .int .i64 v1.b, .int .i64 v0.a] := (by repeat (first | (with_reducible assumption) | ((with_reducible refine Bk.new _ _ _ ?_); first | (with_reducible rfl) | (simp; done)) | (with_reducible refine Bk.alloc ?_ _) | (with_reducible refine Bk.drew ?_) | (with_reducible refine Bk.drewN ?_ _) | ((with_reducible refine Bk.far ?_ ?_ _); rotate_left; focus (first | (simp; done) | (simp; omega))) | (with_reducible refine Bk.below ?_ (by with_reducible assumption)))); obtain ⟨kcAp, kfAp, kaAp, kgAp, klAp⟩ := kAp.rules; go_simp; exact rfl); (try simp only [Act.put, List.setIfInBounds_toArray, List.set_cons_zero, List.set_cons_succ])) | ((refine wpGo_skip rfl rfl ?_); (try simp only [Act.put, List.setIfInBounds_toArray, List.set_cons_zero, List.set_cons_succ])))
                refine wpGo_nil ?_
                simp only [List.drop_succ_cons, List.drop_zero]
                clear kc kf ka kg kl
                obtain ⟨kc, kf, ka, kg, kl⟩ := iA.drew.rules
                have nR := iR.drew.far (p := ⟨gA, 3, none⟩) (by simp; omega) (.int .i64 v1.a)
                have nA : Bk _ gA 81 #[.int .i64 v1.r, .int .i64 v1.g, .int .i64 v1.b, .int .i64 v1.a] := iA.drew.set 3 (.int .i64 v1.a)
                have nS := (kS.far (p := ⟨gR, 3, none⟩) (by simp; omega) (.int .i64 z1.a)).drew.far (p := ⟨gA, 3, none⟩) (by simp; omega) (.int .i64 v1.a)
                have nO := (kO.far (p := ⟨gR, 3, none⟩) (by simp; omega) (.int .i64 z1.a)).drew.far (p := ⟨gA, 3, none⟩) (by simp; omega) (.int .i64 v1.a)
                have nT := (kT.far (p := ⟨gR, 3, none⟩) (by simp; omega) (.int .i64 z1.a)).drew.far (p := ⟨gA, 3, none⟩) (by simp; omega) (.int .i64 v1.a)
                have no := (ho.away (p := ⟨gR, 3, none⟩) (by simp; omega) (.int .i64 z1.a)).drew.away (p := ⟨gA, 3, none⟩) (by simp; omega) (.int .i64 v1.a)
                have hb5 := bset (p := ⟨gA, 3, none⟩) (bset (p := ⟨gR, 3, none⟩) hbw (by show _ ≤ gR; omega) (.int .i64 z1.a)).drew (by show _ ≤ gA; omega) (.int .i64 v1.a)
                go_wp2
                go_roundw
                case rel => exact ⟨3 + 1, mixq (3 + 1) z1 z, mixq (3 + 1) v1 v0, by omega, by go_num, rfl, rfl, nS, nO, nT, no, nR, nA, hb5⟩
                case measure => simp [intOf]
            · obtain rfl : c = 4 := by omega
              have hx : z1 = x := HX.out
              have hy : v1 = y := HY.out
              subst hx hy
              have hix := tix_cast wd (k + 1) (j + 1)
              have hil := tix_lt (wd := wd) (ht := ht) (i := k + 1) (j := j + 1) (by omega) (by omega)
              obtain ⟨b0, b1⟩ := tix_bd (wd := wd) (ht := ht) (i := k + 1) (j := j + 1) (by omega) (by omega) h1 h2
              have hst := HT.out.step hlx hlt
              rw [HV1.out] at hst
              rw [HN.out] at hil
              rw [show (((j + 1 : Nat)) : Int) = (j : Int) + 1 by simp] at hix b0 b1
              rw [show (((k + 1 : Nat)) : Int) = (k : Int) + 1 by simp] at hix
              generalize tix wd (k + 1) (j + 1) = e at *
              have f5 : ((j : Int) + 1) * ((wd : Int) + 1) + (k : Int) + 1 = (e : Int) := by omega
              have f6 : (0 : Int) ≤ (e : Int) := by omega
              have f7 : (e : Int) < (N : Int) := by omega
              have hem : e < m.length := by rw [HML.out]; exact hil
              have s0 := (World.ownsRow.cellAt (g := gT) (by have h := ho; rw [← HML.out] at h; exact h) (e * 4 + 0) (by have := HML.out; omega)).trans (flat_at encI_len m e hem 0 _ rfl)
              have s1 := (World.ownsRow.cellAt (g := gT) (by have h := ho; rw [← HML.out] at h; exact h) (e * 4 + 1) (by have := HML.out; omega)).trans (flat_at encI_len m e hem 1 _ rfl)
              have s2 := (World.ownsRow.cellAt (g := gT) (by have h := ho; rw [← HML.out] at h; exact h) (e * 4 + 2) (by have := HML.out; omega)).trans (flat_at encI_len m e hem 2 _ rfl)
              have s3 := (World.ownsRow.cellAt (g := gT) (by have h := ho; rw [← HML.out] at h; exact h) (e * 4 + 3) (by have := HML.out; omega)).trans (flat_at encI_len m e hem 3 _ rfl)
              rw [Nat.add_zero] at s0
              obtain ⟨g', cap, cur, hvv, hbg, kG, hcap, hmx, hsz, htk⟩ := ho.block (by intro h; rw [h] at hem; simp at hem)
              have hgg : gT = g' := by injection hvv with h _ _; injection h with h; injection h
              subst hgg
              have kfG := kG.rules.2.1
              have klG := kG.lt
              have hst4 := OwnL.store4 ho hem HML.out.symm v1
              have HST := Lib.hid hst
              obtain ⟨kc, kf, ka, kg, kl⟩ := kT.rules
              obtain ⟨kc', kf', ka', kg', kl'⟩ := kA.rules
              have nSG : w.heap.size ≠ gT := by omega
              have nOG : w.heap.size + 1 ≠ gT := by omega
              have nTG : w.heap.size + 1 + 1 ≠ gT := by omega
              have nRG : gR ≠ gT := by omega
              have jS := (((kS.far (p := ⟨gT, e * 4, none⟩) nSG (.int .i64 v1.r)).far (p := ⟨gT, e * 4 + 1, none⟩) nSG (.int .i64 v1.g)).far (p := ⟨gT, e * 4 + 2, none⟩) nSG (.int .i64 v1.b)).far (p := ⟨gT, e * 4 + 3, none⟩) nSG (.int .i64 v1.a)
              have jO := (((kO.far (p := ⟨gT, e * 4, none⟩) nOG (.int .i64 v1.r)).far (p := ⟨gT, e * 4 + 1, none⟩) nOG (.int .i64 v1.g)).far (p := ⟨gT, e * 4 + 2, none⟩) nOG (.int .i64 v1.b)).far (p := ⟨gT, e * 4 + 3, none⟩) nOG (.int .i64 v1.a)
              have jT := (((kT.far (p := ⟨gT, e * 4, none⟩) nTG (.int .i64 v1.r)).far (p := ⟨gT, e * 4 + 1, none⟩) nTG (.int .i64 v1.g)).far (p := ⟨gT, e * 4 + 2, none⟩) nTG (.int .i64 v1.b)).far (p := ⟨gT, e * 4 + 3, none⟩) nTG (.int .i64 v1.a)
              have jR := (((kR.far (p := ⟨gT, e * 4, none⟩) nRG (.int .i64 v1.r)).far (p := ⟨gT, e * 4 + 1, none⟩) nRG (.int .i64 v1.g)).far (p := ⟨gT, e * 4 + 2, none⟩) nRG (.int .i64 v1.b)).far (p := ⟨gT, e * 4 + 3, none⟩) nRG (.int .i64 v1.a)
              have hb5 := bset (p := ⟨gT, e * 4 + 3, none⟩) (bset (p := ⟨gT, e * 4 + 2, none⟩) (bset (p := ⟨gT, e * 4 + 1, none⟩) (bset (p := ⟨gT, e * 4, none⟩) hbw (by show _ ≤ gT; omega) (.int .i64 v1.r)) (by show _ ≤ gT; omega) (.int .i64 v1.g)) (by show _ ≤ gT; omega) (.int .i64 v1.b)) (by show _ ≤ gT; omega) (.int .i64 v1.a)
              clear hvv hsz htk hmx hcap kG hst hix b0 b1 ho kS kO kT kR kA
              go_wp2
              go_roundw
              case rel => exact ⟨k + 1, m.set e v1, z1, by omega, by go_num, jS, jO, jT, hst4, HST.out, hb5, HZ1, jR⟩
              case measure => simp [intOf]; omega
        · have hkw : k = wd := by omega
          have HT2 : TabI b.l wd ht (j + 1) 0 m := by have h := HT.out; rw [hkw] at h; exact h.next
          go_wp2
          go_roundw
          case rel => exact ⟨j + 1, m, by omega, by go_num, kS, kO, kT, ho, HT2, hbw⟩
          case measure => simp [intOf]; omega
    · have hjh : j = ht := by omega
      have HT2 : TabOk b.l wd ht m := by have h := HT.out; rw [hjh] at h; exact h.ok
      have hml : m.length = N := by rw [HT2.1, HN.out]
      have HTL := Lib.hid (And.intro HT2 hml)
      obtain ⟨kc, kf, ka, kg, kl⟩ := kT.rules
      obtain ⟨kc', kf', ka', kg', kl'⟩ := kO.rules
      have o1 := ho.setFar kO (by decide) 0 (.int .i64 (wd : Int))
      have m1 := kO.set 0 (.int .i64 (wd : Int))
      have o2 := o1.setFar m1 (by decide) 1 (.int .i64 (ht : Int))
      have m2 := m1.set 1 (.int .i64 (ht : Int))
      have o3 := o2.setFar m2 (by decide) 2 (.slice (some ⟨gT, 0, none⟩) N N)
      obtain ⟨A0, c0, hv0, hr0, _⟩ := o3.form encI_len
      have hA0 : A0 = some ⟨gT, 0, none⟩ := by injection hv0 with h _ _; exact h.symm
      rw [hA0] at hr0
      have HR0 := Lib.hid hr0
      clear o1 o2 m1 m2 o3 hml HT2 hv0 hr0 hjh
      go_wp2
      refine bodyPost_ret (v := _) ?_ rfl ⟨some ⟨gT, 0, none⟩, N, N, m, rfl, HR0.out, HTL.out.2, HTL.out.1, (by repeat (first | (with_reducible exact Below.refl _ _) | (with_reducible refine balloc ?_ _) | (with_reducible refine Below.drew ?_) | (with_reducible refine bdrewN ?_ _) | ((with_reducible refine bset ?_ ?_ _); rotate_left; focus (first | (with_reducible exact Nat.le_refl _) | (simp; done) | (simp; omega) | omega)) | (with_reducible refine bstep (by with_reducible assumption) ?_)))⟩
      simp [results, Try.results83, go_sem, kc']
end Go.Proofs.Ytnefnnhnjmmebaa
