/-
  The walk of grisailleref30.Histogram.
-/
import Derived.Test.YtnefnnhnjmmebaaHistP
import Derived.Test.YtnefnnhnjmmebaaBm7
import Derived.Test.YtnefnnhnjmmebaaOpenB
namespace Go.Proofs.Ytnefnnhnjmmebaa
open Go.RowKit
set_option linter.unusedSimpArgs false
set_option linter.unusedVariables false

theorem h_run_build (w : World) : (Instr.build 37 #[]).run Try.prog w = .ok (.agg (tabH zF)) w := run_build w _ _ _ (by rw [tab_def]; kernel_rfl)
theorem h_same (w : World) (g : Nat) (h : g = w.heap.size) : (storeCells ⟨g, 0, none⟩ (tabH zF).toList 0).run Try.prog (w.alloc (.cells (tabH zF) 37)) = .ok () (w.alloc (.cells (tabH zF) 37)) := by
  subst h
  rw [h_run_cells (Bk.new _ _ _ rfl), World.setRow_alloc_new]
set_option maxRecDepth 100000 in
set_option maxHeartbeats 6400000 in
theorem rhist_core (r : Rc) (A : Option Addr) (n c0 : Nat) (l : List Px) (w : World) (hr : RdL encP 4 w A l) (hln : l.length = n) (hpx : pxsB l) (hnb : n ≤ 100000000) :
    Calls Try.prog 20 #[.agg #[.int .i64 r.x0, .int .i64 r.y0, .int .i64 r.x1, .int .i64 r.y1, .slice A n c0]] w fun e w' => e = .returned (.agg (tabH (hiL r l))) ∧ Below w.heap.size w w' := by
  have HRD := Lib.hid hr
  have HLN := Lib.hid hln
  have HPX := Lib.hid hpx
  have hal := h_run_alloc
  have hz37 := h_zero
  have hsz := tab_size
  have hb0 : Below w.heap.size w (((w.alloc (.cells #[.int .i64 r.x0, .int .i64 r.y0, .int .i64 r.x1, .int .i64 r.y1, .slice A n c0] 28)).alloc (.cells (tabH zF) 37)).alloc (.cells (tabH zF) 37)) := balloc (balloc (balloc (Below.refl _ _) _) _) _
  have kB0 : Bk (((w.alloc (.cells #[.int .i64 r.x0, .int .i64 r.y0, .int .i64 r.x1, .int .i64 r.y1, .slice A n c0] 28)).alloc (.cells (tabH zF) 37)).alloc (.cells (tabH zF) 37)) w.heap.size 28 #[.int .i64 r.x0, .int .i64 r.y0, .int .i64 r.x1, .int .i64 r.y1, .slice A n c0] := ((Bk.new _ _ _ rfl).alloc _).alloc _
  have kR0 : Bk (((w.alloc (.cells #[.int .i64 r.x0, .int .i64 r.y0, .int .i64 r.x1, .int .i64 r.y1, .slice A n c0] 28)).alloc (.cells (tabH zF) 37)).alloc (.cells (tabH zF) 37)) (w.heap.size + 1) 37 (tabH zF) := (Bk.new _ _ _ (by simp)).alloc _
  have kT0 : Bk (((w.alloc (.cells #[.int .i64 r.x0, .int .i64 r.y0, .int .i64 r.x1, .int .i64 r.y1, .slice A n c0] 28)).alloc (.cells (tabH zF) 37)).alloc (.cells (tabH zF) 37)) (w.heap.size + 1 + 1) 37 (tabH zF) := Bk.new _ _ _ (by simp)
  have hbd := h_run_build
  have hsm := h_same ((w.alloc (.cells #[.int .i64 r.x0, .int .i64 r.y0, .int .i64 r.x1, .int .i64 r.y1, .slice A n c0] 28)).alloc (.cells (tabH zF) 37)) (w.heap.size + 1 + 1) (by simp)
  clear hr hln hpx
  cases vb : bmValid r l with
  | false =>
    have Hvb : Hid (bmValid r l = false) := vb
    have e1 : hiL r l = zF := by unfold hiL; rw [vb]; rfl
    rw [e1]
    clear e1 vb
    go_enter Try.func20, Try.ntmps20
    obtain ⟨kc, kf, ka, kg, kl⟩ := kB0.rules
    go_wp2_with fail
    refine (rbvalid_any r A n c0 l _ (HRD.out.below hb0) HLN.out (by omega) false Hvb).mono ?_
    rintro e w1 ⟨rfl, hb1⟩
    have hBZ := bstep hb1 hb0
    have kRZ := kR0.below hb1
    have kTZ := kT0.below hb1
    have hld := h_run_load kTZ
    have hld2 := h_run_loads kTZ
    have hst := h_run_cells (F := zF) kRZ
    clear kc kf ka kg
    go_wp2_with (first | (refine wpList_load_row rfl 37 _ rfl _ rfl _ _ _ _ kTZ Try.underlying37 rfl (h_size.trans (congrArg some (tab_size _).symm)) ?_) | (refine wpList_store_row rfl 37 _ _ rfl _ _ rfl rfl _ _ kRZ (h_size.trans (congrArg some (tab_size _).symm)) (by rw [tab_size, tab_size]) (tab_all _) ?_))
    refine bodyPost_ret (v := _) ?_ rfl ⟨rfl, brow hBZ (by omega) _⟩
    exact results_cell_row rfl _ _ _ _ _ _ _ rfl (kRZ.row _) Try.underlying37 rfl (h_size.trans (congrArg some (tab_size _).symm))
  | true =>
    have Hvb : Hid (bmValid r l = true) := vb
    have e1 : hiL r l = histF (l.take n) := by unfold hiL; rw [vb, ← HLN.out, List.take_length]; rfl
    rw [e1]
    clear e1 vb
    go_enter Try.func20, Try.ntmps20
    obtain ⟨kc, kf, ka, kg, kl⟩ := kB0.rules
    go_wp2_with fail
    refine (rbvalid_any r A n c0 l _ (HRD.out.below hb0) HLN.out (by omega) true Hvb).mono ?_
    rintro e w1 ⟨rfl, hb1⟩
    have hB1 := bstep hb1 hb0
    have kB1 := kB0.below hb1
    have kR1 := kR0.below hb1
    have kT1 := kT0.below hb1
    clear kc kf ka kg kl kB0 kR0 kT0 hb0 hb1
    go_wp2_with fail
    go_loopw [4] (fun i wr => ∃ k : Nat, k ≤ n ∧ i = .int .i64 (k : Int) ∧ Bk wr w.heap.size 28 #[.int .i64 r.x0, .int .i64 r.y0, .int .i64 r.x1, .int .i64 r.y1, .slice A n c0] ∧ Bk wr (w.heap.size + 1) 37 (tabH zF) ∧ Bk wr (w.heap.size + 1 + 1) 37 (tabH (histF (l.take k))) ∧ Below w.heap.size w wr) (fun i _ => n - (intOf i).toNat)
    case atStart => exact ⟨0, Nat.zero_le _, rfl, kB1, kR1, kT1, hB1⟩
    case round =>
      clear kB1 kR1 kT1 hB1
      obtain ⟨k, hk, rfl, jB, jR, jT, hbw⟩ := hrel
      obtain ⟨kc, kf, ka, kg, kl⟩ := jB.rules
      by_cases hlt : k < n
      · have hkl : k < l.length := by have := HLN.out; omega
        obtain ⟨gb, ob, rfl, hg, hcA⟩ := rdp (HRD.out.below hbw) hkl
        obtain ⟨p, Hp⟩ : ∃ p, Hid (l[k] = p) := ⟨l[k], rfl⟩
        rw [Hp.out] at hcA
        obtain ⟨d0, d1, d2, d3⟩ := hcA
        have hpb := HPX.out _ (List.getElem_mem hkl)
        rw [Hp.out] at hpb
        have HPB := Lib.hid hpb
        obtain ⟨p0, p1, p2, p3, p4, p5, p6, p7⟩ := hpb
        have HT4 : Hid (stepC (histF (l.take k)) p 4 = histF (l.take (k + 1))) := by unfold Hid; rw [hist_take hkl, Hp.out]
        have hin := hist_in (l.take k)
        have HIN : Hid (inH (histF (l.take k)) 400000000) := by
          unfold Hid; intro i
          have h1 := hin i
          have h2 : (l.take k).length ≤ k := by rw [List.length_take]; omega
          omega
        have i0 : (0 : Int) ≤ (k : Int) := by omega
        have i1 : (k : Int) < (n : Int) := by omega
        obtain ⟨F, HF⟩ : ∃ F, Hid (histF (l.take k) = F) := ⟨_, rfl⟩
        rw [HF.out] at HT4 HIN jT
        have c1 : p.r < 256 ∧ p.g < 256 ∧ p.b < 256 ∧ p.a < 256 := by omega
        obtain ⟨b0, b1, b2, b3⟩ := c1
        have sP : w.heap.size + 1 + 1 < wr.heap.size := jT.lt
        clear hin
        have g0T := jT
        have g0B := jB
        have g0R := jR
        have g0W := hbw
        obtain ⟨kcT, kfT, kaT, kgT, klT⟩ := jT.rules
        obtain ⟨x0, Hx0⟩ : ∃ x, Hid (F (p.r.toNat) = x) := ⟨_, rfl⟩
        have hxb0 := HIN.out (p.r.toNat)
        rw [Hx0.out] at hxb0
        have hcell0 : (tabH F)[p.r.toNat]? = some (.int .i64 x0) := by rw [tab_get _ (by omega), Hx0.out]
        have hgx0 : stepC F p 0 (p.r.toNat) = x0 := by
          have h := stepC_same HPB.out F 0 (p.r.toNat) 0 (Nat.le_refl _)
          rw [show 0 * 256 + p.r.toNat = p.r.toNat by omega] at h
          rw [h]; exact Hx0.out
        have hst0 : stepC F p 1 = incH (stepC F p 0) (p.r.toNat) := by simp [stepC, pxc]
        have hset : (tabH (stepC F p 0)).setIfInBounds (p.r.toNat) (.int .i64 (x0 + 1)) = tabH (stepC F p 1) := by rw [hst0, ← hgx0]; exact tab_set _ (by omega)
        have g1T : Bk _ (w.heap.size + 1 + 1) 37 ((tabH (stepC F p 0)).setIfInBounds (p.r.toNat) (.int .i64 (x0 + 1))) := g0T.set (p.r.toNat) (.int .i64 (x0 + 1))
        rw [hset] at g1T
        have g1B := g0B.far (p := ⟨w.heap.size + 1 + 1, p.r.toNat, none⟩) (by simp; omega) (.int .i64 (x0 + 1))
        have g1R := g0R.far (p := ⟨w.heap.size + 1 + 1, p.r.toNat, none⟩) (by simp) (.int .i64 (x0 + 1))
        have g1W := bset g0W (p := ⟨w.heap.size + 1 + 1, p.r.toNat, none⟩) (by show _ ≤ w.heap.size + 1 + 1; omega) (.int .i64 (x0 + 1))
        clear hset hst0 hgx0 g0T g0B g0R g0W
        obtain ⟨x1, Hx1⟩ : ∃ x, Hid (F (256 + p.g.toNat) = x) := ⟨_, rfl⟩
        have hxb1 := HIN.out (256 + p.g.toNat)
        rw [Hx1.out] at hxb1
        have hcell1 : (tabH F)[256 + p.g.toNat]? = some (.int .i64 x1) := by rw [tab_get _ (by omega), Hx1.out]
        have hgx1 : stepC F p 1 (256 + p.g.toNat) = x1 := by
          have h := stepC_same HPB.out F 1 (p.g.toNat) 1 (Nat.le_refl _)
          rw [show 1 * 256 + p.g.toNat = 256 + p.g.toNat by omega] at h
          rw [h]; exact Hx1.out
        have hst1 : stepC F p 2 = incH (stepC F p 1) (256 + p.g.toNat) := by simp [stepC, pxc]
        have hset : (tabH (stepC F p 1)).setIfInBounds (256 + p.g.toNat) (.int .i64 (x1 + 1)) = tabH (stepC F p 2) := by rw [hst1, ← hgx1]; exact tab_set _ (by omega)
        have g2T : Bk _ (w.heap.size + 1 + 1) 37 ((tabH (stepC F p 1)).setIfInBounds (256 + p.g.toNat) (.int .i64 (x1 + 1))) := g1T.set (256 + p.g.toNat) (.int .i64 (x1 + 1))
        rw [hset] at g2T
        have g2B := g1B.far (p := ⟨w.heap.size + 1 + 1, 256 + p.g.toNat, none⟩) (by simp; omega) (.int .i64 (x1 + 1))
        have g2R := g1R.far (p := ⟨w.heap.size + 1 + 1, 256 + p.g.toNat, none⟩) (by simp) (.int .i64 (x1 + 1))
        have g2W := bset g1W (p := ⟨w.heap.size + 1 + 1, 256 + p.g.toNat, none⟩) (by show _ ≤ w.heap.size + 1 + 1; omega) (.int .i64 (x1 + 1))
        clear hset hst1 hgx1 g1T g1B g1R g1W
        obtain ⟨x2, Hx2⟩ : ∃ x, Hid (F (512 + p.b.toNat) = x) := ⟨_, rfl⟩
        have hxb2 := HIN.out (512 + p.b.toNat)
        rw [Hx2.out] at hxb2
        have hcell2 : (tabH F)[512 + p.b.toNat]? = some (.int .i64 x2) := by rw [tab_get _ (by omega), Hx2.out]
        have hgx2 : stepC F p 2 (512 + p.b.toNat) = x2 := by
          have h := stepC_same HPB.out F 2 (p.b.toNat) 2 (Nat.le_refl _)
          rw [show 2 * 256 + p.b.toNat = 512 + p.b.toNat by omega] at h
          rw [h]; exact Hx2.out
        have hst2 : stepC F p 3 = incH (stepC F p 2) (512 + p.b.toNat) := by simp [stepC, pxc]
        have hset : (tabH (stepC F p 2)).setIfInBounds (512 + p.b.toNat) (.int .i64 (x2 + 1)) = tabH (stepC F p 3) := by rw [hst2, ← hgx2]; exact tab_set _ (by omega)
        have g3T : Bk _ (w.heap.size + 1 + 1) 37 ((tabH (stepC F p 2)).setIfInBounds (512 + p.b.toNat) (.int .i64 (x2 + 1))) := g2T.set (512 + p.b.toNat) (.int .i64 (x2 + 1))
        rw [hset] at g3T
        have g3B := g2B.far (p := ⟨w.heap.size + 1 + 1, 512 + p.b.toNat, none⟩) (by simp; omega) (.int .i64 (x2 + 1))
        have g3R := g2R.far (p := ⟨w.heap.size + 1 + 1, 512 + p.b.toNat, none⟩) (by simp) (.int .i64 (x2 + 1))
        have g3W := bset g2W (p := ⟨w.heap.size + 1 + 1, 512 + p.b.toNat, none⟩) (by show _ ≤ w.heap.size + 1 + 1; omega) (.int .i64 (x2 + 1))
        clear hset hst2 hgx2 g2T g2B g2R g2W
        obtain ⟨x3, Hx3⟩ : ∃ x, Hid (F (768 + p.a.toNat) = x) := ⟨_, rfl⟩
        have hxb3 := HIN.out (768 + p.a.toNat)
        rw [Hx3.out] at hxb3
        have hcell3 : (tabH F)[768 + p.a.toNat]? = some (.int .i64 x3) := by rw [tab_get _ (by omega), Hx3.out]
        have hgx3 : stepC F p 3 (768 + p.a.toNat) = x3 := by
          have h := stepC_same HPB.out F 3 (p.a.toNat) 3 (Nat.le_refl _)
          rw [show 3 * 256 + p.a.toNat = 768 + p.a.toNat by omega] at h
          rw [h]; exact Hx3.out
        have hst3 : stepC F p 4 = incH (stepC F p 3) (768 + p.a.toNat) := by simp [stepC, pxc]
        have hset : (tabH (stepC F p 3)).setIfInBounds (768 + p.a.toNat) (.int .i64 (x3 + 1)) = tabH (stepC F p 4) := by rw [hst3, ← hgx3]; exact tab_set _ (by omega)
        have g4T : Bk _ (w.heap.size + 1 + 1) 37 ((tabH (stepC F p 3)).setIfInBounds (768 + p.a.toNat) (.int .i64 (x3 + 1))) := g3T.set (768 + p.a.toNat) (.int .i64 (x3 + 1))
        rw [hset] at g4T
        have g4B := g3B.far (p := ⟨w.heap.size + 1 + 1, 768 + p.a.toNat, none⟩) (by simp; omega) (.int .i64 (x3 + 1))
        have g4R := g3R.far (p := ⟨w.heap.size + 1 + 1, 768 + p.a.toNat, none⟩) (by simp) (.int .i64 (x3 + 1))
        have g4W := bset g3W (p := ⟨w.heap.size + 1 + 1, 768 + p.a.toNat, none⟩) (by show _ ≤ w.heap.size + 1 + 1; omega) (.int .i64 (x3 + 1))
        clear hset hst3 hgx3 g3T g3B g3R g3W
        rw [HT4.out] at g4T
        have mT := g4T.alloc (.cells #[.int .u8 p.r, .int .u8 p.g, .int .u8 p.b, .int .u8 p.a] 25)
        have mB := g4B.alloc (.cells #[.int .u8 p.r, .int .u8 p.g, .int .u8 p.b, .int .u8 p.a] 25)
        have mR := g4R.alloc (.cells #[.int .u8 p.r, .int .u8 p.g, .int .u8 p.b, .int .u8 p.a] 25)
        have mW := balloc g4W (.cells #[.int .u8 p.r, .int .u8 p.g, .int .u8 p.b, .int .u8 p.a] 25)
        clear g4T g4B g4R g4W jT jB jR hbw
        go_wp2
        go_roundw
        case rel => exact ⟨k + 1, by omega, by go_num, mB, mR, mT, mW⟩
        case measure => simp [intOf]; omega
      · have hkn : k = n := by omega
        rw [hkn] at jT
        have hBZ := hbw
        have kRZ := jR
        have kTZ := jT
        have hld := h_run_load kTZ
        have hld2 := h_run_loads kTZ
        have hst := h_run_cells (F := histF (l.take n)) kRZ
        clear hbw jR jT
        go_wp2_with (first | (refine wpList_load_row rfl 37 _ rfl _ rfl _ _ _ _ kTZ Try.underlying37 rfl (h_size.trans (congrArg some (tab_size _).symm)) ?_) | (refine wpList_store_row rfl 37 _ _ rfl _ _ rfl rfl _ _ kRZ (h_size.trans (congrArg some (tab_size _).symm)) (by rw [tab_size, tab_size]) (tab_all _) ?_))
        refine bodyPost_ret (v := _) ?_ rfl ⟨rfl, brow hBZ (by omega) _⟩
        exact results_cell_row rfl _ _ _ _ _ _ _ rfl (kRZ.row _) Try.underlying37 rfl (h_size.trans (congrArg some (tab_size _).symm))
theorem rhist_any (b : Bm) (w : World) (hb : b.ok w) (hnb : b.n ≤ 100000000) :
    Calls Try.prog 20 #[.agg #[.int .i64 b.r.x0, .int .i64 b.r.y0, .int .i64 b.r.x1, .int .i64 b.r.y1, .slice b.A b.n b.c]] w fun e w' => e = .returned (.agg (tabH (hiF b))) ∧ Below w.heap.size w w' := rhist_core b.r b.A b.n b.c b.l w hb.rd hb.ln hb.byte hnb
end Go.Proofs.Ytnefnnhnjmmebaa
