/-
  The walk of bitmap.Histogram.
-/
import Derived.Test.YtnefnnhnjmmebaaHistP
import Derived.Test.YtnefnnhnjmmebaaSum1
import Derived.Test.YtnefnnhnjmmebaaBm2
import Derived.Test.YtnefnnhnjmmebaaBm7
import Derived.Test.YtnefnnhnjmmebaaOpenB
namespace Go.Proofs.Ytnefnnhnjmmebaa
open Go.RowKit
set_option linter.unusedSimpArgs false
set_option linter.unusedVariables false

theorem ixh_0 (p : Px) (w : World) : (Instr.index 81 (.agg #[.int .i64 p.r, .int .i64 p.g, .int .i64 p.b, .int .i64 p.a]) (.int .i64 0)).run Try.prog w = .ok (.int .i64 p.r) w := by kernel_rfl
theorem ixh_1 (p : Px) (w : World) : (Instr.index 81 (.agg #[.int .i64 p.r, .int .i64 p.g, .int .i64 p.b, .int .i64 p.a]) (.int .i64 1)).run Try.prog w = .ok (.int .i64 p.g) w := by kernel_rfl
theorem ixh_2 (p : Px) (w : World) : (Instr.index 81 (.agg #[.int .i64 p.r, .int .i64 p.g, .int .i64 p.b, .int .i64 p.a]) (.int .i64 2)).run Try.prog w = .ok (.int .i64 p.b) w := by kernel_rfl
theorem ixh_3 (p : Px) (w : World) : (Instr.index 81 (.agg #[.int .i64 p.r, .int .i64 p.g, .int .i64 p.b, .int .i64 p.a]) (.int .i64 3)).run Try.prog w = .ok (.int .i64 p.a) w := by kernel_rfl
set_option maxRecDepth 100000 in
set_option maxHeartbeats 6400000 in
theorem hist_core (r : Rc) (A : Option Addr) (n c0 : Nat) (l : List Px) (w : World) (hr : RdL encP 4 w A l) (hln : l.length = n) (hpx : pxsB l) (hnb : n ≤ 100000000) :
    Calls Try.prog 19 #[.agg #[.int .i64 r.x0, .int .i64 r.y0, .int .i64 r.x1, .int .i64 r.y1, .slice A n c0]] w fun e w' => e = .returned (.agg (tabH (hiL r l))) ∧ Below w.heap.size w w' := by
  have HRD := Lib.hid hr
  have HLN := Lib.hid hln
  have HPX := Lib.hid hpx
  have hal := h_run_alloc
  have hz37 := h_zero
  have hsz := tab_size
  have hb0 : Below w.heap.size w (((w.alloc (.cells #[.int .i64 r.x0, .int .i64 r.y0, .int .i64 r.x1, .int .i64 r.y1, .slice A n c0] 28)).alloc (.cells (tabH zF) 37)).alloc (.cells (tabH zF) 37)) := balloc (balloc (balloc (Below.refl _ _) _) _) _
  have kB0 : Bk (((w.alloc (.cells #[.int .i64 r.x0, .int .i64 r.y0, .int .i64 r.x1, .int .i64 r.y1, .slice A n c0] 28)).alloc (.cells (tabH zF) 37)).alloc (.cells (tabH zF) 37)) w.heap.size 28 #[.int .i64 r.x0, .int .i64 r.y0, .int .i64 r.x1, .int .i64 r.y1, .slice A n c0] := ((Bk.new _ _ _ rfl).alloc _).alloc _
  have kR0 : Bk (((w.alloc (.cells #[.int .i64 r.x0, .int .i64 r.y0, .int .i64 r.x1, .int .i64 r.y1, .slice A n c0] 28)).alloc (.cells (tabH zF) 37)).alloc (.cells (tabH zF) 37)) (w.heap.size + 1) 37 (tabH zF) := (Bk.new _ _ _ (by simp)).alloc _
  have kT0 : Bk (((w.alloc (.cells #[.int .i64 r.x0, .int .i64 r.y0, .int .i64 r.x1, .int .i64 r.y1, .slice A n c0] 28)).alloc (.cells (tabH zF) 37)).alloc (.cells (tabH zF) 37)) (w.heap.size + 1 + 1) 37 (tabH zF) := Bk.new _ _ _ (by simp)
  clear hr hln hpx
  cases vb : bmValid r l with
  | false =>
    have Hvb : Hid (bmValid r l = false) := vb
    have e1 : hiL r l = zF := by unfold hiL; rw [vb]; rfl
    rw [e1]
    clear e1 vb
    go_enter Try.func19, Try.ntmps19
    obtain ⟨kc, kf, ka, kg, kl⟩ := kB0.rules
    go_wp2_with fail
    refine (bvalid_any r A n c0 l _ (HRD.out.below hb0) HLN.out (by omega) false Hvb).mono ?_
    rintro e w1 ⟨rfl, hb1⟩
    have hBZ := bstep hb1 hb0
    have kRZ := kR0.below hb1
    have kTZ := kT0.below hb1
    have hld := h_run_load kTZ
    have hld2 := h_run_loads kTZ
    have hst := h_run_cells (F := zF) kRZ
    clear kc kf ka kg
    go_wp2_with (first | (refine wpList_load_row rfl 37 _ rfl _ rfl _ _ _ _ kTZ Try.underlying37 rfl (h_size.trans (congrArg some (tab_size _).symm)) ?_) | (refine wpList_store_row rfl 37 _ _ rfl _ _ rfl rfl _ _ kRZ (h_size.trans (congrArg some (tab_size _).symm)) (by rw [tab_size, tab_size]) (tab_all _) ?_))
    refine bodyPost_ret (v := _) ?_ rfl ⟨rfl, brow hBZ (by omega) _⟩
    exact results_cell_row rfl _ _ _ _ _ _ _ rfl (kRZ.row _) Try.underlying37 rfl (h_size.trans (congrArg some (tab_size _).symm))
  | true =>
    have Hvb : Hid (bmValid r l = true) := vb
    have e1 : hiL r l = histF (l.take n) := by unfold hiL; rw [vb, ← HLN.out, List.take_length]; rfl
    rw [e1]
    clear e1 vb
    go_enter Try.func19, Try.ntmps19
    obtain ⟨kc, kf, ka, kg, kl⟩ := kB0.rules
    go_wp2_with fail
    refine (bvalid_any r A n c0 l _ (HRD.out.below hb0) HLN.out (by omega) true Hvb).mono ?_
    rintro e w1 ⟨rfl, hb1⟩
    have hB1 := bstep hb1 hb0
    have kB1 := kB0.below hb1
    have kR1 := kR0.below hb1
    have kT1 := kT0.below hb1
    clear kc kf ka kg kl kB0 kR0 kT0 hb0 hb1
    obtain ⟨kc, kf, ka, kg, kl⟩ := kB1.rules
    go_wp2_with fail
    clear kc kf ka kg kl
    go_loopw [15] (fun i wr => ∃ k : Nat, k ≤ n ∧ i = .int .i64 (k : Int) ∧ Bk wr w.heap.size 28 #[.int .i64 r.x0, .int .i64 r.y0, .int .i64 r.x1, .int .i64 r.y1, .slice A n c0] ∧ Bk wr (w.heap.size + 1) 37 (tabH zF) ∧ Bk wr (w.heap.size + 1 + 1) 37 (tabH (histF (l.take k))) ∧ Below w.heap.size w wr) (fun i _ => n - (intOf i).toNat)
    case atStart => exact ⟨0, Nat.zero_le _, rfl, kB1, kR1, kT1, hB1⟩
    case round =>
      clear kB1 kR1 kT1 hB1
      obtain ⟨k, hk, rfl, jB, jR, jT, hbw⟩ := hrel
      by_cases hlt : k < n
      · have hkl : k < l.length := by have := HLN.out; omega
        obtain ⟨gb, ob, rfl, hg, hcA⟩ := rdp (HRD.out.below hbw) hkl
        obtain ⟨p, Hp⟩ : ∃ p, Hid (l[k] = p) := ⟨l[k], rfl⟩
        rw [Hp.out] at hcA
        obtain ⟨d0, d1, d2, d3⟩ := hcA
        have hpb := HPX.out _ (List.getElem_mem hkl)
        rw [Hp.out] at hpb
        have HPB := Lib.hid hpb
        have HT4 : Hid (stepC (histF (l.take k)) p 4 = histF (l.take (k + 1))) := by unfold Hid; rw [hist_take hkl, Hp.out]
        have hin := hist_in (l.take k)
        have HIN : Hid (inH (histF (l.take k)) 400000000) := by
          unfold Hid; intro i
          have h1 := hin i
          have h2 : (l.take k).length ≤ k := by rw [List.length_take]; omega
          omega
        have i0 : (0 : Int) ≤ (k : Int) := by omega
        have i1 : (k : Int) < (n : Int) := by omega
        obtain ⟨F, HF⟩ : ∃ F, Hid (histF (l.take k) = F) := ⟨_, rfl⟩
        rw [HF.out] at HT4 HIN jT
        obtain ⟨kc, kf, ka, kg, kl⟩ := jB.rules
        clear hin hpb
        go_wp2_with fail
        refine (parts_any p _ HPB.out).mono ?_
        rintro e w2 ⟨rfl, hb2⟩
        have qB := (jB.alloc (.cells #[.int .u8 p.r, .int .u8 p.g, .int .u8 p.b, .int .u8 p.a] 25)).below hb2
        have qR := (jR.alloc (.cells #[.int .u8 p.r, .int .u8 p.g, .int .u8 p.b, .int .u8 p.a] 25)).below hb2
        have qT := (jT.alloc (.cells #[.int .u8 p.r, .int .u8 p.g, .int .u8 p.b, .int .u8 p.a] 25)).below hb2
        have hB2 := bstep hb2 (balloc hbw (.cells #[.int .u8 p.r, .int .u8 p.g, .int .u8 p.b, .int .u8 p.a] 25))
        clear kc kf ka kg kl d0 d1 d2 d3 jB jR jT hbw hb2
        go_wp2_with fail
        go_loopw [21] (fun i wr => ∃ c : Nat, c ≤ 4 ∧ i = .int .i64 (c : Int) ∧ Bk wr w.heap.size 28 #[.int .i64 r.x0, .int .i64 r.y0, .int .i64 r.x1, .int .i64 r.y1, .slice (some ⟨gb, ob, none⟩) n c0] ∧ Bk wr (w.heap.size + 1) 37 (tabH zF) ∧ Bk wr (w.heap.size + 1 + 1) 37 (tabH (stepC F p c)) ∧ Below w.heap.size w wr) (fun i _ => 4 - (intOf i).toNat)
        case atStart => exact ⟨0, Nat.zero_le _, rfl, qB, qR, qT, hB2⟩
        case round =>
          clear qB qR qT hB2
          obtain ⟨c, hc, rfl, jB, jR, jT, hbw⟩ := hrel
          have hGI := inH_step HIN.out p c
          obtain ⟨p0, p1, p2, p3, p4, p5, p6, p7⟩ := HPB.out
          have hcs : c = 0 ∨ c = 1 ∨ c = 2 ∨ c = 3 ∨ c = 4 := by omega
          rcases hcs with hc0 | hc0 | hc0 | hc0 | hc0
          · subst hc0
            have hst : stepC F p 1 = incH (stepC F p 0) (p.r.toNat) := by simp [stepC, pxc]
            obtain ⟨G, HG⟩ : ∃ G, Hid (stepC F p 0 = G) := ⟨_, rfl⟩
            rw [HG.out] at hGI jT hst
            obtain ⟨x, Hx⟩ : ∃ x, Hid (G (p.r.toNat) = x) := ⟨_, rfl⟩
            have hxb := hGI (p.r.toNat)
            rw [Hx.out] at hxb
            have hcell : (tabH G)[p.r.toNat]? = some (.int .i64 x) := by rw [tab_get _ (by omega), Hx.out]
            have hset : (tabH G).setIfInBounds (p.r.toNat) (.int .i64 (x + 1)) = tabH (stepC F p 1) := by rw [hst, ← Hx.out]; exact tab_set G (by omega)
            have hw : IntKind.i64.wrap (x + 1) = x + 1 := IntWalk.i64_in _ (by omega)
            have b1 : p.r < 256 := by omega
            have hix := ixh_0 p
            have HST := Lib.hid hset
            clear hst hset hGI
            go_wp2_with fail
            refine wp_region_gob 8 [(0, true), (1, true), (2, true), (3, true), (4, true), (5, true), (6, true), (7, true)] (by kernel_rfl) (by kernel_rfl) (fun c a d v w h => by cases d <;> exact h) ?_
            repeat (first | (refine wpGo_pure (v := ?_) rfl rfl (fun w' hS => ?_) ?_; rotate_left; (· obtain ⟨kc0, kf0, ka0, kg0, kl0⟩ := (jT.below hS).rules; go_simp; exact rfl); (try simp only [Act.put, List.setIfInBounds_toArray, List.set_cons_zero, List.set_cons_succ])) | ((refine wpGo_skip rfl rfl ?_); (try simp only [Act.put, List.setIfInBounds_toArray, List.set_cons_zero, List.set_cons_succ])))
            refine wpGo_nil ?_
            simp only [List.drop_succ_cons, List.drop_zero]
            have jTd := jT.drew
            obtain ⟨kc1, kf1, ka1, kg1, kl1⟩ := jTd.rules
            have mT := jTd.set (p.r.toNat) (.int .i64 (x + 1))
            rw [HST.out] at mT
            have mB := jB.drew.far (p := ⟨w.heap.size + 1 + 1, p.r.toNat, none⟩) (by simp; omega) (.int .i64 (x + 1))
            have mR := jR.drew.far (p := ⟨w.heap.size + 1 + 1, p.r.toNat, none⟩) (by simp) (.int .i64 (x + 1))
            have hBm := bset hbw.drew (p := ⟨w.heap.size + 1 + 1, p.r.toNat, none⟩) (by show _ ≤ w.heap.size + 1 + 1; omega) (.int .i64 (x + 1))
            clear jTd jT jB jR hbw
            go_wp2
            go_roundw
            case rel => exact ⟨1, by omega, rfl, mB, mR, mT, hBm⟩
            case measure => simp [intOf]
          · subst hc0
            have hst : stepC F p 2 = incH (stepC F p 1) (256 + p.g.toNat) := by simp [stepC, pxc]
            obtain ⟨G, HG⟩ : ∃ G, Hid (stepC F p 1 = G) := ⟨_, rfl⟩
            rw [HG.out] at hGI jT hst
            obtain ⟨x, Hx⟩ : ∃ x, Hid (G (256 + p.g.toNat) = x) := ⟨_, rfl⟩
            have hxb := hGI (256 + p.g.toNat)
            rw [Hx.out] at hxb
            have hcell : (tabH G)[256 + p.g.toNat]? = some (.int .i64 x) := by rw [tab_get _ (by omega), Hx.out]
            have hset : (tabH G).setIfInBounds (256 + p.g.toNat) (.int .i64 (x + 1)) = tabH (stepC F p 2) := by rw [hst, ← Hx.out]; exact tab_set G (by omega)
            have hw : IntKind.i64.wrap (x + 1) = x + 1 := IntWalk.i64_in _ (by omega)
            have b1 : p.g < 256 := by omega
            have hix := ixh_1 p
            have HST := Lib.hid hset
            clear hst hset hGI
            go_wp2_with fail
            refine wp_region_gob 8 [(0, true), (1, true), (2, true), (3, true), (4, true), (5, true), (6, true), (7, true)] (by kernel_rfl) (by kernel_rfl) (fun c a d v w h => by cases d <;> exact h) ?_
            repeat (first | (refine wpGo_pure (v := ?_) rfl rfl (fun w' hS => ?_) ?_; rotate_left; (· obtain ⟨kc0, kf0, ka0, kg0, kl0⟩ := (jT.below hS).rules; go_simp; exact rfl); (try simp only [Act.put, List.setIfInBounds_toArray, List.set_cons_zero, List.set_cons_succ])) | ((refine wpGo_skip rfl rfl ?_); (try simp only [Act.put, List.setIfInBounds_toArray, List.set_cons_zero, List.set_cons_succ])))
            refine wpGo_nil ?_
            simp only [List.drop_succ_cons, List.drop_zero]
            have jTd := jT.drew
            obtain ⟨kc1, kf1, ka1, kg1, kl1⟩ := jTd.rules
            have mT := jTd.set (256 + p.g.toNat) (.int .i64 (x + 1))
            rw [HST.out] at mT
            have mB := jB.drew.far (p := ⟨w.heap.size + 1 + 1, 256 + p.g.toNat, none⟩) (by simp; omega) (.int .i64 (x + 1))
            have mR := jR.drew.far (p := ⟨w.heap.size + 1 + 1, 256 + p.g.toNat, none⟩) (by simp) (.int .i64 (x + 1))
            have hBm := bset hbw.drew (p := ⟨w.heap.size + 1 + 1, 256 + p.g.toNat, none⟩) (by show _ ≤ w.heap.size + 1 + 1; omega) (.int .i64 (x + 1))
            clear jTd jT jB jR hbw
            go_wp2
            go_roundw
            case rel => exact ⟨2, by omega, rfl, mB, mR, mT, hBm⟩
            case measure => simp [intOf]
          · subst hc0
            have hst : stepC F p 3 = incH (stepC F p 2) (512 + p.b.toNat) := by simp [stepC, pxc]
            obtain ⟨G, HG⟩ : ∃ G, Hid (stepC F p 2 = G) := ⟨_, rfl⟩
            rw [HG.out] at hGI jT hst
            obtain ⟨x, Hx⟩ : ∃ x, Hid (G (512 + p.b.toNat) = x) := ⟨_, rfl⟩
            have hxb := hGI (512 + p.b.toNat)
            rw [Hx.out] at hxb
            have hcell : (tabH G)[512 + p.b.toNat]? = some (.int .i64 x) := by rw [tab_get _ (by omega), Hx.out]
            have hset : (tabH G).setIfInBounds (512 + p.b.toNat) (.int .i64 (x + 1)) = tabH (stepC F p 3) := by rw [hst, ← Hx.out]; exact tab_set G (by omega)
            have hw : IntKind.i64.wrap (x + 1) = x + 1 := IntWalk.i64_in _ (by omega)
            have b1 : p.b < 256 := by omega
            have hix := ixh_2 p
            have HST := Lib.hid hset
            clear hst hset hGI
            go_wp2_with fail
            refine wp_region_gob 8 [(0, true), (1, true), (2, true), (3, true), (4, true), (5, true), (6, true), (7, true)] (by kernel_rfl) (by kernel_rfl) (fun c a d v w h => by cases d <;> exact h) ?_
            repeat (first | (refine wpGo_pure (v := ?_) rfl rfl (fun w' hS => ?_) ?_; rotate_left; (· obtain ⟨kc0, kf0, ka0, kg0, kl0⟩ := (jT.below hS).rules; go_simp; exact rfl); (try simp only [Act.put, List.setIfInBounds_toArray, List.set_cons_zero, List.set_cons_succ])) | ((refine wpGo_skip rfl rfl ?_); (try simp only [Act.put, List.setIfInBounds_toArray, List.set_cons_zero, List.set_cons_succ])))
            refine wpGo_nil ?_
            simp only [List.drop_succ_cons, List.drop_zero]
            have jTd := jT.drew
            obtain ⟨kc1, kf1, ka1, kg1, kl1⟩ := jTd.rules
            have mT := jTd.set (512 + p.b.toNat) (.int .i64 (x + 1))
            rw [HST.out] at mT
            have mB := jB.drew.far (p := ⟨w.heap.size + 1 + 1, 512 + p.b.toNat, none⟩) (by simp; omega) (.int .i64 (x + 1))
            have mR := jR.drew.far (p := ⟨w.heap.size + 1 + 1, 512 + p.b.toNat, none⟩) (by simp) (.int .i64 (x + 1))
            have hBm := bset hbw.drew (p := ⟨w.heap.size + 1 + 1, 512 + p.b.toNat, none⟩) (by show _ ≤ w.heap.size + 1 + 1; omega) (.int .i64 (x + 1))
            clear jTd jT jB jR hbw
            go_wp2
            go_roundw
            case rel => exact ⟨3, by omega, rfl, mB, mR, mT, hBm⟩
            case measure => simp [intOf]
          · subst hc0
            have hst : stepC F p 4 = incH (stepC F p 3) (768 + p.a.toNat) := by simp [stepC, pxc]
            obtain ⟨G, HG⟩ : ∃ G, Hid (stepC F p 3 = G) := ⟨_, rfl⟩
            rw [HG.out] at hGI jT hst
            obtain ⟨x, Hx⟩ : ∃ x, Hid (G (768 + p.a.toNat) = x) := ⟨_, rfl⟩
            have hxb := hGI (768 + p.a.toNat)
            rw [Hx.out] at hxb
            have hcell : (tabH G)[768 + p.a.toNat]? = some (.int .i64 x) := by rw [tab_get _ (by omega), Hx.out]
            have hset : (tabH G).setIfInBounds (768 + p.a.toNat) (.int .i64 (x + 1)) = tabH (stepC F p 4) := by rw [hst, ← Hx.out]; exact tab_set G (by omega)
            have hw : IntKind.i64.wrap (x + 1) = x + 1 := IntWalk.i64_in _ (by omega)
            have b1 : p.a < 256 := by omega
            have hix := ixh_3 p
            have HST := Lib.hid hset
            clear hst hset hGI
            go_wp2_with fail
            refine wp_region_gob 8 [(0, true), (1, true), (2, true), (3, true), (4, true), (5, true), (6, true), (7, true)] (by kernel_rfl) (by kernel_rfl) (fun c a d v w h => by cases d <;> exact h) ?_
            repeat (first | (refine wpGo_pure (v := ?_) rfl rfl (fun w' hS => ?_) ?_; rotate_left; (· obtain ⟨kc0, kf0, ka0, kg0, kl0⟩ := (jT.below hS).rules; go_simp; exact rfl); (try simp only [Act.put, List.setIfInBounds_toArray, List.set_cons_zero, List.set_cons_succ])) | ((refine wpGo_skip rfl rfl ?_); (try simp only [Act.put, List.setIfInBounds_toArray, List.set_cons_zero, List.set_cons_succ])))
            refine wpGo_nil ?_
            simp only [List.drop_succ_cons, List.drop_zero]
            have jTd := jT.drew
            obtain ⟨kc1, kf1, ka1, kg1, kl1⟩ := jTd.rules
            have mT := jTd.set (768 + p.a.toNat) (.int .i64 (x + 1))
            rw [HST.out] at mT
            have mB := jB.drew.far (p := ⟨w.heap.size + 1 + 1, 768 + p.a.toNat, none⟩) (by simp; omega) (.int .i64 (x + 1))
            have mR := jR.drew.far (p := ⟨w.heap.size + 1 + 1, 768 + p.a.toNat, none⟩) (by simp) (.int .i64 (x + 1))
            have hBm := bset hbw.drew (p := ⟨w.heap.size + 1 + 1, 768 + p.a.toNat, none⟩) (by show _ ≤ w.heap.size + 1 + 1; omega) (.int .i64 (x + 1))
            clear jTd jT jB jR hbw
            go_wp2
            go_roundw
            case rel => exact ⟨4, by omega, rfl, mB, mR, mT, hBm⟩
            case measure => simp [intOf]
          · subst hc0
            rw [HT4.out] at jT
            go_wp2
            go_roundw
            case rel => exact ⟨k + 1, by omega, by go_num, jB, jR, jT, hbw⟩
            case measure => simp [intOf]; omega
      · have hkn : k = n := by omega
        rw [hkn] at jT
        have hBZ := hbw
        have kRZ := jR
        have kTZ := jT
        have hld := h_run_load kTZ
        have hld2 := h_run_loads kTZ
        have hst := h_run_cells (F := histF (l.take n)) kRZ
        clear hbw jR jT
        go_wp2_with (first | (refine wpList_load_row rfl 37 _ rfl _ rfl _ _ _ _ kTZ Try.underlying37 rfl (h_size.trans (congrArg some (tab_size _).symm)) ?_) | (refine wpList_store_row rfl 37 _ _ rfl _ _ rfl rfl _ _ kRZ (h_size.trans (congrArg some (tab_size _).symm)) (by rw [tab_size, tab_size]) (tab_all _) ?_))
        refine bodyPost_ret (v := _) ?_ rfl ⟨rfl, brow hBZ (by omega) _⟩
        exact results_cell_row rfl _ _ _ _ _ _ _ rfl (kRZ.row _) Try.underlying37 rfl (h_size.trans (congrArg some (tab_size _).symm))
theorem hist_any (b : Bm) (w : World) (hb : b.ok w) (hnb : b.n ≤ 100000000) :
    Calls Try.prog 19 #[.agg #[.int .i64 b.r.x0, .int .i64 b.r.y0, .int .i64 b.r.x1, .int .i64 b.r.y1, .slice b.A b.n b.c]] w fun e w' => e = .returned (.agg (tabH (hiF b))) ∧ Below w.heap.size w w' := hist_core b.r b.A b.n b.c b.l w hb.rd hb.ln hb.byte hnb
end Go.Proofs.Ytnefnnhnjmmebaa
