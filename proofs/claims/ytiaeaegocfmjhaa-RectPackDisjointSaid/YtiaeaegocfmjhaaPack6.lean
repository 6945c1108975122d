/-
  The walk of grisailleref09.Pack.
-/
import Derived.Test.YtiaeaegocfmjhaaPack5
namespace Go.Proofs.Ytiaeaegocfmjhaa
open Go.RowKit
set_option linter.unusedSimpArgs false
set_option linter.unusedVariables false

set_option maxRecDepth 8000 in
set_option maxHeartbeats 2400000 in
theorem rpack_any (pw ph : Int) (A : Option Addr) (n c : Nat) (l : List (Int × Int)) (w : World) (hr : RdL encZ 2 w A l) (hn : l.length = n) :
    Calls Try.prog 41 #[.int .i64 pw, .int .i64 ph, .slice A n c] w (RetP (packR pw ph l) w) := by
  have HR := Lib.hid hr
  have Hn := Lib.hid hn
  clear hr hn
  obtain ⟨o, Ho⟩ : ∃ o, Hid (packR pw ph l = o) := ⟨_, rfl⟩
  rw [Ho.out]
  by_cases hg : sideB pw = true ∧ sideB ph = true ∧ n ≤ 1024
  · obtain ⟨g1, g2, g3⟩ := hg
    have s1 := sideB_true g1
    have s2 := sideB_true g2
    go_enter Try.func41, Try.ntmps41
    go_wp2_with fail
    refine (rside_any pw _).mono ?_
    rintro e w1 ⟨rfl, rfl⟩
    rw [g1]
    go_wp2_with fail
    refine (rside_any ph _).mono ?_
    rintro e w1 ⟨rfl, rfl⟩
    rw [g2]
    have g4 : decide ((1024 : Int) < (n : Int)) = false := by simp; omega
    go_wp2_with fail
    have hrw : w.heap.size ≤ w.heap.size := Nat.le_refl _
    go_loopw [8, 9, 10, 11] (fun v8 v9 y i wr => ∃ k : Nat, ∃ os ss nx, k ≤ n ∧ i = .int .i64 k ∧ y = .int .i64 nx ∧ Hid (runP pw ph (l.take k) = some (os, ss, nx)) ∧ Hid (∀ z ∈ l.take k, sizeB z = true) ∧ OwnL encS 67 3 wr w.heap.size v9 ss ∧ OwnL encR 23 4 wr w.heap.size v8 os ∧ Below w.heap.size w wr) (fun _ _ _ i _ => n - (intOf i).toNat)
    case atStart =>
      refine ⟨0, [], [], 0, Nat.zero_le _, rfl, rfl, rfl, fun z h => by simp at h, ?_, ?_, (by repeat (first | (with_reducible exact Below.refl _ _) | (with_reducible refine balloc ?_ _) | (with_reducible refine Below.drew ?_) | (with_reducible refine bdrewN ?_ _) | ((with_reducible refine bset ?_ ?_ _); rotate_left; focus (first | (with_reducible exact Nat.le_refl _) | (simp; done) | (simp; omega) | omega)) | (with_reducible refine bstep (by with_reducible assumption) ?_)))⟩
      · exact OwnL.lit (l := []) (cs := #[]) encS_len (by repeat (first | (with_reducible assumption) | ((with_reducible refine Bk.new _ _ _ ?_); first | (with_reducible rfl) | (simp; done)) | (with_reducible refine Bk.alloc ?_ _) | (with_reducible refine Bk.drew ?_) | (with_reducible refine Bk.drewN ?_ _) | ((with_reducible refine Bk.far ?_ ?_ _); rotate_left; focus (first | (simp; done) | (simp; omega))) | (with_reducible refine Bk.below ?_ (by with_reducible assumption)))) (by omega) (by decide) rfl
      · exact OwnL.lit (l := []) (cs := #[]) encR_len (by repeat (first | (with_reducible assumption) | ((with_reducible refine Bk.new _ _ _ ?_); first | (with_reducible rfl) | (simp; done)) | (with_reducible refine Bk.alloc ?_ _) | (with_reducible refine Bk.drew ?_) | (with_reducible refine Bk.drewN ?_ _) | ((with_reducible refine Bk.far ?_ ?_ _); rotate_left; focus (first | (simp; done) | (simp; omega))) | (with_reducible refine Bk.below ?_ (by with_reducible assumption)))) (by omega) (by decide) rfl
    case round =>
      obtain ⟨q, os, ss, nx, hq, rfl, rfl, HQ, HM, hS, hO, hbw⟩ := hrel
      have hsz := hbw.size
      have hln : os.length ≤ 1024 ∧ ss.length ≤ 1024 := by have := run_len q l os ss nx (by have := Hn.out; omega) HQ.out; omega
      by_cases hlq : q < n
      · have hkl : q < l.length := by have := Hn.out; omega
        obtain ⟨g, o', rfl, hg, hc⟩ := rd2 (HR.out.below hbw) hkl
        obtain ⟨z, Hz⟩ : ∃ z, Hid (l[q] = z) := ⟨l[q], rfl⟩
        rw [Hz.out] at hc
        obtain ⟨c0, c1⟩ := hc
        have i0 : (0 : Int) ≤ (q : Int) := by omega
        obtain ⟨b1, Hb1⟩ : ∃ b, Hid (sideB z.1 = b) := ⟨_, rfl⟩
        obtain ⟨b2, Hb2⟩ : ∃ b, Hid (sideB z.2 = b) := ⟨_, rfl⟩
        have HO : Hid ((b1 && b2) = false → o = none) := fun h => by
          rw [← Ho.out]; unfold packR
          have : l.all sizeB = false := List.all_eq_false.2 ⟨z, by rw [← Hz.out]; exact List.getElem_mem hkl, by unfold sizeB; rw [Hb1.out, Hb2.out, h]; simp⟩
          rw [this]; simp
        have HPn : Hid (runP pw ph (l.take (q + 1)) = none → o = none) := fun h => by
          rw [← Ho.out]; unfold packR
          rw [run_none (q + 1) h]
          split <;> rfl
        have HT : Hid (runP pw ph (l.take (q + 1)) = stepP pw ph (some (os, ss, nx)) z) := by unfold Hid; rw [run_take _ _ _ hkl, HQ.out, Hz.out]
        have HM1 : Hid ((b1 && b2) = true → ∀ y ∈ l.take (q + 1), sizeB y = true) := fun h y hy => by
          rw [List.take_succ_eq_append_getElem hkl] at hy
          rcases List.mem_append.1 hy with hy | hy
          · exact HM.out y hy
          · have : y = z := by rw [← Hz.out]; simpa using hy
            subst this; unfold sizeB; rw [Hb1.out, Hb2.out]; exact h
        have Hok := Lib.hid (run_ok (by omega) q l os ss nx (by have := Hn.out; omega) HM.out HQ.out)
        have HA : Hid (∀ s ∈ ss, 0 ≤ s.u ∧ s.u ≤ pw) := fun s hm => (Hok.out.all s hm).2.2.2
        clear Hz hkl HQ HM
        obtain ⟨A9, c9, rfl, HRs, _⟩ := hS.form encS_len
        go_wp2_with fail
        refine (rside_any z.1 _).mono ?_
        rintro e w4 ⟨rfl, rfl⟩
        rw [Hb1.out]
        cases b1
        · have HO' : Hid (o = none) := HO.out rfl
          go_wp2
          rw [HO'.out]
          refine bodyPost_ret (v := _) ?_ rfl (RetP.no (by repeat (first | (with_reducible exact Below.refl _ _) | (with_reducible refine balloc ?_ _) | (with_reducible refine Below.drew ?_) | (with_reducible refine bdrewN ?_ _) | ((with_reducible refine bset ?_ ?_ _); rotate_left; focus (first | (with_reducible exact Nat.le_refl _) | (simp; done) | (simp; omega) | omega)) | (with_reducible refine bstep (by with_reducible assumption) ?_))))
          simp [results, Try.results41, go_sem]
        · go_wp2_with fail
          refine (rside_any z.2 _).mono ?_
          rintro e w4 ⟨rfl, rfl⟩
          rw [Hb2.out]
          cases b2
          · have HO' : Hid (o = none) := HO.out rfl
            go_wp2
            rw [HO'.out]
            refine bodyPost_ret (v := _) ?_ rfl (RetP.no (by repeat (first | (with_reducible exact Below.refl _ _) | (with_reducible refine balloc ?_ _) | (with_reducible refine Below.drew ?_) | (with_reducible refine bdrewN ?_ _) | ((with_reducible refine bset ?_ ?_ _); rotate_left; focus (first | (with_reducible exact Nat.le_refl _) | (simp; done) | (simp; omega) | omega)) | (with_reducible refine bstep (by with_reducible assumption) ?_))))
            simp [results, Try.results41, go_sem]
          · have HM' := Lib.hid (HM1.out rfl)
            have z1 := sideB_true Hb1.out
            have z2 := sideB_true Hb2.out
            clear HM1 HO Hb1 Hb2
            by_cases hwide : pw < z.1
            · have HF : Hid (o = none) := HPn.out (by rw [HT.out]; simp only [stepP]; unfold placeP; rw [if_pos hwide])
              have hdw : decide (pw < z.1) = true := by simpa using hwide
              go_wp2
              rw [HF.out]
              refine bodyPost_ret (v := _) ?_ rfl (RetP.no (by repeat (first | (with_reducible exact Below.refl _ _) | (with_reducible refine balloc ?_ _) | (with_reducible refine Below.drew ?_) | (with_reducible refine bdrewN ?_ _) | ((with_reducible refine bset ?_ ?_ _); rotate_left; focus (first | (with_reducible exact Nat.le_refl _) | (simp; done) | (simp; omega) | omega)) | (with_reducible refine bstep (by with_reducible assumption) ?_))))
              simp [results, Try.results41, go_sem]
            · have hdw : decide (pw < z.1) = false := by simpa using hwide
              go_wp2_with fail
              refine (rfit_any pw z.1 z.2 A9 ss.length c9 ss _ (HRs.below (by repeat (first | (with_reducible exact Below.refl _ _) | (with_reducible refine balloc ?_ _) | (with_reducible refine Below.drew ?_) | (with_reducible refine bdrewN ?_ _) | ((with_reducible refine bset ?_ ?_ _); rotate_left; focus (first | (with_reducible exact Nat.le_refl _) | (simp; done) | (simp; omega) | omega)) | (with_reducible refine bstep (by with_reducible assumption) ?_)))) rfl (by omega) (by omega) s1.2 HA.out).mono ?_
              rintro e w2 ⟨rfl, hb2a⟩
              obtain ⟨zb, hzb⟩ : ∃ zb, wr.heap.size = zb := ⟨_, rfl⟩
              rw [hzb]
              have kZ2 : Bk w2 zb 51 #[.int .i64 z.1, .int .i64 z.2] := Bk.below (Bk.new _ _ _ hzb.symm) hb2a
              have hb2 : Below wr.heap.size wr w2 := (by repeat (first | (with_reducible exact Below.refl _ _) | (with_reducible refine balloc ?_ _) | (with_reducible refine Below.drew ?_) | (with_reducible refine bdrewN ?_ _) | ((with_reducible refine bset ?_ ?_ _); rotate_left; focus (first | (with_reducible exact Nat.le_refl _) | (simp; done) | (simp; omega) | omega)) | (with_reducible refine bstep (by with_reducible assumption) ?_)))
              have hbw2 : Below w.heap.size w w2 := bstep hb2 hbw
              have hS2 := hS.below hb2
              have hO2 := hO.below hb2
              have hzl := kZ2.lt
              have hz2 := hbw2.size
              clear c0 c1 hdw hb2a
              cases hf : ss.findIdx? (fitsB pw z.1 z.2) with
              | some i =>
                obtain ⟨hi, hfit⟩ := find_some hf
                have hfv : findV pw z.1 z.2 ss = i := by unfold findV; rw [hf]
                obtain ⟨s, Hs⟩ : ∃ s, Hid (ss[i] = s) := ⟨ss[i], rfl⟩
                have hgd : ss.getD i ⟨0, 0, 0⟩ = s := by rw [List.getD_eq_getElem?_getD, List.getElem?_eq_getElem hi]; exact Hs.out
                have hs1 := Hok.out.all s (by rw [← Hs.out]; exact List.getElem_mem hi)
                have hn1 := Hok.out.n1
                have HF : Hid (runP pw ph (l.take (q + 1)) = some (os ++ [⟨s.u, s.t, s.u + z.1, s.t + z.2⟩], ss.set i ⟨s.t, s.h, s.u + z.1⟩, nx)) := by
                  unfold Hid
                  rw [HT.out]; simp only [stepP]; unfold placeP
                  rw [if_neg (by omega : ¬ pw < z.1), hf]
                  simp only [hgd]
                obtain ⟨g, c9', cur, hv9, hbg, kG2, _⟩ := hS2.block (by intro e; rw [e] at hi; simp at hi)
                obtain ⟨hA9, hn9, hc9⟩ : A9 = some ⟨g, 0, none⟩ ∧ ss.length = ss.length ∧ c9 = c9' := by injection hv9 with a b c; exact ⟨a, b, c⟩
                subst hA9 hc9
                obtain ⟨_, _, hA, _, c0, _, c2⟩ := rd3 (HRs.below hb2) (k := i) hi
                injection hA with hA
                injection hA with hA1 hA2 _
                subst hA1 hA2
                rw [Nat.zero_add, Hs.out] at c0 c2
                have d0 : cur[i * 3]? = some (.int .i64 s.t) := by rw [← kG2.rules.1]; exact c0
                have d2 : cur[i * 3 + 2]? = some (.int .i64 s.u) := by rw [← kG2.rules.1]; exact c2
                clear c0 c2
                rw [hfv]
                have i2 : ¬ ((i : Int) < 0) := by omega
                have kG3 := kG2
                have kZ3 := kZ2
                have hS3 := hS2
                have hO3 := hO2
                have hb3 := hbw2
                obtain ⟨w3, H3⟩ : ∃ w3, w2 = w3 := ⟨_, rfl⟩
                subst H3
                clear hfit hf hfv hgd Hok HT
                have e1 : IntKind.i64.wrap (s.u + z.1) = s.u + z.1 := IntWalk.i64_in _ (by omega)
                have e2 : IntKind.i64.wrap (s.t + z.2) = s.t + z.2 := IntWalk.i64_in _ (by omega)
                have i1 : (0 : Int) ≤ (i : Int) := by omega
                obtain ⟨kc3, kf3, ka3, kg3, kl3⟩ := kG3.rules
                obtain ⟨kcz, kfz, kaz, kgz, klz⟩ := kZ3.rules
                go_wp2_with fail
                clear kc3 kf3 ka3 kg3 kl3 kcz kfz kaz kgz klz
                refine wp_region_go 23 [(0, true), (1, true), (2, true), (3, true), (4, true), (5, true), (6, true), (7, true), (8, true), (9, true), (10, true), (11, true), (12, true), (13, true), (14, true), (15, true), (16, true), (17, true), (18, true), (19, true), (20, false), (21, false), (22, true)] (fun w' => Bk w' g 67 cur ∧ Bk w' zb 51 #[.int .i64 z.1, .int .i64 z.2]) (by kernel_rfl) (by kernel_rfl) (fun c a d v w h => by cases d <;> exact h) ⟨kG3.drew, kZ3.drew⟩ ?_
                repeat (refine wpGo_pure (v := ?_) rfl rfl (fun w' hS => ?_) ?_; rotate_left; (· obtain ⟨kcg, kfg, kag, kgg, klg⟩ := hS.1.rules; obtain ⟨kcz, kfz, kaz, kgz, klz⟩ := hS.2.rules; go_simp; exact rfl); (try simp only [Act.put, List.setIfInBounds_toArray, List.set_cons_zero, List.set_cons_succ]))
                refine wpGo_eff rfl (fun K hK => ?_)
                go_simp
                refine hK.out _ _ ⟨(kG3.alloc _), (kZ3.alloc _)⟩ (fun _ => ?_)
                clear hK K
                have ho4 := (hO3.alloc (.cells #[.int .i64 s.u, .int .i64 s.t, .int .i64 (s.u + z.1), .int .i64 (s.t + z.2)] 23)).drew
                have hz3 := hb3.size
                refine wpGo_effp rfl (fun K hK => ?_)
                refine wp_append_one encR_len encR_one 25 Try.infoRect rfl (by decide) (by decide) Try.underlying25 _ _ rfl w.heap.size _ os rfl ho4 w2.heap.size ⟨s.u, s.t, s.u + z.1, s.t + z.2⟩ rfl (Bk.new _ _ _ rfl) rfl (by omega) (by simp; omega) ?_
                intro v5 w5 ho5 hg5 hv5
                obtain ⟨g5, c5, hv5, _⟩ := hv5
                subst hv5
                have kG5 := (kG3.alloc (.cells #[.int .i64 s.u, .int .i64 s.t, .int .i64 (s.u + z.1), .int .i64 (s.t + z.2)] 23)).drew.grown hg5 (ho4.neBk (kG3.alloc (.cells #[.int .i64 s.u, .int .i64 s.t, .int .i64 (s.u + z.1), .int .i64 (s.t + z.2)] 23)).drew (by decide))
                have kZ5 := (kZ3.alloc (.cells #[.int .i64 s.u, .int .i64 s.t, .int .i64 (s.u + z.1), .int .i64 (s.t + z.2)] 23)).drew.grown hg5 (ho4.neBk (kZ3.alloc (.cells #[.int .i64 s.u, .int .i64 s.t, .int .i64 (s.u + z.1), .int .i64 (s.t + z.2)] 23)).drew (by decide))
                refine hK.out _ _ ⟨kG5, kZ5⟩ (fun _ => ?_)
                clear hK K
                simp only [Act.put, List.setIfInBounds_toArray, List.set_cons_zero, List.set_cons_succ]
                repeat (refine wpGo_pure (v := ?_) rfl rfl (fun w' hS => ?_) ?_; rotate_left; (· obtain ⟨kcg, kfg, kag, kgg, klg⟩ := hS.1.rules; obtain ⟨kcz, kfz, kaz, kgz, klz⟩ := hS.2.rules; go_simp; exact rfl); (try simp only [Act.put, List.setIfInBounds_toArray, List.set_cons_zero, List.set_cons_succ]))
                refine wpGo_nil ?_
                simp only [List.drop_succ_cons, List.drop_zero]
                have hS5 := (hS3.alloc (.cells #[.int .i64 s.u, .int .i64 s.t, .int .i64 (s.u + z.1), .int .i64 (s.t + z.2)] 23)).drew.grownFar ho4 (by decide) hg5
                have hS6 := hS5.storeAt encS_len hi 2 (.int .i64 (s.u + z.1)) ⟨s.t, s.h, s.u + z.1⟩ (by decide) (by rw [Hs.out]; rfl) rfl
                have ho6 := ho5.setFar kG5 (by decide) (i * 3 + 2) (.int .i64 (s.u + z.1))
                have hb5 := below_grown ho4 hg5 (balloc hb3 _).drew hrw
                have hb6 := bset hb5 (p := ⟨g, i * 3 + 2, none⟩) (by show w.heap.size ≤ g; omega) (.int .i64 (s.u + z.1))
                obtain ⟨kc5, kf5, ka5, kg5, kl5⟩ := kG5.rules
                obtain ⟨kcz, kfz, kaz, kgz, klz⟩ := kZ5.rules
                clear hg5
                go_wp2
                go_roundw
                case rel => exact ⟨q + 1, _, _, _, by omega, by go_num, rfl, HF, HM', hS6, ho6, hb6⟩
                case measure => simp [intOf]; omega
              | none =>
                have hfv : findV pw z.1 z.2 ss = -1 := by unfold findV; rw [hf]
                rw [hfv]
                have hn0 := Hok.out.n0
                have hn1 := Hok.out.n1
                have e0 : IntKind.i64.wrap (nx + z.2) = nx + z.2 := IntWalk.i64_in _ (by omega)
                obtain ⟨kcz2, kfz2, kaz2, kgz2, klz2⟩ := kZ2.rules
                by_cases hfull : ph - nx < z.2
                · have HF : Hid (o = none) := HPn.out (by rw [HT.out]; simp only [stepP]; unfold placeP; rw [if_neg (by omega : ¬ pw < z.1), hf]; simp only [if_pos hfull])
                  have hd9 : decide (ph < nx + z.2) = true := by simp; omega
                  go_wp2
                  rw [HF.out]
                  refine bodyPost_ret (v := _) ?_ rfl (RetP.no hbw2)
                  simp [results, Try.results41, go_sem]
                · have hd9 : decide (ph < nx + z.2) = false := by simp; omega
                  obtain ⟨s, Hs0⟩ : ∃ s : Sf, Hid (⟨nx, z.2, 0⟩ = s) := ⟨_, rfl⟩
                  have hs1 : 0 ≤ s.u ∧ s.u ≤ 1 ∧ 0 ≤ s.t ∧ s.t ≤ 4096 := by rw [← Hs0.out]; simp only; omega
                  obtain ⟨i, hil⟩ : ∃ i, Hid (ss.length = i) := ⟨_, rfl⟩
                  have HF : Hid (runP pw ph (l.take (q + 1)) = some (os ++ [⟨s.u, s.t, s.u + z.1, s.t + z.2⟩], (ss ++ [s]).set i ⟨s.t, s.h, s.u + z.1⟩, nx + z.2)) := by
                    unfold Hid
                    rw [HT.out]; simp only [stepP]; unfold placeP
                    rw [if_neg (by omega : ¬ pw < z.1), hf]
                    simp only [if_neg hfull]
                    rw [← Hs0.out, ← hil.out, List.set_append_right _ _ (Nat.le_refl _)]
                    simp
                  clear hfull hf hfv Hok HT
                  go_wp2_with (at_builtin; (refine wpList_append_one encS_len encS_one 64 Try.infoShelfR rfl (by decide) (by decide) Try.underlying64 rfl _ _ rfl w.heap.size _ _ rfl (hS2.alloc _) w2.heap.size ⟨nx, z.2, 0⟩ rfl (Bk.new _ _ _ rfl) rfl (by omega) (by simp; omega) ?_; intro v3 w3 hS3 hg3 hv3; have kZ3 := (kZ2.alloc (.cells #[.int .i64 nx, .int .i64 z.2, .int .i64 0] 67)).grown hg3 ((hS2.alloc (.cells #[.int .i64 nx, .int .i64 z.2, .int .i64 0] 67)).neBk (kZ2.alloc (.cells #[.int .i64 nx, .int .i64 z.2, .int .i64 0] 67)) (by decide)); have hO3 := (hO2.alloc (.cells #[.int .i64 nx, .int .i64 z.2, .int .i64 0] 67)).grownFar (hS2.alloc (.cells #[.int .i64 nx, .int .i64 z.2, .int .i64 0] 67)) (by decide) hg3; have hb3 := below_grown (hS2.alloc (.cells #[.int .i64 nx, .int .i64 z.2, .int .i64 0] 67)) hg3 (balloc hbw2 _) hrw; clear hv3 hg3 kcz2 kfz2 kaz2 kgz2 klz2; rw [Hs0.out] at hS3; have hi : i < (ss ++ [s]).length := (by have := hil.out; simp; omega); have Hs : Hid ((ss ++ [s])[i] = s) := (by unfold Hid; have := hil.out; subst this; simp); obtain ⟨g, c9', cur, rfl, hbg, kG3, _⟩ := hS3.block (by simp); obtain ⟨A3, c3, hv, HR3, _⟩ := hS3.form encS_len; injection hv with hA _ hcp; subst hA; subst hcp; obtain ⟨_, _, hA, hgl, c0, _, c2⟩ := rd3 HR3 (k := i) hi; injection hA with hA; injection hA with hA1 hA2 _; subst hA1 hA2; rw [Nat.zero_add, Hs.out] at c0 c2; have d0 : cur[i * 3]? = some (.int .i64 s.t) := (by rw [← kG3.rules.1]; exact c0); have d2 : cur[i * 3 + 2]? = some (.int .i64 s.u) := (by rw [← kG3.rules.1]; exact c2); clear c0 c2; have hll : i < ss.length + 1 := (by have := hil.out; omega); have hie : ((ss.length : Nat) : Int) = (i : Int) := (by have := hil.out; omega); rw [hie]; clear hie; have hll2 : (i : Int) < (ss.length : Int) + 1 := (by have := hil.out; omega); have e1 : IntKind.i64.wrap (s.u + z.1) = s.u + z.1 := IntWalk.i64_in _ (by omega); have e2 : IntKind.i64.wrap (s.t + z.2) = s.t + z.2 := IntWalk.i64_in _ (by omega); have i1 : (0 : Int) ≤ (i : Int) := (by omega); obtain ⟨kc3, kf3, ka3, kg3, kl3⟩ := kG3.rules; obtain ⟨kcz, kfz, kaz, kgz, klz⟩ := kZ3.rules))
                  clear kc3 kf3 ka3 kg3 kl3 kcz kfz kaz kgz klz
                  refine wp_region_go 23 [(0, true), (1, true), (2, true), (3, true), (4, true), (5, true), (6, true), (7, true), (8, true), (9, true), (10, true), (11, true), (12, true), (13, true), (14, true), (15, true), (16, true), (17, true), (18, true), (19, true), (20, false), (21, false), (22, true)] (fun w' => Bk w' g 67 cur ∧ Bk w' zb 51 #[.int .i64 z.1, .int .i64 z.2]) (by kernel_rfl) (by kernel_rfl) (fun c a d v w h => by cases d <;> exact h) ⟨kG3.drew, kZ3.drew⟩ ?_
                  repeat (refine wpGo_pure (v := ?_) rfl rfl (fun w' hS => ?_) ?_; rotate_left; (· obtain ⟨kcg, kfg, kag, kgg, klg⟩ := hS.1.rules; obtain ⟨kcz, kfz, kaz, kgz, klz⟩ := hS.2.rules; go_simp; exact rfl); (try simp only [Act.put, List.setIfInBounds_toArray, List.set_cons_zero, List.set_cons_succ]))
                  refine wpGo_eff rfl (fun K hK => ?_)
                  go_simp
                  refine hK.out _ _ ⟨(kG3.alloc _), (kZ3.alloc _)⟩ (fun _ => ?_)
                  clear hK K
                  have ho4 := (hO3.alloc (.cells #[.int .i64 s.u, .int .i64 s.t, .int .i64 (s.u + z.1), .int .i64 (s.t + z.2)] 23)).drew
                  have hz3 := hb3.size
                  refine wpGo_effp rfl (fun K hK => ?_)
                  refine wp_append_one encR_len encR_one 25 Try.infoRect rfl (by decide) (by decide) Try.underlying25 _ _ rfl w.heap.size _ os rfl ho4 w3.heap.size ⟨s.u, s.t, s.u + z.1, s.t + z.2⟩ rfl (Bk.new _ _ _ rfl) rfl (by omega) (by simp; omega) ?_
                  intro v5 w5 ho5 hg5 hv5
                  obtain ⟨g5, c5, hv5, _⟩ := hv5
                  subst hv5
                  have kG5 := (kG3.alloc (.cells #[.int .i64 s.u, .int .i64 s.t, .int .i64 (s.u + z.1), .int .i64 (s.t + z.2)] 23)).drew.grown hg5 (ho4.neBk (kG3.alloc (.cells #[.int .i64 s.u, .int .i64 s.t, .int .i64 (s.u + z.1), .int .i64 (s.t + z.2)] 23)).drew (by decide))
                  have kZ5 := (kZ3.alloc (.cells #[.int .i64 s.u, .int .i64 s.t, .int .i64 (s.u + z.1), .int .i64 (s.t + z.2)] 23)).drew.grown hg5 (ho4.neBk (kZ3.alloc (.cells #[.int .i64 s.u, .int .i64 s.t, .int .i64 (s.u + z.1), .int .i64 (s.t + z.2)] 23)).drew (by decide))
                  refine hK.out _ _ ⟨kG5, kZ5⟩ (fun _ => ?_)
                  clear hK K
                  simp only [Act.put, List.setIfInBounds_toArray, List.set_cons_zero, List.set_cons_succ]
                  repeat (refine wpGo_pure (v := ?_) rfl rfl (fun w' hS => ?_) ?_; rotate_left; (· obtain ⟨kcg, kfg, kag, kgg, klg⟩ := hS.1.rules; obtain ⟨kcz, kfz, kaz, kgz, klz⟩ := hS.2.rules; go_simp; exact rfl); (try simp only [Act.put, List.setIfInBounds_toArray, List.set_cons_zero, List.set_cons_succ]))
                  refine wpGo_nil ?_
                  simp only [List.drop_succ_cons, List.drop_zero]
                  have hS5 := (hS3.alloc (.cells #[.int .i64 s.u, .int .i64 s.t, .int .i64 (s.u + z.1), .int .i64 (s.t + z.2)] 23)).drew.grownFar ho4 (by decide) hg5
                  have hS6 := hS5.storeAt encS_len hi 2 (.int .i64 (s.u + z.1)) ⟨s.t, s.h, s.u + z.1⟩ (by decide) (by rw [Hs.out]; rfl) rfl
                  have ho6 := ho5.setFar kG5 (by decide) (i * 3 + 2) (.int .i64 (s.u + z.1))
                  have hb5 := below_grown ho4 hg5 (balloc hb3 _).drew hrw
                  have hb6 := bset hb5 (p := ⟨g, i * 3 + 2, none⟩) (by show w.heap.size ≤ g; omega) (.int .i64 (s.u + z.1))
                  obtain ⟨kc5, kf5, ka5, kg5, kl5⟩ := kG5.rules
                  obtain ⟨kcz, kfz, kaz, kgz, klz⟩ := kZ5.rules
                  clear hg5
                  go_wp2
                  go_roundw
                  case rel => exact ⟨q + 1, _, _, _, by omega, by go_num, rfl, HF, HM', (by rw [show ss.length + 1 = (ss ++ [s]).length by simp]; exact hS6), ho6, hb6⟩
                  case measure => simp [intOf]; omega
      · have HE : Hid (o = some os) := by
          unfold Hid
          rw [← Ho.out]; unfold packR
          have h1 := HQ.out
          have h2 := HM.out
          rw [List.take_of_length_le (by have := Hn.out; omega)] at h1 h2
          rw [g1, g2, List.all_eq_true.2 h2, h1]
          simp [Hn.out, g3]
        go_wp2
        refine bodyPost_ret (v := _) ?_ rfl ⟨_, rfl, by rw [HE.out]; exact hO.mono hrw, hbw⟩
        simp [results, Try.results41, go_sem, HE.out]
  · have HE : Hid (o = none) := by
      unfold Hid
      rw [← Ho.out]; unfold packR
      rw [if_neg]
      intro h
      simp only [Bool.and_eq_true, decide_eq_true_eq] at h
      exact hg ⟨h.1.1.1, h.1.1.2, by have := Hn.out; omega⟩
    rw [HE.out]
    clear HE Ho
    obtain ⟨b1, Hb1⟩ : ∃ b, Hid (sideB pw = b) := ⟨_, rfl⟩
    obtain ⟨b2, Hb2⟩ : ∃ b, Hid (sideB ph = b) := ⟨_, rfl⟩
    have HG : Hid (b1 = true → b2 = true → (1024 : Int) < (n : Int)) := fun h1 h2 => by
      have : ¬ n ≤ 1024 := fun h3 => hg ⟨Hb1.out.trans h1, Hb2.out.trans h2, h3⟩
      omega
    clear hg
    go_enter Try.func41, Try.ntmps41
    go_wp2_with fail
    refine (rside_any pw _).mono ?_
    rintro e w1 ⟨rfl, rfl⟩
    rw [Hb1.out]
    cases b1
    · go_wp2
      refine bodyPost_ret (v := _) ?_ rfl (RetP.no (by repeat (first | (with_reducible exact Below.refl _ _) | (with_reducible refine balloc ?_ _) | (with_reducible refine Below.drew ?_) | (with_reducible refine bdrewN ?_ _) | ((with_reducible refine bset ?_ ?_ _); rotate_left; focus (first | (with_reducible exact Nat.le_refl _) | (simp; done) | (simp; omega) | omega)) | (with_reducible refine bstep (by with_reducible assumption) ?_))))
      simp [results, Try.results41, go_sem]
    · go_wp2_with fail
      refine (rside_any ph _).mono ?_
      rintro e w1 ⟨rfl, rfl⟩
      rw [Hb2.out]
      cases b2
      · go_wp2
        refine bodyPost_ret (v := _) ?_ rfl (RetP.no (by repeat (first | (with_reducible exact Below.refl _ _) | (with_reducible refine balloc ?_ _) | (with_reducible refine Below.drew ?_) | (with_reducible refine bdrewN ?_ _) | ((with_reducible refine bset ?_ ?_ _); rotate_left; focus (first | (with_reducible exact Nat.le_refl _) | (simp; done) | (simp; omega) | omega)) | (with_reducible refine bstep (by with_reducible assumption) ?_))))
        simp [results, Try.results41, go_sem]
      · have g5 : decide ((1024 : Int) < (n : Int)) = true := by have h := HG.out; simp at h ⊢; omega
        go_wp2
        refine bodyPost_ret (v := _) ?_ rfl (RetP.no (by repeat (first | (with_reducible exact Below.refl _ _) | (with_reducible refine balloc ?_ _) | (with_reducible refine Below.drew ?_) | (with_reducible refine bdrewN ?_ _) | ((with_reducible refine bset ?_ ?_ _); rotate_left; focus (first | (with_reducible exact Nat.le_refl _) | (simp; done) | (simp; omega) | omega)) | (with_reducible refine bstep (by with_reducible assumption) ?_))))
        simp [results, Try.results41, go_sem]
end Go.Proofs.Ytiaeaegocfmjhaa
