/-
  The walk of mask.each with the function grisaille/mask.Invert$1.
-/
import Derived.Test.YtndablijjkchjaaMk8
namespace Go.Proofs.Ytndablijjkchjaa
open Go.RowKit
set_option linter.unusedSimpArgs false
set_option linter.unusedVariables false

set_option maxHeartbeats 400000 in
theorem inv1_any (x : Int) (w : World) (h0 : 0 ≤ x) (h1 : x ≤ 255) :
    Calls Try.prog 67 #[.int .u8 x] w fun e w' => e = .returned (.int .u8 (invF x)) ∧ Below w.heap.size w w' := by
  unfold invF
  go_enter Try.func67, Try.ntmps67
  go_wp2
  go_ret
  exact ⟨rfl, (by repeat (first | (with_reducible exact Below.refl _ _) | (with_reducible refine balloc ?_ _) | (with_reducible refine Below.drew ?_) | (with_reducible refine bdrewN ?_ _) | ((with_reducible refine bset ?_ ?_ _); rotate_left; focus (first | (with_reducible exact Nat.le_refl _) | (simp; done) | (simp; omega) | omega)) | (with_reducible refine bstep (by with_reducible assumption) ?_)))⟩

set_option maxHeartbeats 6400000 in
theorem each_I (F : Int → Int) (b : Mk) (w : World) (hb : b.ok w) (hnb : b.n ≤ 4000000000)
    (hf : ∀ x w', 0 ≤ x → x ≤ 255 → Below w.heap.size w w' → Calls Try.prog 67 #[.int .u8 x] w' fun e w'' => e = .returned (.int .u8 (F x)) ∧ Below w'.heap.size w' w'') :
    Calls Try.prog 66 #[.agg #[.int .i64 b.r.x0, .int .i64 b.r.y0, .int .i64 b.r.x1, .int .i64 b.r.y1, .slice b.A b.n b.c], .func (.func 67) #[] #[]] w (RetME (mpR b) (mpL F b) (mpE b) w) := by
  have HB := Lib.hid hb
  have HF := Lib.hid hf
  clear hb hf
  cases vb : vMk b with
  | false =>
    have Hvb := Lib.hid vb
    have e1 : mpR b = ⟨0, 0, 0, 0⟩ := by unfold mpR; rw [vb]; rfl
    have e2 : mpL F b = [] := by unfold mpL; rw [vb]; rfl
    have e3 : mpE b = 14 := by unfold mpE; rw [vb]; rfl
    rw [e1, e2, e3]
    clear e1 e2 e3 vb
    go_enter Try.func66, Try.ntmps66
    go_wp2_with fail
    refine (mvalid_any b.r b.A b.n b.c b.l _ (HB.out.rd.below (by repeat (first | (with_reducible exact Below.refl _ _) | (with_reducible refine balloc ?_ _) | (with_reducible refine Below.drew ?_) | (with_reducible refine bdrewN ?_ _) | ((with_reducible refine bset ?_ ?_ _); rotate_left; focus (first | (with_reducible exact Nat.le_refl _) | (simp; done) | (simp; omega) | omega)) | (with_reducible refine bstep (by with_reducible assumption) ?_)))) HB.out.ln hnb false Hvb).mono ?_
    rintro e w1 ⟨rfl, hb1⟩
    have kO1 : Bk w1 (w.heap.size + 1) 29 #[.int .i64 0, .int .i64 0, .int .i64 0, .int .i64 0, .slice none 0 0] := (by repeat (first | (with_reducible assumption) | ((with_reducible refine Bk.new _ _ _ ?_); first | (with_reducible rfl) | (simp; done)) | (with_reducible refine Bk.alloc ?_ _) | (with_reducible refine Bk.drew ?_) | (with_reducible refine Bk.drewN ?_ _) | ((with_reducible refine Bk.far ?_ ?_ _); rotate_left; focus (first | (simp; done) | (simp; omega))) | (with_reducible refine Bk.below ?_ (by with_reducible assumption)))); obtain ⟨kcO1, kfO1, kaO1, kgO1, klO1⟩ := kO1.rules
    go_wp2
    refine bodyPost_ret (v := _) ?_ rfl (RetME.no 14 (by repeat (first | (with_reducible exact Below.refl _ _) | (with_reducible refine balloc ?_ _) | (with_reducible refine Below.drew ?_) | (with_reducible refine bdrewN ?_ _) | ((with_reducible refine bset ?_ ?_ _); rotate_left; focus (first | (with_reducible exact Nat.le_refl _) | (simp; done) | (simp; omega) | omega)) | (with_reducible refine bstep (by with_reducible assumption) ?_))))
    simp [results, Try.results66, go_sem, kcO1]
  | true =>
    have Hvb := Lib.hid vb
    have e1 : mpR b = b.r := by unfold mpR; rw [vb]; rfl
    have e2 : mpL F b = b.l.map F := by unfold mpL; rw [vb]; rfl
    have e3 : mpE b = 0 := by unfold mpE; rw [vb]; rfl
    rw [e1, e2, e3]
    clear e1 e2 e3 vb
    have hz : b.A = none → b.n = 0 ∧ (b.n : Nat) = 0 := fun h => by
      have : b.l = [] := by
        cases hl : b.l with
        | nil => rfl
        | cons y t => obtain ⟨g, o, hA, _⟩ := HB.out.rd (by rw [hl]; simp); rw [h] at hA; cases hA
      have h2 := HB.out.ln
      rw [this] at h2
      exact ⟨h2.symm, h2.symm⟩
    have HZ := Lib.hid hz
    have hnc := HB.out.le
    have hcm := HB.out.mx
    unfold maxLen at hcm
    clear hz
    obtain ⟨A0, HA0⟩ : ∃ a, Hid (b.A = a) := ⟨_, rfl⟩
    have hrd := HB.out.rd
    rw [HA0.out] at hrd
    have HRD := Lib.hid hrd
    have hz0 := HZ.out
    rw [HA0.out] at hz0 ⊢
    have HZ0 := Lib.hid hz0
    clear hrd hz0
    cases A0
    all_goals
      
      go_enter Try.func66, Try.ntmps66
      go_wp2_with fail
      refine (mvalid_any b.r _ b.n b.c b.l _ (HRD.out.below (by repeat (first | (with_reducible exact Below.refl _ _) | (with_reducible refine balloc ?_ _) | (with_reducible refine Below.drew ?_) | (with_reducible refine bdrewN ?_ _) | ((with_reducible refine bset ?_ ?_ _); rotate_left; focus (first | (with_reducible exact Nat.le_refl _) | (simp; done) | (simp; omega) | omega)) | (with_reducible refine bstep (by with_reducible assumption) ?_)))) HB.out.ln hnb true Hvb).mono ?_
      rintro e w1 ⟨rfl, hb1⟩
      have kC1 : Bk w1 w.heap.size 29 #[.int .i64 b.r.x0, .int .i64 b.r.y0, .int .i64 b.r.x1, .int .i64 b.r.y1, .slice _ b.n b.c] := (by repeat (first | (with_reducible assumption) | ((with_reducible refine Bk.new _ _ _ ?_); first | (with_reducible rfl) | (simp; done)) | (with_reducible refine Bk.alloc ?_ _) | (with_reducible refine Bk.drew ?_) | (with_reducible refine Bk.drewN ?_ _) | ((with_reducible refine Bk.far ?_ ?_ _); rotate_left; focus (first | (simp; done) | (simp; omega))) | (with_reducible refine Bk.below ?_ (by with_reducible assumption))))
      have kO1 : Bk w1 (w.heap.size + 1) 29 #[.int .i64 0, .int .i64 0, .int .i64 0, .int .i64 0, .slice none 0 0] := (by repeat (first | (with_reducible assumption) | ((with_reducible refine Bk.new _ _ _ ?_); first | (with_reducible rfl) | (simp; done)) | (with_reducible refine Bk.alloc ?_ _) | (with_reducible refine Bk.drew ?_) | (with_reducible refine Bk.drewN ?_ _) | ((with_reducible refine Bk.far ?_ ?_ _); rotate_left; focus (first | (simp; done) | (simp; omega))) | (with_reducible refine Bk.below ?_ (by with_reducible assumption))))
      have hB1 : Below w.heap.size w w1 := (by repeat (first | (with_reducible exact Below.refl _ _) | (with_reducible refine balloc ?_ _) | (with_reducible refine Below.drew ?_) | (with_reducible refine bdrewN ?_ _) | ((with_reducible refine bset ?_ ?_ _); rotate_left; focus (first | (with_reducible exact Nat.le_refl _) | (simp; done) | (simp; omega) | omega)) | (with_reducible refine bstep (by with_reducible assumption) ?_)))
      obtain ⟨kcC, kfC, kaC, kgC, klC⟩ := kC1.rules
      go_wp2_with fail
      refine (sclone_any _ b.n b.n b.l _ (HRD.out.below hB1) HB.out.ln hnb (fun h => by first | exact HZ0.out h | exact HZ0.out trivial | cases h)).mono ?_
      rintro e w2 ⟨v2, rfl, ho2, hb2⟩
      have kC2 := kC1.below hb2
      have kO2 := kO1.below hb2
      have hB2 : Below w.heap.size w w2 := bstep hb2 hB1
      clear kcC kfC kaC kgC
      have HO2 := Lib.hid ho2
      obtain ⟨A2, c2, hv2, _, _⟩ := ho2.form encB_len
      rw [HB.out.ln] at hv2
      have HV2 := Lib.hid hv2
      rw [HV2.out]
      clear hv2 ho2
      go_wp2_with fail
      go_loopw [25] (fun i wr => ∃ (k : Nat) (m : List Int), k ≤ b.n ∧ i = .int .i64 k ∧ Bk wr w.heap.size 29 #[.int .i64 b.r.x0, .int .i64 b.r.y0, .int .i64 b.r.x1, .int .i64 b.r.y1, .slice _ b.n b.c] ∧ Bk wr (w.heap.size + 1) 29 #[.int .i64 0, .int .i64 0, .int .i64 0, .int .i64 0, .slice none 0 0] ∧ OwnL encB 5 1 wr w1.heap.size v2 m ∧ Hid (m = (b.l.take k).map F ++ b.l.drop k) ∧ Below w.heap.size w wr) (fun i _ => b.n - (intOf i).toNat)
      case atStart => exact ⟨0, b.l, Nat.zero_le _, rfl, kC2, kO2, HO2.out, by unfold Hid; simp, hB2⟩
      case round =>
        obtain ⟨k, m, hk, rfl, jC, jO, hm, HM, hbw⟩ := hrel
        by_cases hlt : k < b.n
        · have hkl : k < b.l.length := by have := HB.out.ln; omega
          have hml : Hid (m.length = b.n) := by unfold Hid; rw [HM.out, map_len (by omega)]; exact HB.out.ln
          have hkm : k < m.length := by have := hml.out; omega
          obtain ⟨p, Hp⟩ : ∃ p, Hid (b.l[k] = p) := ⟨b.l[k], rfl⟩
          have Hmk : Hid (m[k] = p) := by
            have h1 := HM.out
            subst h1
            unfold Hid
            rw [map_at hkl, Hp.out]
          have hpb : 0 ≤ p ∧ p ≤ 255 := by rw [← Hp.out]; exact HB.out.byte _ (List.getElem_mem hkl)
          obtain ⟨g, cap, cur, hvv, hbg, kg0, hcap, hmx, hsz, htk⟩ := hm.block (by intro h; rw [h] at hkm; simp at hkm)
          have hm' : OwnL encB 5 1 wr w1.heap.size (.slice (some ⟨g, 0, none⟩) m.length cap) m := by rw [← hvv]; exact hm
          rw [HV2.out] at hvv
          have hA : A2 = some ⟨g, 0, none⟩ ∧ b.n = m.length ∧ c2 = cap := by injection hvv with h1 h2 h3; exact ⟨h1, h2, h3⟩
          obtain ⟨rfl, -, rfl⟩ := hA
          clear hvv hsz htk hmx hcap
          have hcell := World.ownsRow.cellAt (g := g) hm' (k * 1) (by have := hml.out; omega)
          have hfl := flat_at encB_len m k hkm 0 (.int .u8 p) (by rw [Hmk.out]; rfl)
          rw [Nat.add_zero] at hfl
          rw [hfl, Nat.mul_one] at hcell
          have hglt := kg0.lt
          have i0 : (0 : Int) ≤ (k : Int) := by omega
          have i1 : (k : Int) < (b.n : Int) := by omega
          have HC := Lib.hid (HF.out p wr hpb.1 hpb.2 hbw)
          go_wp2_with fail
          refine HC.out.mono ?_
          rintro e w3 ⟨rfl, hb3⟩
          have kg3 := kg0.below hb3
          have hcell3 := (hb3.cell (p := ⟨g, k, none⟩) hglt).trans hcell
          have hfz3 := kg3.rules.2.1 k
          have HM' : Hid (m.set k (F p) = (b.l.take (k + 1)).map F ++ b.l.drop (k + 1)) := by
            unfold Hid; rw [HM.out, ← Hp.out, map_set hkl]
          have hm2 := OwnL.storeAt encB_len (by rw [← HV2.out]; exact hm.below hb3) hkm 0 (.int .u8 (F p)) (F p) (by decide) rfl hml.out.symm
          rw [Nat.mul_one, Nat.add_zero, ← HV2.out] at hm2
          have hgC : w.heap.size ≠ g := by have := kC1.lt; omega
          have hgO : w.heap.size + 1 ≠ g := by have := kO1.lt; omega
          have jC3 := (jC.below hb3).far (p := ⟨g, k, none⟩) hgC (.int .u8 (F p))
          have jO3 := (jO.below hb3).far (p := ⟨g, k, none⟩) hgO (.int .u8 (F p))
          have hB3 := bset (bstep hb3 hbw) (p := ⟨g, k, none⟩) (by show w.heap.size ≤ g; have := kC1.lt; omega) (.int .u8 (F p))
          clear hcell kg0 HC hm' hfl
          go_wp2
          go_roundw
          case rel => exact ⟨k + 1, _, by omega, by go_num, jC3, jO3, hm2, HM', hB3⟩
          case measure => simp [intOf]; omega
        · have HE : Hid (m = b.l.map F) := by
            unfold Hid
            rw [HM.out, List.take_of_length_le (by have := HB.out.ln; omega), List.drop_of_length_le (by have := HB.out.ln; omega), List.append_nil]
          rw [HE.out] at hm
          have ho : OwnL encB 5 1 wr w.heap.size (.slice A2 b.n c2) (b.l.map F) := by rw [← HV2.out]; exact hm.mono hB1.size
          obtain ⟨kcC, kfC, kaC, kgC, klC⟩ := jC.rules
          obtain ⟨kc', kf', ka', kg', kl'⟩ := jO.rules
          have o1 := ho.setFar jO (by decide) 0 (.int .i64 b.r.x0)
          have m1 := jO.set 0 (.int .i64 b.r.x0)
          have o2 := o1.setFar m1 (by decide) 1 (.int .i64 b.r.y0)
          have m2 := m1.set 1 (.int .i64 b.r.y0)
          have o3 := o2.setFar m2 (by decide) 2 (.int .i64 b.r.x1)
          have m3 := m2.set 2 (.int .i64 b.r.x1)
          have o4 := o3.setFar m3 (by decide) 3 (.int .i64 b.r.y1)
          have m4 := m3.set 3 (.int .i64 b.r.y1)
          have o5 := o4.setFar m4 (by decide) 4 (.slice A2 b.n c2)
          clear o1 o2 o3 o4 m1 m2 m3 m4
          go_wp2
          refine bodyPost_ret (v := _) ?_ rfl ⟨_, rfl, o5, (by repeat (first | (with_reducible exact Below.refl _ _) | (with_reducible refine balloc ?_ _) | (with_reducible refine Below.drew ?_) | (with_reducible refine bdrewN ?_ _) | ((with_reducible refine bset ?_ ?_ _); rotate_left; focus (first | (with_reducible exact Nat.le_refl _) | (simp; done) | (simp; omega) | omega)) | (with_reducible refine bstep (by with_reducible assumption) ?_)))⟩
          simp [results, Try.results66, go_sem, kc']
end Go.Proofs.Ytndablijjkchjaa
