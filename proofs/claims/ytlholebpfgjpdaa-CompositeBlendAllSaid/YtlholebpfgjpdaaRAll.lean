/-
  The walk of grisailleref29.BlendAll.
-/
import Derived.Test.YtlholebpfgjpdaaRCov
import Derived.Test.YtlholebpfgjpdaaList
import Derived.Test.YtlholebpfgjpdaaPxEq
namespace Go.Proofs.Ytlholebpfgjpdaa
open Go.RowKit
set_option linter.unusedSimpArgs false
set_option linter.unusedVariables false

set_option maxHeartbeats 3200000 in
theorem rall_any (mode : Int) (d : Px) (A : Option Addr) (n c : Nat) (l : List Px) (w : World) (hd : d.byte) (hl : ∀ p ∈ l, p.byte) (hr : RdL encP 4 w A l) (hn : l.length = n) (hn2 : n ≤ 4000000000) (P : Px) (HP : Hid (blendAllP mode d l = P)) :
    Calls Try.prog 20 #[.int .i64 mode, .agg #[.int .u8 d.r, .int .u8 d.g, .int .u8 d.b, .int .u8 d.a], .slice A n c] w fun e w' =>
      e = .returned (.agg #[.int .u8 P.r, .int .u8 P.g, .int .u8 P.b, .int .u8 P.a]) ∧ Below w.heap.size w w' := by
  have HR := Lib.hid hr
  have Hn := Lib.hid hn
  have HD := Lib.hid hd
  have HL := Lib.hid hl
  clear hr hn hd hl
  go_enter Try.func20, Try.ntmps20
  go_wp2_with fail
  go_loopw [7] (fun i wr => ∃ k : Nat, ∃ q : Px, k ≤ n ∧ i = .int .i64 k ∧ Hid (blendAllP mode d (l.take k) = q) ∧ Below w.heap.size w wr ∧ Bk wr w.heap.size 29 #[.int .u8 q.r, .int .u8 q.g, .int .u8 q.b, .int .u8 q.a] ∧ Bk wr (w.heap.size + 1) 29 #[.int .u8 0, .int .u8 0, .int .u8 0, .int .u8 0]) (fun i _ => n - (intOf i).toNat)
  case atStart => exact ⟨0, d, Nat.zero_le _, rfl, rfl, (by repeat (first | (with_reducible exact Below.refl _ _) | (with_reducible refine balloc ?_ _) | (with_reducible refine Below.drew ?_) | (with_reducible refine bdrewN ?_ _) | ((with_reducible refine bset ?_ ?_ _); rotate_left; focus (first | (with_reducible exact Nat.le_refl _) | (simp; done) | (simp; omega) | omega)) | (with_reducible refine bstep (by with_reducible assumption) ?_))), (by repeat (first | (with_reducible assumption) | ((with_reducible refine Bk.new _ _ _ ?_); first | (with_reducible rfl) | (simp; done)) | (with_reducible refine Bk.alloc ?_ _) | (with_reducible refine Bk.drew ?_) | (with_reducible refine Bk.drewN ?_ _) | ((with_reducible refine Bk.far ?_ ?_ _); rotate_left; focus (first | (simp; done) | (simp; omega))) | (with_reducible refine Bk.below ?_ (by with_reducible assumption)))), (by repeat (first | (with_reducible assumption) | ((with_reducible refine Bk.new _ _ _ ?_); first | (with_reducible rfl) | (simp; done)) | (with_reducible refine Bk.alloc ?_ _) | (with_reducible refine Bk.drew ?_) | (with_reducible refine Bk.drewN ?_ _) | ((with_reducible refine Bk.far ?_ ?_ _); rotate_left; focus (first | (simp; done) | (simp; omega))) | (with_reducible refine Bk.below ?_ (by with_reducible assumption))))⟩
  case round =>
    obtain ⟨k, q, hk, rfl, HQ, hbw, kD, kO⟩ := hrel
    by_cases hlt : k < n
    · have hkl : k < l.length := by have := Hn.out; omega
      obtain ⟨gb, ob, rfl, hg, hcA⟩ := rdp (HR.out.below hbw) hkl
      obtain ⟨s, Hs⟩ : ∃ s, Hid (l[k] = s) := ⟨l[k], rfl⟩
      have hsb := HL.out _ (List.getElem_mem hkl)
      rw [Hs.out] at hcA hsb
      have HSB := Lib.hid hsb
      have hqb := all_byte mode (l.take k) HD.out (fun p hp => HL.out p (List.mem_of_mem_take hp))
      rw [HQ.out] at hqb
      have HQB := Lib.hid hqb
      obtain ⟨q', HQ'⟩ : ∃ q', Hid (bwcP mode s q 255 = q') := ⟨_, rfl⟩
      have HN : Hid (blendAllP mode d (l.take (k + 1)) = q') := by
        unfold Hid
        rw [List.take_succ_eq_append_getElem hkl, all_snoc, HQ.out, Hs.out, HQ'.out]
      have QA := Lib.hid hcA
      have i0 : (0 : Int) ≤ (k : Int) := by omega
      have i1 : (k : Int) < (n : Int) := by omega
      clear hsb hqb Hs hkl HQ hcA
      go_wp2_with fail
      refine wp_region_gob 7 [(0, true), (1, true), (2, true), (3, true), (4, true), (5, true), (6, false)] (by kernel_rfl) (by kernel_rfl) (fun c a d v w h => by cases d <;> exact h) ?_
      repeat (refine wpGo_pure (v := ?_) rfl rfl (fun w' hS => ?_) ?_; rotate_left; (· obtain ⟨q0, q1, q2, q3⟩ := QA.out; have qr0 := (hS.cell (p := ⟨gb, ob + k * 4, none⟩) hg).trans q0; have qr1 := (hS.cell (p := ⟨gb, ob + k * 4 + 1, none⟩) hg).trans q1; have qr2 := (hS.cell (p := ⟨gb, ob + k * 4 + 2, none⟩) hg).trans q2; have qr3 := (hS.cell (p := ⟨gb, ob + k * 4 + 3, none⟩) hg).trans q3; have jB := kD.below hS; obtain ⟨kc, kf, ka, kg, kl⟩ := jB.rules; go_simp; exact rfl); (try simp only [Act.put, List.setIfInBounds_toArray, List.set_cons_zero, List.set_cons_succ]))
      refine wpGo_eff rfl (fun K hK => ?_)
      go_simp
      refine (rbwc_q mode s q 255 _ HSB.out HQB.out (by omega) (by omega) q' HQ').mono ?_
      rintro e w1 ⟨rfl, hb1⟩
      refine hK.out _ _ (by repeat (first | (with_reducible exact Below.refl _ _) | (with_reducible refine balloc ?_ _) | (with_reducible refine Below.drew ?_) | (with_reducible refine bdrewN ?_ _) | ((with_reducible refine bset ?_ ?_ _); rotate_left; focus (first | (with_reducible exact Nat.le_refl _) | (simp; done) | (simp; omega) | omega)) | (with_reducible refine bstep (by with_reducible assumption) ?_))) (fun hS1 => ?_)
      clear hK K
      refine wpGo_nil ?_
      simp only [List.drop_succ_cons, List.drop_zero]
      have jD : Bk w1 w.heap.size 29 #[.int .u8 q.r, .int .u8 q.g, .int .u8 q.b, .int .u8 q.a] := kD.below hS1
      have jO : Bk w1 (w.heap.size + 1) 29 #[.int .u8 0, .int .u8 0, .int .u8 0, .int .u8 0] := kO.below hS1
      have hB1 : Below w.heap.size w w1 := bstep hS1 hbw
      obtain ⟨kc, kf, ka, kg, kl2⟩ := jD.rules
      have iD : Bk _ w.heap.size 29 #[.int .u8 q'.r, .int .u8 q'.g, .int .u8 q'.b, .int .u8 q'.a] := ((((jD.set 0 (.int .u8 q'.r)).set 1 (.int .u8 q'.g)).set 2 (.int .u8 q'.b)).set 3 (.int .u8 q'.a))
      have iO : Bk _ (w.heap.size + 1) 29 #[.int .u8 0, .int .u8 0, .int .u8 0, .int .u8 0] := ((((jO.far (p := ⟨w.heap.size, 0, none⟩) (by simp) (.int .u8 q'.r)).far (p := ⟨w.heap.size, 1, none⟩) (by simp) (.int .u8 q'.g)).far (p := ⟨w.heap.size, 2, none⟩) (by simp) (.int .u8 q'.b)).far (p := ⟨w.heap.size, 3, none⟩) (by simp) (.int .u8 q'.a))
      have hB2 : Below w.heap.size w ((((w1.setCell ⟨w.heap.size, 0, none⟩ (.int .u8 q'.r)).setCell ⟨w.heap.size, 1, none⟩ (.int .u8 q'.g)).setCell ⟨w.heap.size, 2, none⟩ (.int .u8 q'.b)).setCell ⟨w.heap.size, 3, none⟩ (.int .u8 q'.a)) := (by repeat (first | (with_reducible exact Below.refl _ _) | (with_reducible refine balloc ?_ _) | (with_reducible refine Below.drew ?_) | (with_reducible refine bdrewN ?_ _) | ((with_reducible refine bset ?_ ?_ _); rotate_left; focus (first | (with_reducible exact Nat.le_refl _) | (simp; done) | (simp; omega) | omega)) | (with_reducible refine bstep (by with_reducible assumption) ?_)))
      go_wp2
      go_roundw
      case rel => exact ⟨k + 1, q', by omega, by go_num, HN, hB2, iD, iO⟩
      case measure => simp [intOf]; omega
    · have HE : Hid (P = q) := by
        have h := HQ.out
        rw [List.take_of_length_le (by have := Hn.out; omega), HP.out] at h
        exact h
      have h := HE.out
      subst h
      obtain ⟨kc, kf, ka, kg, kl⟩ := kD.rules
      obtain ⟨kc', kf', ka', kg', kl'⟩ := kO.rules
      go_wp2
      refine bodyPost_ret (v := _) ?_ rfl ⟨rfl, (by repeat (first | (with_reducible exact Below.refl _ _) | (with_reducible refine balloc ?_ _) | (with_reducible refine Below.drew ?_) | (with_reducible refine bdrewN ?_ _) | ((with_reducible refine bset ?_ ?_ _); rotate_left; focus (first | (with_reducible exact Nat.le_refl _) | (simp; done) | (simp; omega) | omega)) | (with_reducible refine bstep (by with_reducible assumption) ?_)))⟩
      simp [results, Try.results20, go_sem, kc']
end Go.Proofs.Ytlholebpfgjpdaa
