/-
  The walks of composite.BlendAll, of grisailleref29 (ValidOp, Factors, Compose) and of grisailleref27.Valid.
-/
import Derived.Test.YtlholebpfgjpdaaComp2
namespace Go.Proofs.Ytlholebpfgjpdaa
open Go.RowKit
set_option linter.unusedSimpArgs false
set_option linter.unusedVariables false

set_option maxHeartbeats 1600000 in
theorem all_any (mode : Int) (d : Px) (A : Option Addr) (n c : Nat) (l : List Px) (w : World) (hd : d.byte) (hl : ∀ p ∈ l, p.byte) (hr : RdL encP 4 w A l) (hn : l.length = n) (hn2 : n ≤ 4000000000) (P : Px) (HP : Hid (blendAllP mode d l = P)) :
    Calls Try.prog 19 #[.int .i64 mode, .agg #[.int .u8 d.r, .int .u8 d.g, .int .u8 d.b, .int .u8 d.a], .slice A n c] w fun e w' =>
      e = .returned (.agg #[.int .u8 P.r, .int .u8 P.g, .int .u8 P.b, .int .u8 P.a]) ∧ Below w.heap.size w w' := by
  have HR := Lib.hid hr
  have Hn := Lib.hid hn
  have HD := Lib.hid hd
  have HL := Lib.hid hl
  clear hr hn hd hl
  go_enter Try.func19, Try.ntmps19
  go_wp2_with fail
  go_loopw [11] (fun i wr => ∃ k : Nat, ∃ q : Px, k ≤ n ∧ i = .int .i64 k ∧ Hid (blendAllP mode d (l.take k) = q) ∧ Below w.heap.size w wr ∧ Bk wr w.heap.size 29 #[.int .u8 q.r, .int .u8 q.g, .int .u8 q.b, .int .u8 q.a] ∧ Bk wr (w.heap.size + 1) 29 #[.int .u8 0, .int .u8 0, .int .u8 0, .int .u8 0]) (fun i _ => n - (intOf i).toNat)
  case atStart => exact ⟨0, d, Nat.zero_le _, rfl, rfl, (by repeat (first | (with_reducible exact Below.refl _ _) | (with_reducible refine balloc ?_ _) | (with_reducible refine Below.drew ?_) | (with_reducible refine bdrewN ?_ _) | ((with_reducible refine bset ?_ ?_ _); rotate_left; focus (first | (with_reducible exact Nat.le_refl _) | (simp; done) | (simp; omega) | omega)) | (with_reducible refine bstep (by with_reducible assumption) ?_))), (by repeat (first | (with_reducible assumption) | ((with_reducible refine Bk.new _ _ _ ?_); first | (with_reducible rfl) | (simp; done)) | (with_reducible refine Bk.alloc ?_ _) | (with_reducible refine Bk.drew ?_) | (with_reducible refine Bk.drewN ?_ _) | ((with_reducible refine Bk.far ?_ ?_ _); rotate_left; focus (first | (simp; done) | (simp; omega))) | (with_reducible refine Bk.below ?_ (by with_reducible assumption)))), (by repeat (first | (with_reducible assumption) | ((with_reducible refine Bk.new _ _ _ ?_); first | (with_reducible rfl) | (simp; done)) | (with_reducible refine Bk.alloc ?_ _) | (with_reducible refine Bk.drew ?_) | (with_reducible refine Bk.drewN ?_ _) | ((with_reducible refine Bk.far ?_ ?_ _); rotate_left; focus (first | (simp; done) | (simp; omega))) | (with_reducible refine Bk.below ?_ (by with_reducible assumption))))⟩
  case round =>
    obtain ⟨k, q, hk, rfl, HQ, hbw, kD, kO⟩ := hrel
    obtain ⟨kc, kf, ka, kg, kl⟩ := kD.rules
    obtain ⟨kc', kf', ka', kg', kl'⟩ := kO.rules
    by_cases hlt : k < n
    · have hkl : k < l.length := by have := Hn.out; omega
      obtain ⟨gb, ob, rfl, hg, hcA⟩ := rdp (HR.out.below hbw) hkl
      obtain ⟨s, Hs⟩ : ∃ s, Hid (l[k] = s) := ⟨l[k], rfl⟩
      have hsb := HL.out _ (List.getElem_mem hkl)
      rw [Hs.out] at hcA hsb
      have HSB := Lib.hid hsb
      have hqb := all_byte mode (l.take k) HD.out (fun p hp => HL.out p (List.mem_of_mem_take hp))
      rw [HQ.out] at hqb
      have HQB := Lib.hid hqb
      obtain ⟨q', HQ'⟩ : ∃ q', Hid (bwcP mode s q 255 = q') := ⟨_, rfl⟩
      have HN : Hid (blendAllP mode d (l.take (k + 1)) = q') := by
        unfold Hid
        rw [List.take_succ_eq_append_getElem hkl, all_snoc, HQ.out, Hs.out, HQ'.out]
      obtain ⟨c0, c1, c2, c3⟩ := hcA
      have i0 : (0 : Int) ≤ (k : Int) := by omega
      clear hsb hqb Hs hkl HQ
      go_wp2_with fail
      refine (bwc_q mode s q 255 _ HSB.out HQB.out (by omega) (by omega) q' HQ').mono ?_
      rintro e w1 ⟨rfl, hb1⟩
      have jD : Bk w1 w.heap.size 29 #[.int .u8 q.r, .int .u8 q.g, .int .u8 q.b, .int .u8 q.a] := (by repeat (first | (with_reducible assumption) | ((with_reducible refine Bk.new _ _ _ ?_); first | (with_reducible rfl) | (simp; done)) | (with_reducible refine Bk.alloc ?_ _) | (with_reducible refine Bk.drew ?_) | (with_reducible refine Bk.drewN ?_ _) | ((with_reducible refine Bk.far ?_ ?_ _); rotate_left; focus (first | (simp; done) | (simp; omega))) | (with_reducible refine Bk.below ?_ (by with_reducible assumption))))
      have jO : Bk w1 (w.heap.size + 1) 29 #[.int .u8 0, .int .u8 0, .int .u8 0, .int .u8 0] := (by repeat (first | (with_reducible assumption) | ((with_reducible refine Bk.new _ _ _ ?_); first | (with_reducible rfl) | (simp; done)) | (with_reducible refine Bk.alloc ?_ _) | (with_reducible refine Bk.drew ?_) | (with_reducible refine Bk.drewN ?_ _) | ((with_reducible refine Bk.far ?_ ?_ _); rotate_left; focus (first | (simp; done) | (simp; omega))) | (with_reducible refine Bk.below ?_ (by with_reducible assumption))))
      have hB1 : Below w.heap.size w w1 := (by repeat (first | (with_reducible exact Below.refl _ _) | (with_reducible refine balloc ?_ _) | (with_reducible refine Below.drew ?_) | (with_reducible refine bdrewN ?_ _) | ((with_reducible refine bset ?_ ?_ _); rotate_left; focus (first | (with_reducible exact Nat.le_refl _) | (simp; done) | (simp; omega) | omega)) | (with_reducible refine bstep (by with_reducible assumption) ?_)))
      clear kc kf ka kg kc' kf' ka' kg' c0 c1 c2 c3
      obtain ⟨kc, kf, ka, kg, kl2⟩ := jD.rules
      have iD : Bk _ w.heap.size 29 #[.int .u8 q'.r, .int .u8 q'.g, .int .u8 q'.b, .int .u8 q'.a] := ((((jD.set 0 (.int .u8 q'.r)).set 1 (.int .u8 q'.g)).set 2 (.int .u8 q'.b)).set 3 (.int .u8 q'.a))
      have iO : Bk _ (w.heap.size + 1) 29 #[.int .u8 0, .int .u8 0, .int .u8 0, .int .u8 0] := ((((jO.far (p := ⟨w.heap.size, 0, none⟩) (by simp) (.int .u8 q'.r)).far (p := ⟨w.heap.size, 1, none⟩) (by simp) (.int .u8 q'.g)).far (p := ⟨w.heap.size, 2, none⟩) (by simp) (.int .u8 q'.b)).far (p := ⟨w.heap.size, 3, none⟩) (by simp) (.int .u8 q'.a))
      have hB2 : Below w.heap.size w ((((w1.setCell ⟨w.heap.size, 0, none⟩ (.int .u8 q'.r)).setCell ⟨w.heap.size, 1, none⟩ (.int .u8 q'.g)).setCell ⟨w.heap.size, 2, none⟩ (.int .u8 q'.b)).setCell ⟨w.heap.size, 3, none⟩ (.int .u8 q'.a)) := (by repeat (first | (with_reducible exact Below.refl _ _) | (with_reducible refine balloc ?_ _) | (with_reducible refine Below.drew ?_) | (with_reducible refine bdrewN ?_ _) | ((with_reducible refine bset ?_ ?_ _); rotate_left; focus (first | (with_reducible exact Nat.le_refl _) | (simp; done) | (simp; omega) | omega)) | (with_reducible refine bstep (by with_reducible assumption) ?_)))
      go_wp2
      go_roundw
      case rel => exact ⟨k + 1, q', by omega, by go_num, HN, hB2, iD, iO⟩
      case measure => simp [intOf]; omega
    · have HE : Hid (P = q) := by
        have h := HQ.out
        rw [List.take_of_length_le (by have := Hn.out; omega), HP.out] at h
        exact h
      have h := HE.out
      subst h
      go_wp2
      refine bodyPost_ret (v := _) ?_ rfl ⟨rfl, (by repeat (first | (with_reducible exact Below.refl _ _) | (with_reducible refine balloc ?_ _) | (with_reducible refine Below.drew ?_) | (with_reducible refine bdrewN ?_ _) | ((with_reducible refine bset ?_ ?_ _); rotate_left; focus (first | (with_reducible exact Nat.le_refl _) | (simp; done) | (simp; omega) | omega)) | (with_reducible refine bstep (by with_reducible assumption) ?_)))⟩
      simp [results, Try.results19, go_sem, kc']

set_option maxHeartbeats 400000 in
theorem rvalidop_any (op : Int) (w : World) :
    Calls Try.prog 13 #[.int .i64 op] w fun e w' => e = .returned (.bool (validOpB op)) ∧ w = w' := by
  go_enter Try.func13, Try.ntmps13
  go_wp2
  all_goals
    go_ret
    exact ⟨ret_bool (by simp [validOpB]; try omega), rfl⟩

set_option maxHeartbeats 800000 in
theorem rfactors_q (op sa da m n : Int) (Hf : Hid (facP op sa da = (m, n))) (w : World) (h0 : 0 ≤ sa) (h1 : sa ≤ 255) (h2 : 0 ≤ da) (h3 : da ≤ 255) :
    Calls Try.prog 11 #[.int .i64 op, .int .u8 sa, .int .u8 da] w fun e w' => e = .returned (.tuple #[.int .i64 m, .int .i64 n]) ∧ w = w' := by
  have e1 : m = (facP op sa da).1 := by rw [Hf.out]
  have e2 : n = (facP op sa da).2 := by rw [Hf.out]
  subst e1 e2
  clear Hf
  go_enter Try.func11, Try.ntmps11
  go_wp2
  all_goals
    go_ret2
    refine ⟨?_, rfl⟩
    simp_all [facP]

set_option maxHeartbeats 400000 in
theorem rvalid_any (p : Px) (w : World) (v : Bool) (hv : Hid (decide (p.r ≤ p.a ∧ p.g ≤ p.a ∧ p.b ≤ p.a) = v)) :
    Calls Try.prog 22 #[.agg #[.int .u8 p.r, .int .u8 p.g, .int .u8 p.b, .int .u8 p.a]] w fun e w' => e = .returned (.bool v) ∧ Below w.heap.size w w' := by
  have h := hv.out; subst h
  clear hv
  go_enter Try.func22, Try.ntmps22
  go_wp2
  all_goals
    go_ret
    exact ⟨ret_bool (by simp [*] <;> omega), (by repeat (first | (with_reducible exact Below.refl _ _) | (with_reducible refine balloc ?_ _) | (with_reducible refine Below.drew ?_) | (with_reducible refine bdrewN ?_ _) | ((with_reducible refine bset ?_ ?_ _); rotate_left; focus (first | (with_reducible exact Nat.le_refl _) | (simp; done) | (simp; omega) | omega)) | (with_reducible refine bstep (by with_reducible assumption) ?_)))⟩


set_option maxHeartbeats 4000000 in
theorem rcompose_q (op : Int) (s d : Px) (w : World) (hs : s.byte) (hd : d.byte) (P : Px) (HP : Hid (composeP op s d = P)) :
    Calls Try.prog 16 #[.int .i64 op, .agg #[.int .u8 s.r, .int .u8 s.g, .int .u8 s.b, .int .u8 s.a], .agg #[.int .u8 d.r, .int .u8 d.g, .int .u8 d.b, .int .u8 d.a]] w fun e w' =>
      e = .returned (.agg #[.int .u8 P.r, .int .u8 P.g, .int .u8 P.b, .int .u8 P.a]) ∧ Below w.heap.size w w' := by
  have hE := HP.out
  unfold composeP at hE
  obtain ⟨x, Hx⟩ : ∃ x, Hid (clampP s = x) := ⟨_, rfl⟩
  obtain ⟨y, Hy⟩ : ∃ y, Hid (clampP d = y) := ⟨_, rfl⟩
  have hx := clamp_ok hs
  have hy := clamp_ok hd
  rw [Hx.out] at hx
  rw [Hy.out] at hy
  rw [Hx.out, Hy.out] at hE
  obtain ⟨m, n, Hf⟩ : ∃ m n, Hid (facP op x.a y.a = (m, n)) := ⟨_, _, rfl⟩
  have hfb := fac_bd (op := op) hx.a0 hx.a1 hy.a0 hy.a1
  rw [Hf.out] at hE hfb
  unfold mixP oneP at hE
  subst hE
  clear HP
  obtain ⟨⟨m0, m1⟩, ⟨n0, n1⟩⟩ := hfb
  simp only at m0 m1 n0 n1
  have hxb := hx.byte
  have hyb := hy.byte
  obtain ⟨r0, r1, g0, g1, b0, b1, a0, a1⟩ := hxb
  obtain ⟨r0', r1', g0', g1', b0', b1', a0', a1'⟩ := hyb
  clear hx hy hs hd
  have vr := mul_byte (x := x.r) (y := m) r0 r1 m0 m1
  have ur := mul_byte (x := y.r) (y := n) r0' r1' n0 n1
  have vg := mul_byte (x := x.g) (y := m) g0 g1 m0 m1
  have ug := mul_byte (x := y.g) (y := n) g0' g1' n0 n1
  have vb := mul_byte (x := x.b) (y := m) b0 b1 m0 m1
  have ub := mul_byte (x := y.b) (y := n) b0' b1' n0 n1
  have va := mul_byte (x := x.a) (y := m) a0 a1 m0 m1
  have ua := mul_byte (x := y.a) (y := n) a0' a1' n0 n1
  go_enter Try.func16, Try.ntmps16
  go_wp2_with fail
  refine wp_region_mixs 8 [0, 2] [1, 3] [4, 5] [6, 7] (fun _ => 29) (fun _ => #[.int .u8 0, .int .u8 0, .int .u8 0, .int .u8 0]) (by kernel_rfl) (by kernel_rfl) (fun c a d v w h => by cases d <;> exact h) (fun c a d v w h => by cases d <;> exact h) (fun j hj => by simp only [List.mem_cons, List.not_mem_nil, or_false] at hj; rcases hj with rfl | rfl <;> exact ⟨_, rfl, rfl, fun a w => by go_simp; rfl⟩) ?_
  simp only [List.map_cons, List.map_nil]
  repeat (refine wpGo_pure (v := ?_) rfl rfl (fun w' hS => ?_) ?_; rotate_left; (· have kSp : Bk w' (w.heap.size) 29 #[.int .u8 s.r, .int .u8 s.g, .int .u8 s.b, .int .u8 s.a] := (by repeat (first | (with_reducible assumption) | ((with_reducible refine Bk.new _ _ _ ?_); first | (with_reducible rfl) | (simp; done)) | (with_reducible refine Bk.alloc ?_ _) | (with_reducible refine Bk.drew ?_) | (with_reducible refine Bk.drewN ?_ _) | ((with_reducible refine Bk.far ?_ ?_ _); rotate_left; focus (first | (simp; done) | (simp; omega))) | (with_reducible refine Bk.below ?_ (by with_reducible assumption)))); obtain ⟨kcSp, kfSp, kaSp, kgSp, klSp⟩ := kSp.rules; have kDp : Bk w' (w.heap.size + 1) 29 #[.int .u8 d.r, .int .u8 d.g, .int .u8 d.b, .int .u8 d.a] := (by repeat (first | (with_reducible assumption) | ((with_reducible refine Bk.new _ _ _ ?_); first | (with_reducible rfl) | (simp; done)) | (with_reducible refine Bk.alloc ?_ _) | (with_reducible refine Bk.drew ?_) | (with_reducible refine Bk.drewN ?_ _) | ((with_reducible refine Bk.far ?_ ?_ _); rotate_left; focus (first | (simp; done) | (simp; omega))) | (with_reducible refine Bk.below ?_ (by with_reducible assumption)))); obtain ⟨kcDp, kfDp, kaDp, kgDp, klDp⟩ := kDp.rules; go_simp; exact rfl); (try simp only [Act.put, List.setIfInBounds_toArray, List.set_cons_zero, List.set_cons_succ]))
  refine wpGo_nil ?_
  refine wpMix_call rfl (fun w1a hb1a K hK => ?_)
  go_simp
  refine (rclampc_q s.r s.g s.b s.a x Hx _).mono ?_
  rintro e w1 ⟨rfl, hb1⟩
  refine hK.out _ _ hb1 (fun _ => ?_)
  clear hK K
  refine wpMix_call rfl (fun w2a hb2a K hK => ?_)
  go_simp
  refine (rclampc_q d.r d.g d.b d.a y Hy _).mono ?_
  rintro e w2 ⟨rfl, hb2⟩
  refine hK.out _ _ hb2 (fun _ => ?_)
  clear hK K
  refine wpMix_end (fun β w3 hb3 hbk hne => ?_)
  obtain ⟨k4, l4⟩ := hbk 4 (by simp)
  obtain ⟨k5, l5⟩ := hbk 5 (by simp)
  have ne45 := hne 4 (by simp) 5 (by simp) (by decide)
  clear hbk hne
  simp only [putAll, dstOf, ptrTo, List.foldl_cons, List.foldl_nil, List.getElem?_toArray, List.getElem?_cons_succ, List.getElem?_cons_zero, Option.bind_some, Act.put, List.setIfInBounds_toArray, List.set_cons_zero, List.set_cons_succ, List.drop_succ_cons, List.drop_zero]
  generalize β 4 = b4 at *
  generalize β 5 = b5 at *
  clear β
  have l4' : w.heap.size + 1 + 1 + 1 ≤ b4 := by simpa using l4
  have l5' : w.heap.size + 1 + 1 + 1 ≤ b5 := by simpa using l5
  clear l4 l5
  have kO3 : Bk w3 (w.heap.size + 1 + 1) 29 #[.int .u8 0, .int .u8 0, .int .u8 0, .int .u8 0] := (by repeat (first | (with_reducible assumption) | ((with_reducible refine Bk.new _ _ _ ?_); first | (with_reducible rfl) | (simp; done)) | (with_reducible refine Bk.alloc ?_ _) | (with_reducible refine Bk.drew ?_) | (with_reducible refine Bk.drewN ?_ _) | ((with_reducible refine Bk.far ?_ ?_ _); rotate_left; focus (first | (simp; done) | (simp; omega))) | (with_reducible refine Bk.below ?_ (by with_reducible assumption)))); obtain ⟨kcO3, kfO3, kaO3, kgO3, klO3⟩ := kO3.rules
  clear kcO3 kfO3 kaO3 kgO3
  obtain ⟨kc4, kf4, ka4, kg4, kl4⟩ := k4.rules
  obtain ⟨kc5, kf5, ka5, kg5, kl5⟩ := k5.rules
  refine wpGo_eff rfl (fun K hK => ?_)
  go_simp
  refine hK.out _ _ (by repeat (first | (with_reducible exact Below.refl _ _) | (with_reducible refine balloc ?_ _) | (with_reducible refine Below.drew ?_) | (with_reducible refine bdrewN ?_ _) | ((with_reducible refine bset ?_ ?_ _); rotate_left; focus (first | (with_reducible exact Nat.le_refl _) | (simp; done) | (simp; omega) | omega)) | (with_reducible refine bstep (by with_reducible assumption) ?_))) (fun hS4 => ?_)
  clear hK K
  refine wpGo_eff rfl (fun K hK => ?_)
  go_simp
  refine hK.out _ _ (by repeat (first | (with_reducible exact Below.refl _ _) | (with_reducible refine balloc ?_ _) | (with_reducible refine Below.drew ?_) | (with_reducible refine bdrewN ?_ _) | ((with_reducible refine bset ?_ ?_ _); rotate_left; focus (first | (with_reducible exact Nat.le_refl _) | (simp; done) | (simp; omega) | omega)) | (with_reducible refine bstep (by with_reducible assumption) ?_))) (fun hS5 => ?_)
  clear hK K
  refine wpGo_nil ?_
  have jO : Bk _ (w.heap.size + 1 + 1) 29 #[.int .u8 0, .int .u8 0, .int .u8 0, .int .u8 0] := ((((((((kO3.far (p := ⟨b4, 0, none⟩) (by simp <;> omega) (.int .u8 x.r)).far (p := ⟨b4, 1, none⟩) (by simp <;> omega) (.int .u8 x.g)).far (p := ⟨b4, 2, none⟩) (by simp <;> omega) (.int .u8 x.b)).far (p := ⟨b4, 3, none⟩) (by simp <;> omega) (.int .u8 x.a)).far (p := ⟨b5, 0, none⟩) (by simp <;> omega) (.int .u8 y.r)).far (p := ⟨b5, 1, none⟩) (by simp <;> omega) (.int .u8 y.g)).far (p := ⟨b5, 2, none⟩) (by simp <;> omega) (.int .u8 y.b)).far (p := ⟨b5, 3, none⟩) (by simp <;> omega) (.int .u8 y.a))
  have jX : Bk _ b4 29 #[.int .u8 x.r, .int .u8 x.g, .int .u8 x.b, .int .u8 x.a] := ((((((((k4.set 0 (.int .u8 x.r)).set 1 (.int .u8 x.g)).set 2 (.int .u8 x.b)).set 3 (.int .u8 x.a)).far (p := ⟨b5, 0, none⟩) ne45 (.int .u8 y.r)).far (p := ⟨b5, 1, none⟩) ne45 (.int .u8 y.g)).far (p := ⟨b5, 2, none⟩) ne45 (.int .u8 y.b)).far (p := ⟨b5, 3, none⟩) ne45 (.int .u8 y.a))
  have jY : Bk _ b5 29 #[.int .u8 y.r, .int .u8 y.g, .int .u8 y.b, .int .u8 y.a] := ((((((((k5.far (p := ⟨b4, 0, none⟩) ne45.symm (.int .u8 x.r)).far (p := ⟨b4, 1, none⟩) ne45.symm (.int .u8 x.g)).far (p := ⟨b4, 2, none⟩) ne45.symm (.int .u8 x.b)).far (p := ⟨b4, 3, none⟩) ne45.symm (.int .u8 x.a)).set 0 (.int .u8 y.r)).set 1 (.int .u8 y.g)).set 2 (.int .u8 y.b)).set 3 (.int .u8 y.a))
  have hW0 : Below w.heap.size w w3 := (by repeat (first | (with_reducible exact Below.refl _ _) | (with_reducible refine balloc ?_ _) | (with_reducible refine Below.drew ?_) | (with_reducible refine bdrewN ?_ _) | ((with_reducible refine bset ?_ ?_ _); rotate_left; focus (first | (with_reducible exact Nat.le_refl _) | (simp; done) | (simp; omega) | omega)) | (with_reducible refine bstep (by with_reducible assumption) ?_)))
  have hV := (bset (bset (bset (bset (bset (bset (bset (bset hW0 (p := ⟨b4, 0, none⟩) (by show _ ≤ b4; omega) (.int .u8 x.r)) (p := ⟨b4, 1, none⟩) (by show _ ≤ b4; omega) (.int .u8 x.g)) (p := ⟨b4, 2, none⟩) (by show _ ≤ b4; omega) (.int .u8 x.b)) (p := ⟨b4, 3, none⟩) (by show _ ≤ b4; omega) (.int .u8 x.a)) (p := ⟨b5, 0, none⟩) (by show _ ≤ b5; omega) (.int .u8 y.r)) (p := ⟨b5, 1, none⟩) (by show _ ≤ b5; omega) (.int .u8 y.g)) (p := ⟨b5, 2, none⟩) (by show _ ≤ b5; omega) (.int .u8 y.b)) (p := ⟨b5, 3, none⟩) (by show _ ≤ b5; omega) (.int .u8 y.a))
  obtain ⟨kx, kxf, kxa, kxg, kxl⟩ := jX.rules
  obtain ⟨ky, kyf, kya, kyg, kyl⟩ := jY.rules
  go_wp2_with fail
  generalize ((((((((w3.setCell ⟨b4, 0, none⟩ (.int .u8 x.r)).setCell ⟨b4, 1, none⟩ (.int .u8 x.g)).setCell ⟨b4, 2, none⟩ (.int .u8 x.b)).setCell ⟨b4, 3, none⟩ (.int .u8 x.a)).setCell ⟨b5, 0, none⟩ (.int .u8 y.r)).setCell ⟨b5, 1, none⟩ (.int .u8 y.g)).setCell ⟨b5, 2, none⟩ (.int .u8 y.b)).setCell ⟨b5, 3, none⟩ (.int .u8 y.a)) = w9 at hV jO jX jY ⊢
  clear k4 k5 kO3 kc4 kf4 ka4 kg4 kl4 kc5 kf5 ka5 kg5 kl5 hS4 hS5 hW0 hb1a hb1 hb2a hb2 hb3 klO3 kx kxf kxa kxg kxl ky kyf kya kyg kyl
  refine (rfactors_q op x.a y.a m n Hf _ a0 a1 a0' a1').mono ?_
  rintro e w' ⟨rfl, rfl⟩
  have ir1 : IntKind.i64.wrap x.r = x.r := IntWalk.i64_in _ (by omega)
  have ir2 : IntKind.i64.wrap y.r = y.r := IntWalk.i64_in _ (by omega)
  have ir3 : IntKind.i64.wrap (x.r * m) = x.r * m := IntWalk.i64_in _ (by omega)
  have ir4 : IntKind.i64.wrap (y.r * n) = y.r * n := IntWalk.i64_in _ (by omega)
  have ir5 : IntKind.i64.wrap (x.r * m + y.r * n) = x.r * m + y.r * n := IntWalk.i64_in _ (by omega)
  have ig1 : IntKind.i64.wrap x.g = x.g := IntWalk.i64_in _ (by omega)
  have ig2 : IntKind.i64.wrap y.g = y.g := IntWalk.i64_in _ (by omega)
  have ig3 : IntKind.i64.wrap (x.g * m) = x.g * m := IntWalk.i64_in _ (by omega)
  have ig4 : IntKind.i64.wrap (y.g * n) = y.g * n := IntWalk.i64_in _ (by omega)
  have ig5 : IntKind.i64.wrap (x.g * m + y.g * n) = x.g * m + y.g * n := IntWalk.i64_in _ (by omega)
  have ib1 : IntKind.i64.wrap x.b = x.b := IntWalk.i64_in _ (by omega)
  have ib2 : IntKind.i64.wrap y.b = y.b := IntWalk.i64_in _ (by omega)
  have ib3 : IntKind.i64.wrap (x.b * m) = x.b * m := IntWalk.i64_in _ (by omega)
  have ib4 : IntKind.i64.wrap (y.b * n) = y.b * n := IntWalk.i64_in _ (by omega)
  have ib5 : IntKind.i64.wrap (x.b * m + y.b * n) = x.b * m + y.b * n := IntWalk.i64_in _ (by omega)
  have ia1 : IntKind.i64.wrap x.a = x.a := IntWalk.i64_in _ (by omega)
  have ia2 : IntKind.i64.wrap y.a = y.a := IntWalk.i64_in _ (by omega)
  have ia3 : IntKind.i64.wrap (x.a * m) = x.a * m := IntWalk.i64_in _ (by omega)
  have ia4 : IntKind.i64.wrap (y.a * n) = y.a * n := IntWalk.i64_in _ (by omega)
  have ia5 : IntKind.i64.wrap (x.a * m + y.a * n) = x.a * m + y.a * n := IntWalk.i64_in _ (by omega)
  go_wp2_with fail
  refine wp_region_gob 49 [(0, true), (1, true), (2, true), (3, true), (4, true), (5, true), (6, true), (7, true), (8, true), (9, true), (10, true), (12, true), (13, true), (14, true), (15, true), (16, true), (17, true), (18, true), (19, true), (20, true), (21, true), (22, true), (24, true), (25, true), (26, true), (27, true), (28, true), (29, true), (30, true), (31, true), (32, true), (33, true), (34, true), (36, true), (37, true), (38, true), (39, true), (40, true), (41, true), (42, true), (43, true), (44, true), (45, true), (46, true), (11, false), (23, false), (35, false), (47, false), (48, true)] (by kernel_rfl) (by kernel_rfl) (fun c a d v w h => by cases d <;> exact h) ?_
  repeat (refine wpGo_pure (v := ?_) rfl rfl (fun w' hS => ?_) ?_; rotate_left; (· have kXp : Bk w' (b4) 29 #[.int .u8 x.r, .int .u8 x.g, .int .u8 x.b, .int .u8 x.a] := (by repeat (first | (with_reducible assumption) | ((with_reducible refine Bk.new _ _ _ ?_); first | (with_reducible rfl) | (simp; done)) | (with_reducible refine Bk.alloc ?_ _) | (with_reducible refine Bk.drew ?_) | (with_reducible refine Bk.drewN ?_ _) | ((with_reducible refine Bk.far ?_ ?_ _); rotate_left; focus (first | (simp; done) | (simp; omega))) | (with_reducible refine Bk.below ?_ (by with_reducible assumption)))); obtain ⟨kcXp, kfXp, kaXp, kgXp, klXp⟩ := kXp.rules; have kYp : Bk w' (b5) 29 #[.int .u8 y.r, .int .u8 y.g, .int .u8 y.b, .int .u8 y.a] := (by repeat (first | (with_reducible assumption) | ((with_reducible refine Bk.new _ _ _ ?_); first | (with_reducible rfl) | (simp; done)) | (with_reducible refine Bk.alloc ?_ _) | (with_reducible refine Bk.drew ?_) | (with_reducible refine Bk.drewN ?_ _) | ((with_reducible refine Bk.far ?_ ?_ _); rotate_left; focus (first | (simp; done) | (simp; omega))) | (with_reducible refine Bk.below ?_ (by with_reducible assumption)))); obtain ⟨kcYp, kfYp, kaYp, kgYp, klYp⟩ := kYp.rules; go_simp; exact rfl); (try simp only [Act.put, List.setIfInBounds_toArray, List.set_cons_zero, List.set_cons_succ]))
  clear ir1 ir2 ir3 ir4 ir5 ig1 ig2 ig3 ig4 ig5 ib1 ib2 ib3 ib4 ib5 ia1 ia2 ia3 ia4 ia5
  refine wpGo_eff rfl (fun K hK => ?_)
  go_simp
  refine (rdivnorm_any _ _ (by omega) (by omega)).mono ?_
  rintro e w5 ⟨rfl, rfl⟩
  refine hK.out _ _ (by repeat (first | (with_reducible exact Below.refl _ _) | (with_reducible refine balloc ?_ _) | (with_reducible refine Below.drew ?_) | (with_reducible refine bdrewN ?_ _) | ((with_reducible refine bset ?_ ?_ _); rotate_left; focus (first | (with_reducible exact Nat.le_refl _) | (simp; done) | (simp; omega) | omega)) | (with_reducible refine bstep (by with_reducible assumption) ?_))) (fun hS5 => ?_)
  clear hK K
  refine wpGo_eff rfl (fun K hK => ?_)
  go_simp
  refine (rdivnorm_any _ _ (by omega) (by omega)).mono ?_
  rintro e w6 ⟨rfl, rfl⟩
  refine hK.out _ _ (by repeat (first | (with_reducible exact Below.refl _ _) | (with_reducible refine balloc ?_ _) | (with_reducible refine Below.drew ?_) | (with_reducible refine bdrewN ?_ _) | ((with_reducible refine bset ?_ ?_ _); rotate_left; focus (first | (with_reducible exact Nat.le_refl _) | (simp; done) | (simp; omega) | omega)) | (with_reducible refine bstep (by with_reducible assumption) ?_))) (fun hS6 => ?_)
  clear hK K
  refine wpGo_eff rfl (fun K hK => ?_)
  go_simp
  refine (rdivnorm_any _ _ (by omega) (by omega)).mono ?_
  rintro e w7 ⟨rfl, rfl⟩
  refine hK.out _ _ (by repeat (first | (with_reducible exact Below.refl _ _) | (with_reducible refine balloc ?_ _) | (with_reducible refine Below.drew ?_) | (with_reducible refine bdrewN ?_ _) | ((with_reducible refine bset ?_ ?_ _); rotate_left; focus (first | (with_reducible exact Nat.le_refl _) | (simp; done) | (simp; omega) | omega)) | (with_reducible refine bstep (by with_reducible assumption) ?_))) (fun hS7 => ?_)
  clear hK K
  refine wpGo_eff rfl (fun K hK => ?_)
  go_simp
  refine (rdivnorm_any _ _ (by omega) (by omega)).mono ?_
  rintro e w8 ⟨rfl, rfl⟩
  refine hK.out _ _ (by repeat (first | (with_reducible exact Below.refl _ _) | (with_reducible refine balloc ?_ _) | (with_reducible refine Below.drew ?_) | (with_reducible refine bdrewN ?_ _) | ((with_reducible refine bset ?_ ?_ _); rotate_left; focus (first | (with_reducible exact Nat.le_refl _) | (simp; done) | (simp; omega) | omega)) | (with_reducible refine bstep (by with_reducible assumption) ?_))) (fun hS8 => ?_)
  clear hK K
  repeat (refine wpGo_pure (v := ?_) rfl rfl (fun w' hS => ?_) ?_; rotate_left; (· skip; go_simp; exact rfl); (try simp only [Act.put, List.setIfInBounds_toArray, List.set_cons_zero, List.set_cons_succ]))
  refine wpGo_nil ?_
  simp only [List.drop_succ_cons, List.drop_zero]
  obtain ⟨kcO, kfO, kaO, kgO, klO⟩ := jO.rules
  go_wp2
  refine bodyPost_ret (v := _) ?_ rfl ⟨rfl, (by repeat (first | (with_reducible exact Below.refl _ _) | (with_reducible refine balloc ?_ _) | (with_reducible refine Below.drew ?_) | (with_reducible refine bdrewN ?_ _) | ((with_reducible refine bset ?_ ?_ _); rotate_left; focus (first | (with_reducible exact Nat.le_refl _) | (simp; done) | (simp; omega) | omega)) | (with_reducible refine bstep (by with_reducible assumption) ?_)))⟩
  simp [results, Try.results16, go_sem, kcO]
end Go.Proofs.Ytlholebpfgjpdaa
