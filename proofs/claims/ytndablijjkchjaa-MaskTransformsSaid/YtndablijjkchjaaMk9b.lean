/-
  The walks of grisailleref21.Invert and grisailleref21.Scale.
-/
import Derived.Test.YtndablijjkchjaaMk8
import Derived.IntWalk
namespace Go.Proofs.Ytndablijjkchjaa
open Go.RowKit
set_option linter.unusedSimpArgs false
set_option linter.unusedVariables false


set_option maxHeartbeats 6400000 in
theorem rminvert_any (r : Rc) (A : Option Addr) (n c : Nat) (l : List Int) (w : World) (hr : RdL encB 1 w A l) (hn : l.length = n) (hb : bytesB l) (hnb : n ≤ 4000000000) :
    Calls Try.prog 33 #[.agg #[.int .i64 r.x0, .int .i64 r.y0, .int .i64 r.x1, .int .i64 r.y1, .slice A n c]] w (RetME (mpR (⟨r, A, n, c, l⟩ : Mk)) (mpL invF (⟨r, A, n, c, l⟩ : Mk)) (mpE (⟨r, A, n, c, l⟩ : Mk)) w) := by
  have HR := Lib.hid hr
  have Hn := Lib.hid hn
  have HB := Lib.hid hb
  clear hr hn hb
  cases vb : vMk (⟨r, A, n, c, l⟩ : Mk) with
  | false =>
    have Hvb : Hid (mkValid r l = false) := vb
    have e1 : mpR (⟨r, A, n, c, l⟩ : Mk) = ⟨0, 0, 0, 0⟩ := by unfold mpR; rw [vb]; rfl
    have e2 : mpL invF (⟨r, A, n, c, l⟩ : Mk) = [] := by unfold mpL; rw [vb]; rfl
    have e3 : mpE (⟨r, A, n, c, l⟩ : Mk) = 14 := by unfold mpE; rw [vb]; rfl
    rw [e1, e2, e3]
    clear e1 e2 e3 vb
    go_enter Try.func33, Try.ntmps33
    go_wp2_with fail
    refine (rmvalid_any r A n c l _ (HR.out.below (by repeat (first | (with_reducible exact Below.refl _ _) | (with_reducible refine balloc ?_ _) | (with_reducible refine Below.drew ?_) | (with_reducible refine bdrewN ?_ _) | ((with_reducible refine bset ?_ ?_ _); rotate_left; focus (first | (with_reducible exact Nat.le_refl _) | (simp; done) | (simp; omega) | omega)) | (with_reducible refine bstep (by with_reducible assumption) ?_)))) Hn.out hnb false Hvb).mono ?_
    rintro e w1 ⟨rfl, hb1⟩
    have kO1 : Bk w1 (w.heap.size + 1) 29 #[.int .i64 0, .int .i64 0, .int .i64 0, .int .i64 0, .slice none 0 0] := (by repeat (first | (with_reducible assumption) | ((with_reducible refine Bk.new _ _ _ ?_); first | (with_reducible rfl) | (simp; done)) | (with_reducible refine Bk.alloc ?_ _) | (with_reducible refine Bk.drew ?_) | (with_reducible refine Bk.drewN ?_ _) | ((with_reducible refine Bk.far ?_ ?_ _); rotate_left; focus (first | (simp; done) | (simp; omega))) | (with_reducible refine Bk.below ?_ (by with_reducible assumption)))); obtain ⟨kcO1, kfO1, kaO1, kgO1, klO1⟩ := kO1.rules
    go_wp2
    refine bodyPost_ret (v := _) ?_ rfl (RetME.no 14 (by repeat (first | (with_reducible exact Below.refl _ _) | (with_reducible refine balloc ?_ _) | (with_reducible refine Below.drew ?_) | (with_reducible refine bdrewN ?_ _) | ((with_reducible refine bset ?_ ?_ _); rotate_left; focus (first | (with_reducible exact Nat.le_refl _) | (simp; done) | (simp; omega) | omega)) | (with_reducible refine bstep (by with_reducible assumption) ?_))))
    simp [results, Try.results33, go_sem, kcO1]
  | true =>
    have Hvb : Hid (mkValid r l = true) := vb
    obtain ⟨F, HF⟩ : ∃ F, Hid (invF = F) := ⟨_, rfl⟩
    have e1 : mpR (⟨r, A, n, c, l⟩ : Mk) = r := by unfold mpR; rw [vb]; rfl
    have e2 : mpL invF (⟨r, A, n, c, l⟩ : Mk) = l.map F := by unfold mpL; rw [vb, HF.out]; rfl
    have e3 : mpE (⟨r, A, n, c, l⟩ : Mk) = 0 := by unfold mpE; rw [vb]; rfl
    rw [e1, e2, e3]
    clear e1 e2 e3 vb
    go_enter Try.func33, Try.ntmps33
    go_wp2_with fail
    refine (rmvalid_any r A n c l _ (HR.out.below (by repeat (first | (with_reducible exact Below.refl _ _) | (with_reducible refine balloc ?_ _) | (with_reducible refine Below.drew ?_) | (with_reducible refine bdrewN ?_ _) | ((with_reducible refine bset ?_ ?_ _); rotate_left; focus (first | (with_reducible exact Nat.le_refl _) | (simp; done) | (simp; omega) | omega)) | (with_reducible refine bstep (by with_reducible assumption) ?_)))) Hn.out hnb true Hvb).mono ?_
    rintro e w1 ⟨rfl, hb1⟩
    have kC1 : Bk w1 (w.heap.size) 29 #[.int .i64 r.x0, .int .i64 r.y0, .int .i64 r.x1, .int .i64 r.y1, .slice A n c] := (by repeat (first | (with_reducible assumption) | ((with_reducible refine Bk.new _ _ _ ?_); first | (with_reducible rfl) | (simp; done)) | (with_reducible refine Bk.alloc ?_ _) | (with_reducible refine Bk.drew ?_) | (with_reducible refine Bk.drewN ?_ _) | ((with_reducible refine Bk.far ?_ ?_ _); rotate_left; focus (first | (simp; done) | (simp; omega))) | (with_reducible refine Bk.below ?_ (by with_reducible assumption)))); obtain ⟨kcC1, kfC1, kaC1, kgC1, klC1⟩ := kC1.rules; have kO1 : Bk w1 (w.heap.size + 1) 29 #[.int .i64 0, .int .i64 0, .int .i64 0, .int .i64 0, .slice none 0 0] := (by repeat (first | (with_reducible assumption) | ((with_reducible refine Bk.new _ _ _ ?_); first | (with_reducible rfl) | (simp; done)) | (with_reducible refine Bk.alloc ?_ _) | (with_reducible refine Bk.drew ?_) | (with_reducible refine Bk.drewN ?_ _) | ((with_reducible refine Bk.far ?_ ?_ _); rotate_left; focus (first | (simp; done) | (simp; omega))) | (with_reducible refine Bk.below ?_ (by with_reducible assumption)))); obtain ⟨kcO1, kfO1, kaO1, kgO1, klO1⟩ := kO1.rules
    have hB1 : Below w.heap.size w w1 := (by repeat (first | (with_reducible exact Below.refl _ _) | (with_reducible refine balloc ?_ _) | (with_reducible refine Below.drew ?_) | (with_reducible refine bdrewN ?_ _) | ((with_reducible refine bset ?_ ?_ _); rotate_left; focus (first | (with_reducible exact Nat.le_refl _) | (simp; done) | (simp; omega) | omega)) | (with_reducible refine bstep (by with_reducible assumption) ?_)))
    have sz1 := kO1.lt
    clear kcO1 kfO1 kaO1 kgO1
    go_wp2_with fail
    clear kcC1 kfC1 kaC1 kgC1
    go_loopw [5] (fun i wr => ∃ (k : Nat) (u : Value), k ≤ n ∧ i = .int .i64 k ∧ Bk wr (w.heap.size) 29 #[.int .i64 r.x0, .int .i64 r.y0, .int .i64 r.x1, .int .i64 r.y1, .slice A n c] ∧ Bk wr (w.heap.size + 1) 29 #[.int .i64 0, .int .i64 0, .int .i64 0, .int .i64 0, .slice none 0 0] ∧ Bk wr (w1.heap.size) 29 #[.int .i64 r.x0, .int .i64 r.y0, .int .i64 r.x1, .int .i64 r.y1, u] ∧ OwnL encB 5 1 wr (w1.heap.size) u ((l.take k).map F) ∧ Below w.heap.size w wr) (fun i _ => n - (intOf i).toNat)
    case atStart => exact ⟨0, _, Nat.zero_le _, rfl, kC1.alloc _, kO1.alloc _, Bk.new _ _ _ rfl, OwnL.nil _ _, (by repeat (first | (with_reducible exact Below.refl _ _) | (with_reducible refine balloc ?_ _) | (with_reducible refine Below.drew ?_) | (with_reducible refine bdrewN ?_ _) | ((with_reducible refine bset ?_ ?_ _); rotate_left; focus (first | (with_reducible exact Nat.le_refl _) | (simp; done) | (simp; omega) | omega)) | (with_reducible refine bstep (by with_reducible assumption) ?_)))⟩
    case round =>
      obtain ⟨k, u, hk, rfl, q0C, q0O, q0B, qu0, qB0⟩ := hrel
      obtain ⟨kcC, kfC, kaC, kgC, klC⟩ := q0C.rules
      obtain ⟨kcO, kfO, kaO, kgO, klO⟩ := q0O.rules
      obtain ⟨kcB, kfB, kaB, kgB, klB⟩ := q0B.rules
      by_cases hlt : k < n
      · have hkl : k < l.length := by have := Hn.out; omega
        obtain ⟨gb, ob, rfl, hg', hcA⟩ := rd1 HR.out hkl
        obtain ⟨xv, Hx⟩ : ∃ x, Hid (l[k] = x) := ⟨l[k], rfl⟩
        have hxb : 0 ≤ xv ∧ xv ≤ 255 := by rw [← Hx.out]; exact HB.out _ (List.getElem_mem hkl)
        rw [Hx.out] at hcA
        obtain ⟨p, Hp⟩ : ∃ p, Hid (F xv = p) := ⟨_, rfl⟩
        have hp := Hp.out
        rw [← HF.out] at hp
        unfold invF at hp
        have W1 : IntKind.u8.wrap p = p := by rw [← hp]; exact IntWalk.u8_in _ (by omega)
        have W2 : 255 - xv = p := hp
        have QA := Lib.hid hcA
        have i0 : (0 : Int) ≤ (k : Int) := by omega
        have i1 : (k : Int) < (n : Int) := by omega
        clear hcA hp
        have hlen : ((l.take k).map F).length ≤ 4294967296 := by simp; omega
        go_wp2_with fail
        clear kcC kfC kaC kgC kcO kfO kaO kgO kcB kfB kaB kgB
        have q1C := q0C.drew
        have q1O := q0O.drew
        have q1B := q0B.drew
        have qu1 := qu0.drew
        have qB1 := qB0.drew
        refine wp_region_go 11 [(0, true), (1, true), (2, true), (3, true), (4, true), (5, true), (6, true), (7, true), (8, false), (9, false), (10, true)] (fun w' => Bk w' (w.heap.size) 29 #[.int .i64 r.x0, .int .i64 r.y0, .int .i64 r.x1, .int .i64 r.y1, .slice (some ⟨gb, ob, none⟩) n c] ∧ Bk w' (w.heap.size + 1) 29 #[.int .i64 0, .int .i64 0, .int .i64 0, .int .i64 0, .slice none 0 0] ∧ Bk w' (w1.heap.size) 29 #[.int .i64 r.x0, .int .i64 r.y0, .int .i64 r.x1, .int .i64 r.y1, u] ∧ Below w.heap.size w w') (by kernel_rfl) (by kernel_rfl) (fun c a d v w h => by cases d <;> exact h) ⟨q1C, q1O, q1B, qB1⟩ ?_
        repeat (first | (refine wpGo_pure (v := ?_) rfl rfl (fun w' hS => ?_) ?_; rotate_left; (· obtain ⟨kc0, kf0, ka0, kg0, kl0⟩ := Bk.rules hS.1; obtain ⟨kc1, kf1, ka1, kg1, kl1⟩ := Bk.rules hS.2.1; obtain ⟨kc2, kf2, ka2, kg2, kl2⟩ := Bk.rules hS.2.2.1; have hSB := hS.2.2.2; have qcell := (hSB.cell (p := ⟨gb, ob + k, none⟩) hg').trans QA.out; go_simp; exact rfl); (try simp only [Act.put, List.setIfInBounds_toArray, List.set_cons_zero, List.set_cons_succ])) | ((refine wpGo_skip rfl rfl ?_); (try simp only [Act.put, List.setIfInBounds_toArray, List.set_cons_zero, List.set_cons_succ])))
        refine wpGo_eff rfl (fun K hK => ?_)
        go_simp
        have q2C := q1C.alloc (.cells #[.int .u8 p] 5)
        have q2O := q1O.alloc (.cells #[.int .u8 p] 5)
        have q2B := q1B.alloc (.cells #[.int .u8 p] 5)
        have qu2 := qu1.alloc (.cells #[.int .u8 p] 5)
        have qB2 := balloc qB1 (.cells #[.int .u8 p] 5)
        refine hK.out _ _ ⟨q2C, q2O, q2B, qB2⟩ (fun _ => ?_)
        clear hK K
        have hsz := qB2.size
        refine wpGo_effp rfl (fun K hK => ?_)
        refine wp_append_one encB_len encB_one 27 Try.infoU8 rfl (by decide) (by decide) Try.underlying27 _ _ rfl (w1.heap.size) u _ rfl qu2 wr.heap.size p rfl (Bk.new _ _ _ (by first | rfl | simp)) rfl hlen (by first | (simp at hsz ⊢; omega) | (have h1 := q2B.lt; simp at hsz h1 ⊢; omega) | (have h1 := q2B.lt; simp at hsz ⊢; omega)) ?_
        intro v5 w5 ho5 hg5 hv5
        have q3C := q2C.grown hg5 (qu2.neBk q2C (by decide))
        have q3O := q2O.grown hg5 (qu2.neBk q2O (by decide))
        have q3B := q2B.grown hg5 (qu2.neBk q2B (by decide))
        have qu3 := ho5
        have qB3 := below_grown qu2 hg5 qB2 (by first | exact Nat.le_refl _ | omega)
        obtain ⟨g5, c5, hv5, _⟩ := hv5
        refine hK.out _ _ ⟨q3C, q3O, q3B, qB3⟩ (fun _ => ?_)
        clear hK K
        simp only [Act.put, List.setIfInBounds_toArray, List.set_cons_zero, List.set_cons_succ]
        repeat (first | (refine wpGo_pure (v := ?_) rfl rfl (fun w' hS => ?_) ?_; rotate_left; (· obtain ⟨kc0, kf0, ka0, kg0, kl0⟩ := Bk.rules hS.1; obtain ⟨kc1, kf1, ka1, kg1, kl1⟩ := Bk.rules hS.2.1; obtain ⟨kc2, kf2, ka2, kg2, kl2⟩ := Bk.rules hS.2.2.1; have hSB := hS.2.2.2; have qcell := (hSB.cell (p := ⟨gb, ob + k, none⟩) hg').trans QA.out; go_simp; exact rfl); (try simp only [Act.put, List.setIfInBounds_toArray, List.set_cons_zero, List.set_cons_succ])) | ((refine wpGo_skip rfl rfl ?_); (try simp only [Act.put, List.setIfInBounds_toArray, List.set_cons_zero, List.set_cons_succ])))
        refine wpGo_nil ?_
        simp only [List.drop_succ_cons, List.drop_zero]
        clear i0 i1 W1 W2
        have HL : Hid ((l.take k).map F ++ [p] = (l.take (k + 1)).map F) := by
          unfold Hid; rw [List.take_succ_eq_append_getElem hkl, List.map_append, Hx.out]; simp [Hp.out]
        rw [HL.out] at qu3
        obtain ⟨kc5, kf5, ka5, kg5, kl5⟩ := q3B.rules
        have mB : Bk _ (w1.heap.size) 29 #[.int .i64 r.x0, .int .i64 r.y0, .int .i64 r.x1, .int .i64 r.y1, v5] := q3B.set 4 v5
        have mC := q3C.far (p := ⟨w1.heap.size, 4, none⟩) (show w.heap.size ≠ w1.heap.size by omega) v5
        have mO := q3O.far (p := ⟨w1.heap.size, 4, none⟩) (show w.heap.size + 1 ≠ w1.heap.size by omega) v5
        have ho6 := qu3.setFar q3B (by decide) 4 v5
        have hB6 := bset qB3 (p := ⟨w1.heap.size, 4, none⟩) (show w.heap.size ≤ w1.heap.size by omega) v5
        clear HL q1C q1O q1B q2C q2O q2B q3C q3O q3B qu1 qu2 qB1 qB2 qB3
        generalize ((l.take k).map F).length + 1 = n5 at hv5
        subst hv5
        go_wp2
        go_roundw
        case rel => exact ⟨k + 1, _, by omega, by go_num, mC, mO, mB, ho6, hB6⟩
        case measure => simp [intOf]; omega
      · obtain rfl : k = n := by omega
        have ho := qu0.mono (show w.heap.size ≤ w1.heap.size by omega)
        obtain ⟨kc', kf', ka', kg', kl'⟩ := q0O.rules
        obtain ⟨A0, c0', hv0, _, _⟩ := ho.form encB_len
        generalize ((l.take k).map F).length = n0 at hv0
        subst hv0
        have o1 := ho.setFar q0O (by decide) 0 (.int .i64 r.x0)
        have m1 := q0O.set 0 (.int .i64 r.x0)
        have o2 := o1.setFar m1 (by decide) 1 (.int .i64 r.y0)
        have m2 := m1.set 1 (.int .i64 r.y0)
        have o3 := o2.setFar m2 (by decide) 2 (.int .i64 r.x1)
        have m3 := m2.set 2 (.int .i64 r.x1)
        have o4 := o3.setFar m3 (by decide) 3 (.int .i64 r.y1)
        have m4 := m3.set 3 (.int .i64 r.y1)
        have o5 := o4.setFar m4 (by decide) 4 (.slice A0 n0 c0')
        clear o1 o2 o3 o4 m1 m2 m3 m4
        rw [List.take_of_length_le (by have := Hn.out; omega)] at o5
        go_wp2
        refine bodyPost_ret (v := _) ?_ rfl ⟨_, rfl, o5, (by repeat (first | (with_reducible exact Below.refl _ _) | (with_reducible refine balloc ?_ _) | (with_reducible refine Below.drew ?_) | (with_reducible refine bdrewN ?_ _) | ((with_reducible refine bset ?_ ?_ _); rotate_left; focus (first | (with_reducible exact Nat.le_refl _) | (simp; done) | (simp; omega) | omega)) | (with_reducible refine bstep (by with_reducible assumption) ?_)))⟩
        simp [results, Try.results33, go_sem, kc']

set_option maxHeartbeats 6400000 in
theorem rmscale_any (r : Rc) (A : Option Addr) (n c : Nat) (l : List Int) (k0 : Int) (w : World) (hr : RdL encB 1 w A l) (hn : l.length = n) (hb : bytesB l) (hnb : n ≤ 4000000000) (h0 : 0 ≤ k0) (h1 : k0 ≤ 255) :
    Calls Try.prog 35 #[.agg #[.int .i64 r.x0, .int .i64 r.y0, .int .i64 r.x1, .int .i64 r.y1, .slice A n c], .int .u8 k0] w (RetME (mpR (⟨r, A, n, c, l⟩ : Mk)) (mpL (sclF k0) (⟨r, A, n, c, l⟩ : Mk)) (mpE (⟨r, A, n, c, l⟩ : Mk)) w) := by
  have HR := Lib.hid hr
  have Hn := Lib.hid hn
  have HB := Lib.hid hb
  clear hr hn hb
  cases vb : vMk (⟨r, A, n, c, l⟩ : Mk) with
  | false =>
    have Hvb : Hid (mkValid r l = false) := vb
    have e1 : mpR (⟨r, A, n, c, l⟩ : Mk) = ⟨0, 0, 0, 0⟩ := by unfold mpR; rw [vb]; rfl
    have e2 : mpL (sclF k0) (⟨r, A, n, c, l⟩ : Mk) = [] := by unfold mpL; rw [vb]; rfl
    have e3 : mpE (⟨r, A, n, c, l⟩ : Mk) = 14 := by unfold mpE; rw [vb]; rfl
    rw [e1, e2, e3]
    clear e1 e2 e3 vb
    go_enter Try.func35, Try.ntmps35
    go_wp2_with fail
    refine (rmvalid_any r A n c l _ (HR.out.below (by repeat (first | (with_reducible exact Below.refl _ _) | (with_reducible refine balloc ?_ _) | (with_reducible refine Below.drew ?_) | (with_reducible refine bdrewN ?_ _) | ((with_reducible refine bset ?_ ?_ _); rotate_left; focus (first | (with_reducible exact Nat.le_refl _) | (simp; done) | (simp; omega) | omega)) | (with_reducible refine bstep (by with_reducible assumption) ?_)))) Hn.out hnb false Hvb).mono ?_
    rintro e w1 ⟨rfl, hb1⟩
    have kO1 : Bk w1 (w.heap.size + 1) 29 #[.int .i64 0, .int .i64 0, .int .i64 0, .int .i64 0, .slice none 0 0] := (by repeat (first | (with_reducible assumption) | ((with_reducible refine Bk.new _ _ _ ?_); first | (with_reducible rfl) | (simp; done)) | (with_reducible refine Bk.alloc ?_ _) | (with_reducible refine Bk.drew ?_) | (with_reducible refine Bk.drewN ?_ _) | ((with_reducible refine Bk.far ?_ ?_ _); rotate_left; focus (first | (simp; done) | (simp; omega))) | (with_reducible refine Bk.below ?_ (by with_reducible assumption)))); obtain ⟨kcO1, kfO1, kaO1, kgO1, klO1⟩ := kO1.rules
    go_wp2
    refine bodyPost_ret (v := _) ?_ rfl (RetME.no 14 (by repeat (first | (with_reducible exact Below.refl _ _) | (with_reducible refine balloc ?_ _) | (with_reducible refine Below.drew ?_) | (with_reducible refine bdrewN ?_ _) | ((with_reducible refine bset ?_ ?_ _); rotate_left; focus (first | (with_reducible exact Nat.le_refl _) | (simp; done) | (simp; omega) | omega)) | (with_reducible refine bstep (by with_reducible assumption) ?_))))
    simp [results, Try.results35, go_sem, kcO1]
  | true =>
    have Hvb : Hid (mkValid r l = true) := vb
    obtain ⟨F, HF⟩ : ∃ F, Hid ((sclF k0) = F) := ⟨_, rfl⟩
    have e1 : mpR (⟨r, A, n, c, l⟩ : Mk) = r := by unfold mpR; rw [vb]; rfl
    have e2 : mpL (sclF k0) (⟨r, A, n, c, l⟩ : Mk) = l.map F := by unfold mpL; rw [vb, HF.out]; rfl
    have e3 : mpE (⟨r, A, n, c, l⟩ : Mk) = 0 := by unfold mpE; rw [vb]; rfl
    rw [e1, e2, e3]
    clear e1 e2 e3 vb
    go_enter Try.func35, Try.ntmps35
    go_wp2_with fail
    refine (rmvalid_any r A n c l _ (HR.out.below (by repeat (first | (with_reducible exact Below.refl _ _) | (with_reducible refine balloc ?_ _) | (with_reducible refine Below.drew ?_) | (with_reducible refine bdrewN ?_ _) | ((with_reducible refine bset ?_ ?_ _); rotate_left; focus (first | (with_reducible exact Nat.le_refl _) | (simp; done) | (simp; omega) | omega)) | (with_reducible refine bstep (by with_reducible assumption) ?_)))) Hn.out hnb true Hvb).mono ?_
    rintro e w1 ⟨rfl, hb1⟩
    have kC1 : Bk w1 (w.heap.size) 29 #[.int .i64 r.x0, .int .i64 r.y0, .int .i64 r.x1, .int .i64 r.y1, .slice A n c] := (by repeat (first | (with_reducible assumption) | ((with_reducible refine Bk.new _ _ _ ?_); first | (with_reducible rfl) | (simp; done)) | (with_reducible refine Bk.alloc ?_ _) | (with_reducible refine Bk.drew ?_) | (with_reducible refine Bk.drewN ?_ _) | ((with_reducible refine Bk.far ?_ ?_ _); rotate_left; focus (first | (simp; done) | (simp; omega))) | (with_reducible refine Bk.below ?_ (by with_reducible assumption)))); obtain ⟨kcC1, kfC1, kaC1, kgC1, klC1⟩ := kC1.rules; have kO1 : Bk w1 (w.heap.size + 1) 29 #[.int .i64 0, .int .i64 0, .int .i64 0, .int .i64 0, .slice none 0 0] := (by repeat (first | (with_reducible assumption) | ((with_reducible refine Bk.new _ _ _ ?_); first | (with_reducible rfl) | (simp; done)) | (with_reducible refine Bk.alloc ?_ _) | (with_reducible refine Bk.drew ?_) | (with_reducible refine Bk.drewN ?_ _) | ((with_reducible refine Bk.far ?_ ?_ _); rotate_left; focus (first | (simp; done) | (simp; omega))) | (with_reducible refine Bk.below ?_ (by with_reducible assumption)))); obtain ⟨kcO1, kfO1, kaO1, kgO1, klO1⟩ := kO1.rules
    have hB1 : Below w.heap.size w w1 := (by repeat (first | (with_reducible exact Below.refl _ _) | (with_reducible refine balloc ?_ _) | (with_reducible refine Below.drew ?_) | (with_reducible refine bdrewN ?_ _) | ((with_reducible refine bset ?_ ?_ _); rotate_left; focus (first | (with_reducible exact Nat.le_refl _) | (simp; done) | (simp; omega) | omega)) | (with_reducible refine bstep (by with_reducible assumption) ?_)))
    have sz1 := kO1.lt
    clear kcO1 kfO1 kaO1 kgO1
    go_wp2_with fail
    clear kcC1 kfC1 kaC1 kgC1
    go_loopw [7] (fun i wr => ∃ (k : Nat) (u : Value), k ≤ n ∧ i = .int .i64 k ∧ Bk wr (w.heap.size) 29 #[.int .i64 r.x0, .int .i64 r.y0, .int .i64 r.x1, .int .i64 r.y1, .slice A n c] ∧ Bk wr (w.heap.size + 1) 29 #[.int .i64 0, .int .i64 0, .int .i64 0, .int .i64 0, .slice none 0 0] ∧ Bk wr (w1.heap.size) 29 #[.int .i64 r.x0, .int .i64 r.y0, .int .i64 r.x1, .int .i64 r.y1, u] ∧ OwnL encB 5 1 wr (w1.heap.size) u ((l.take k).map F) ∧ Below w.heap.size w wr) (fun i _ => n - (intOf i).toNat)
    case atStart => exact ⟨0, _, Nat.zero_le _, rfl, kC1.alloc _, kO1.alloc _, Bk.new _ _ _ rfl, OwnL.nil _ _, (by repeat (first | (with_reducible exact Below.refl _ _) | (with_reducible refine balloc ?_ _) | (with_reducible refine Below.drew ?_) | (with_reducible refine bdrewN ?_ _) | ((with_reducible refine bset ?_ ?_ _); rotate_left; focus (first | (with_reducible exact Nat.le_refl _) | (simp; done) | (simp; omega) | omega)) | (with_reducible refine bstep (by with_reducible assumption) ?_)))⟩
    case round =>
      obtain ⟨k, u, hk, rfl, q0C, q0O, q0B, qu0, qB0⟩ := hrel
      obtain ⟨kcC, kfC, kaC, kgC, klC⟩ := q0C.rules
      obtain ⟨kcO, kfO, kaO, kgO, klO⟩ := q0O.rules
      obtain ⟨kcB, kfB, kaB, kgB, klB⟩ := q0B.rules
      by_cases hlt : k < n
      · have hkl : k < l.length := by have := Hn.out; omega
        obtain ⟨gb, ob, rfl, hg', hcA⟩ := rd1 HR.out hkl
        obtain ⟨xv, Hx⟩ : ∃ x, Hid (l[k] = x) := ⟨l[k], rfl⟩
        have hxb : 0 ≤ xv ∧ xv ≤ 255 := by rw [← Hx.out]; exact HB.out _ (List.getElem_mem hkl)
        rw [Hx.out] at hcA
        obtain ⟨p, Hp⟩ : ∃ p, Hid (F xv = p) := ⟨_, rfl⟩
        have hp := Hp.out
        rw [← HF.out] at hp
        unfold sclF at hp
        have HM0 := fun w => rmn8_any xv k0 w hxb.1 hxb.2 h0 h1
        rw [hp] at HM0
        have HM := Lib.hid HM0
        clear HM0
        have QA := Lib.hid hcA
        have i0 : (0 : Int) ≤ (k : Int) := by omega
        have i1 : (k : Int) < (n : Int) := by omega
        clear hcA hp
        have hlen : ((l.take k).map F).length ≤ 4294967296 := by simp; omega
        go_wp2_with fail
        clear kcC kfC kaC kgC kcO kfO kaO kgO kcB kfB kaB kgB
        have q1C := q0C.drew
        have q1O := q0O.drew
        have q1B := q0B.drew
        have qu1 := qu0.drew
        have qB1 := qB0.drew
        refine wp_region_go 12 [(0, true), (1, true), (2, true), (3, true), (4, true), (5, true), (6, true), (7, true), (8, false), (9, false), (10, false), (11, true)] (fun w' => Bk w' (w.heap.size) 29 #[.int .i64 r.x0, .int .i64 r.y0, .int .i64 r.x1, .int .i64 r.y1, .slice (some ⟨gb, ob, none⟩) n c] ∧ Bk w' (w.heap.size + 1) 29 #[.int .i64 0, .int .i64 0, .int .i64 0, .int .i64 0, .slice none 0 0] ∧ Bk w' (w1.heap.size) 29 #[.int .i64 r.x0, .int .i64 r.y0, .int .i64 r.x1, .int .i64 r.y1, u] ∧ Below w.heap.size w w') (by kernel_rfl) (by kernel_rfl) (fun c a d v w h => by cases d <;> exact h) ⟨q1C, q1O, q1B, qB1⟩ ?_
        repeat (first | (refine wpGo_pure (v := ?_) rfl rfl (fun w' hS => ?_) ?_; rotate_left; (· obtain ⟨kc0, kf0, ka0, kg0, kl0⟩ := Bk.rules hS.1; obtain ⟨kc1, kf1, ka1, kg1, kl1⟩ := Bk.rules hS.2.1; obtain ⟨kc2, kf2, ka2, kg2, kl2⟩ := Bk.rules hS.2.2.1; have hSB := hS.2.2.2; have qcell := (hSB.cell (p := ⟨gb, ob + k, none⟩) hg').trans QA.out; go_simp; exact rfl); (try simp only [Act.put, List.setIfInBounds_toArray, List.set_cons_zero, List.set_cons_succ])) | ((refine wpGo_skip rfl rfl ?_); (try simp only [Act.put, List.setIfInBounds_toArray, List.set_cons_zero, List.set_cons_succ])))
        refine wpGo_eff rfl (fun K hK => ?_)
        go_simp
        refine (HM.out _).mono ?_
        rintro e w11 ⟨rfl, hb11⟩
        have q2C := q1C.below hb11
        have q2O := q1O.below hb11
        have q2B := q1B.below hb11
        have qu2 := qu1.below hb11
        have qB2 := bstep hb11 qB1
        refine hK.out _ _ ⟨q2C, q2O, q2B, qB2⟩ (fun _ => ?_)
        clear hK K
        refine wpGo_eff rfl (fun K hK => ?_)
        go_simp
        have q3C := q2C.alloc (.cells #[.int .u8 p] 5)
        have q3O := q2O.alloc (.cells #[.int .u8 p] 5)
        have q3B := q2B.alloc (.cells #[.int .u8 p] 5)
        have qu3 := qu2.alloc (.cells #[.int .u8 p] 5)
        have qB3 := balloc qB2 (.cells #[.int .u8 p] 5)
        refine hK.out _ _ ⟨q3C, q3O, q3B, qB3⟩ (fun _ => ?_)
        clear hK K
        have hsz := qB3.size
        refine wpGo_effp rfl (fun K hK => ?_)
        refine wp_append_one encB_len encB_one 27 Try.infoU8 rfl (by decide) (by decide) Try.underlying27 _ _ rfl (w1.heap.size) u _ rfl qu3 w11.heap.size p rfl (Bk.new _ _ _ (by first | rfl | simp)) rfl hlen (by first | (simp at hsz ⊢; omega) | (have h1 := q3B.lt; simp at hsz h1 ⊢; omega) | (have h1 := q3B.lt; simp at hsz ⊢; omega)) ?_
        intro v5 w5 ho5 hg5 hv5
        have q4C := q3C.grown hg5 (qu3.neBk q3C (by decide))
        have q4O := q3O.grown hg5 (qu3.neBk q3O (by decide))
        have q4B := q3B.grown hg5 (qu3.neBk q3B (by decide))
        have qu4 := ho5
        have qB4 := below_grown qu3 hg5 qB3 (by first | exact Nat.le_refl _ | omega)
        obtain ⟨g5, c5, hv5, _⟩ := hv5
        refine hK.out _ _ ⟨q4C, q4O, q4B, qB4⟩ (fun _ => ?_)
        clear hK K
        simp only [Act.put, List.setIfInBounds_toArray, List.set_cons_zero, List.set_cons_succ]
        repeat (first | (refine wpGo_pure (v := ?_) rfl rfl (fun w' hS => ?_) ?_; rotate_left; (· obtain ⟨kc0, kf0, ka0, kg0, kl0⟩ := Bk.rules hS.1; obtain ⟨kc1, kf1, ka1, kg1, kl1⟩ := Bk.rules hS.2.1; obtain ⟨kc2, kf2, ka2, kg2, kl2⟩ := Bk.rules hS.2.2.1; have hSB := hS.2.2.2; have qcell := (hSB.cell (p := ⟨gb, ob + k, none⟩) hg').trans QA.out; go_simp; exact rfl); (try simp only [Act.put, List.setIfInBounds_toArray, List.set_cons_zero, List.set_cons_succ])) | ((refine wpGo_skip rfl rfl ?_); (try simp only [Act.put, List.setIfInBounds_toArray, List.set_cons_zero, List.set_cons_succ])))
        refine wpGo_nil ?_
        simp only [List.drop_succ_cons, List.drop_zero]
        clear i0 i1
        have HL : Hid ((l.take k).map F ++ [p] = (l.take (k + 1)).map F) := by
          unfold Hid; rw [List.take_succ_eq_append_getElem hkl, List.map_append, Hx.out]; simp [Hp.out]
        rw [HL.out] at qu4
        obtain ⟨kc5, kf5, ka5, kg5, kl5⟩ := q4B.rules
        have mB : Bk _ (w1.heap.size) 29 #[.int .i64 r.x0, .int .i64 r.y0, .int .i64 r.x1, .int .i64 r.y1, v5] := q4B.set 4 v5
        have mC := q4C.far (p := ⟨w1.heap.size, 4, none⟩) (show w.heap.size ≠ w1.heap.size by omega) v5
        have mO := q4O.far (p := ⟨w1.heap.size, 4, none⟩) (show w.heap.size + 1 ≠ w1.heap.size by omega) v5
        have ho6 := qu4.setFar q4B (by decide) 4 v5
        have hB6 := bset qB4 (p := ⟨w1.heap.size, 4, none⟩) (show w.heap.size ≤ w1.heap.size by omega) v5
        clear HL q1C q1O q1B q2C q2O q2B q3C q3O q3B q4C q4O q4B qu1 qu2 qu3 qB1 qB2 qB3 qB4
        generalize ((l.take k).map F).length + 1 = n5 at hv5
        subst hv5
        go_wp2
        go_roundw
        case rel => exact ⟨k + 1, _, by omega, by go_num, mC, mO, mB, ho6, hB6⟩
        case measure => simp [intOf]; omega
      · obtain rfl : k = n := by omega
        have ho := qu0.mono (show w.heap.size ≤ w1.heap.size by omega)
        obtain ⟨kc', kf', ka', kg', kl'⟩ := q0O.rules
        obtain ⟨A0, c0', hv0, _, _⟩ := ho.form encB_len
        generalize ((l.take k).map F).length = n0 at hv0
        subst hv0
        have o1 := ho.setFar q0O (by decide) 0 (.int .i64 r.x0)
        have m1 := q0O.set 0 (.int .i64 r.x0)
        have o2 := o1.setFar m1 (by decide) 1 (.int .i64 r.y0)
        have m2 := m1.set 1 (.int .i64 r.y0)
        have o3 := o2.setFar m2 (by decide) 2 (.int .i64 r.x1)
        have m3 := m2.set 2 (.int .i64 r.x1)
        have o4 := o3.setFar m3 (by decide) 3 (.int .i64 r.y1)
        have m4 := m3.set 3 (.int .i64 r.y1)
        have o5 := o4.setFar m4 (by decide) 4 (.slice A0 n0 c0')
        clear o1 o2 o3 o4 m1 m2 m3 m4
        rw [List.take_of_length_le (by have := Hn.out; omega)] at o5
        go_wp2
        refine bodyPost_ret (v := _) ?_ rfl ⟨_, rfl, o5, (by repeat (first | (with_reducible exact Below.refl _ _) | (with_reducible refine balloc ?_ _) | (with_reducible refine Below.drew ?_) | (with_reducible refine bdrewN ?_ _) | ((with_reducible refine bset ?_ ?_ _); rotate_left; focus (first | (with_reducible exact Nat.le_refl _) | (simp; done) | (simp; omega) | omega)) | (with_reducible refine bstep (by with_reducible assumption) ?_)))⟩
        simp [results, Try.results35, go_sem, kc']
end Go.Proofs.Ytndablijjkchjaa
