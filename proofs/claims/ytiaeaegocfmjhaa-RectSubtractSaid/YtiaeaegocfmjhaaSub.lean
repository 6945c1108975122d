/-
  The walks of rect.Subtract and grisailleref09.Subtract.
-/
import Derived.Test.YtiaeaegocfmjhaaSame
import Derived.Test.YtiaeaegocfmjhaaRef09b
namespace Go.Proofs.Ytiaeaegocfmjhaa
open Go.RowKit
set_option linter.unusedSimpArgs false
set_option linter.unusedVariables false


def partsL (p q : Rc) : List Rc := if emptyB q then [p] else [⟨p.x0, p.y0, p.x1, q.y0⟩, ⟨p.x0, q.y0, q.x0, q.y1⟩, ⟨q.x1, q.y0, p.x1, q.y1⟩, ⟨p.x0, q.y1, p.x1, p.y1⟩]
def fullB (r : Rc) : Bool := !emptyB r
def subL (a b : Rc) : List Rc := (partsL (canonR a) (interR (canonR a) b)).filter fullB

/-- A slice in new memory that holds the list l is returned; nothing old has changed. -/
def RetR (l : List Rc) (w : World) (e : Ending) (w' : World) : Prop := ∃ v, e = .returned v ∧ OwnL encR 23 4 w' w.heap.size v l ∧ Below w.heap.size w w'

set_option maxHeartbeats 1000000 in
theorem sub_any (a b c d a' b' c' d' : Int) (w : World) :
    Calls Try.prog 14 #[.agg #[.int .i64 a, .int .i64 b, .int .i64 c, .int .i64 d], .agg #[.int .i64 a', .int .i64 b', .int .i64 c', .int .i64 d']] w (RetR (subL ⟨a, b, c, d⟩ ⟨a', b', c', d'⟩) w) := by
  obtain ⟨p, Hp⟩ : ∃ p, Hid (canonR ⟨a, b, c, d⟩ = p) := ⟨_, rfl⟩
  obtain ⟨q, Hq⟩ : ∃ q, Hid (interR ⟨p.x0, p.y0, p.x1, p.y1⟩ ⟨a', b', c', d'⟩ = q) := ⟨_, rfl⟩
  obtain ⟨ps, Hs⟩ : ∃ ps, Hid (partsL p q = ps) := ⟨_, rfl⟩
  have HL : Hid (subL ⟨a, b, c, d⟩ ⟨a', b', c', d'⟩ = ps.filter fullB) := by
    unfold Hid subL; rw [Hp.out]; show (partsL p (interR ⟨p.x0, p.y0, p.x1, p.y1⟩ _)).filter fullB = _; rw [Hq.out, Hs.out]
  rw [HL.out]
  clear HL
  go_enter Try.func14, Try.ntmps14
  go_wp2_with fail
  refine (canon_q _ _ _ _ p Hp _).mono ?_
  rintro e w1 ⟨rfl, hb1⟩
  have kA1 : Bk w1 (w.heap.size) 23 #[.int .i64 a, .int .i64 b, .int .i64 c, .int .i64 d] := (by repeat (first | (with_reducible assumption) | ((with_reducible refine Bk.new _ _ _ ?_); first | (with_reducible rfl) | (simp; done)) | (with_reducible refine Bk.alloc ?_ _) | (with_reducible refine Bk.drew ?_) | (with_reducible refine Bk.drewN ?_ _) | ((with_reducible refine Bk.far ?_ ?_ _); rotate_left; focus (first | (simp; done) | (simp; omega))) | (with_reducible refine Bk.below ?_ (by with_reducible assumption)))); obtain ⟨kcA1, kfA1, kaA1, kgA1, klA1⟩ := kA1.rules; have kB1 : Bk w1 (w.heap.size + 1) 23 #[.int .i64 a', .int .i64 b', .int .i64 c', .int .i64 d'] := (by repeat (first | (with_reducible assumption) | ((with_reducible refine Bk.new _ _ _ ?_); first | (with_reducible rfl) | (simp; done)) | (with_reducible refine Bk.alloc ?_ _) | (with_reducible refine Bk.drew ?_) | (with_reducible refine Bk.drewN ?_ _) | ((with_reducible refine Bk.far ?_ ?_ _); rotate_left; focus (first | (simp; done) | (simp; omega))) | (with_reducible refine Bk.below ?_ (by with_reducible assumption)))); obtain ⟨kcB1, kfB1, kaB1, kgB1, klB1⟩ := kB1.rules
  go_wp2_with fail
  refine (inter_q _ _ _ _ _ _ _ _ q Hq _).mono ?_
  rintro e w2 ⟨rfl, hb2⟩
  have kP2 : Bk w2 (w.heap.size) 23 #[.int .i64 p.x0, .int .i64 p.y0, .int .i64 p.x1, .int .i64 p.y1] := Bk.below ((((kA1.set 0 _).set 1 _).set 2 _).set 3 _) hb2
  obtain ⟨kcP2, kfP2, kaP2, kgP2, klP2⟩ := kP2.rules
  have kB2 : Bk w2 (w.heap.size + 1) 23 #[.int .i64 a', .int .i64 b', .int .i64 c', .int .i64 d'] := (by repeat (first | (with_reducible assumption) | ((with_reducible refine Bk.new _ _ _ ?_); first | (with_reducible rfl) | (simp; done)) | (with_reducible refine Bk.alloc ?_ _) | (with_reducible refine Bk.drew ?_) | (with_reducible refine Bk.drewN ?_ _) | ((with_reducible refine Bk.far ?_ ?_ _); rotate_left; focus (first | (simp; done) | (simp; omega))) | (with_reducible refine Bk.below ?_ (by with_reducible assumption)))); obtain ⟨kcB2, kfB2, kaB2, kgB2, klB2⟩ := kB2.rules
  obtain ⟨v, Hv⟩ : ∃ v, Hid (emptyB ⟨q.x0, q.y0, q.x1, q.y1⟩ = v) := ⟨_, rfl⟩
  clear kA1 kcA1 kfA1 kaA1 kgA1 kB1 kcB1 kfB1 kaB1 kgB1
  go_wp2_with fail
  refine (empty_q _ _ _ _ v Hv _).mono ?_
  rintro e w3 ⟨rfl, hb3⟩
  have hz3 : w2.heap.size + 2 ≤ w3.heap.size := by have := hb3.size; simp at this; omega
  have kA13 : Bk w3 (w.heap.size) 23 #[.int .i64 p.x0, .int .i64 p.y0, .int .i64 p.x1, .int .i64 p.y1] := (by repeat (first | (with_reducible assumption) | ((with_reducible refine Bk.new _ _ _ ?_); first | (with_reducible rfl) | (simp; done)) | (with_reducible refine Bk.alloc ?_ _) | (with_reducible refine Bk.drew ?_) | (with_reducible refine Bk.drewN ?_ _) | ((with_reducible refine Bk.far ?_ ?_ _); rotate_left; focus (first | (simp; done) | (simp; omega))) | (with_reducible refine Bk.below ?_ (by with_reducible assumption)))); obtain ⟨kcA13, kfA13, kaA13, kgA13, klA13⟩ := kA13.rules; have kM3 : Bk w3 (w2.heap.size) 23 #[.int .i64 q.x0, .int .i64 q.y0, .int .i64 q.x1, .int .i64 q.y1] := (by repeat (first | (with_reducible assumption) | ((with_reducible refine Bk.new _ _ _ ?_); first | (with_reducible rfl) | (simp; done)) | (with_reducible refine Bk.alloc ?_ _) | (with_reducible refine Bk.drew ?_) | (with_reducible refine Bk.drewN ?_ _) | ((with_reducible refine Bk.far ?_ ?_ _); rotate_left; focus (first | (simp; done) | (simp; omega))) | (with_reducible refine Bk.below ?_ (by with_reducible assumption)))); obtain ⟨kcM3, kfM3, kaM3, kgM3, klM3⟩ := kM3.rules
  cases v
  · have HE : Hid (emptyB q = false) := Hv.out
    go_wp2
    go_loopw [7, 59] (fun v i wr => ∃ k : Nat, k ≤ 4 ∧ i = .int .i64 k ∧ Bk wr (w3.heap.size) 23 #[.int .i64 p.x0, .int .i64 p.y0, .int .i64 p.x1, .int .i64 q.y0, .int .i64 p.x0, .int .i64 q.y0, .int .i64 q.x0, .int .i64 q.y1, .int .i64 q.x1, .int .i64 q.y0, .int .i64 p.x1, .int .i64 q.y1, .int .i64 p.x0, .int .i64 q.y1, .int .i64 p.x1, .int .i64 p.y1] ∧ OwnL encR 23 4 wr (w3.heap.size + 1) v ((ps.take k).filter fullB) ∧ Below w.heap.size w wr) (fun _ i _ => 4 - (intOf i).toNat)
    case atStart => exact ⟨0, Nat.zero_le _, rfl, (by repeat (first | (with_reducible assumption) | ((with_reducible refine Bk.new _ _ _ ?_); first | (with_reducible rfl) | (simp; done)) | (with_reducible refine Bk.alloc ?_ _) | (with_reducible refine Bk.drew ?_) | (with_reducible refine Bk.drewN ?_ _) | ((with_reducible refine Bk.far ?_ ?_ _); rotate_left; focus (first | (simp; done) | (simp; omega))) | (with_reducible refine Bk.below ?_ (by with_reducible assumption)))), OwnL.nil _ _, (by repeat (first | (with_reducible exact Below.refl _ _) | (with_reducible refine balloc ?_ _) | (with_reducible refine Below.drew ?_) | (with_reducible refine bdrewN ?_ _) | ((with_reducible refine bset ?_ ?_ _); rotate_left; focus (first | (with_reducible exact Nat.le_refl _) | (simp; done) | (simp; omega) | omega)) | (with_reducible refine bstep (by with_reducible assumption) ?_)))⟩
    case round =>
      obtain ⟨k, hk, rfl, hbk, hown, hbw⟩ := hrel
      by_cases hlt : k < 4
      · have hkl : k < ps.length := by rw [← Hs.out]; unfold partsL; rw [HE.out]; exact hlt
        obtain ⟨_, _, hA, hg, hc⟩ := rd4 (rd_of_bk (size := 4) encR_len hbk (l := ps) (by rw [← Hs.out]; unfold partsL; rw [HE.out]; rfl)) hkl
        injection hA with hA
        injection hA with hA1 hA2 _
        subst hA1 hA2
        rw [Nat.zero_add] at hc
        obtain ⟨r, Hr⟩ : ∃ r, Hid (ps[k] = r) := ⟨ps[k], rfl⟩
        rw [Hr.out] at hc
        obtain ⟨c0, c1, c2, c3⟩ := hc
        obtain ⟨u, Hu⟩ : ∃ u, Hid (emptyB ⟨r.x0, r.y0, r.x1, r.y1⟩ = u) := ⟨_, rfl⟩
        have HN : Hid ((ps.take (k + 1)).filter fullB = (ps.take k).filter fullB ++ if u then [] else [r]) := by
          unfold Hid
          rw [List.take_succ_eq_append_getElem hkl, List.filter_append, Hr.out]
          have : fullB r = !u := by unfold fullB; rw [← Hu.out]
          rw [List.filter_cons, this]
          cases u <;> rfl
        have hfl : ((ps.take k).filter fullB).length ≤ 4294967296 := by
          have h1 := List.length_filter_le fullB (ps.take k)
          have h2 := List.length_take_le k ps
          omega
        have i0 : (0 : Int) ≤ (k : Int) := by omega
        clear Hr hkl
        go_wp2_with fail
        refine (empty_q _ _ _ _ u Hu _).mono ?_
        rintro e w4 ⟨rfl, hb4⟩
        have kr4 : Bk w4 wr.heap.size 23 #[.int .i64 r.x0, .int .i64 r.y0, .int .i64 r.x1, .int .i64 r.y1] := (by repeat (first | (with_reducible assumption) | ((with_reducible refine Bk.new _ _ _ ?_); first | (with_reducible rfl) | (simp; done)) | (with_reducible refine Bk.alloc ?_ _) | (with_reducible refine Bk.drew ?_) | (with_reducible refine Bk.drewN ?_ _) | ((with_reducible refine Bk.far ?_ ?_ _); rotate_left; focus (first | (simp; done) | (simp; omega))) | (with_reducible refine Bk.below ?_ (by with_reducible assumption))))
        have kp4 : Bk w4 (w3.heap.size) 23 #[.int .i64 p.x0, .int .i64 p.y0, .int .i64 p.x1, .int .i64 q.y0, .int .i64 p.x0, .int .i64 q.y0, .int .i64 q.x0, .int .i64 q.y1, .int .i64 q.x1, .int .i64 q.y0, .int .i64 p.x1, .int .i64 q.y1, .int .i64 p.x0, .int .i64 q.y1, .int .i64 p.x1, .int .i64 p.y1] := (by repeat (first | (with_reducible assumption) | ((with_reducible refine Bk.new _ _ _ ?_); first | (with_reducible rfl) | (simp; done)) | (with_reducible refine Bk.alloc ?_ _) | (with_reducible refine Bk.drew ?_) | (with_reducible refine Bk.drewN ?_ _) | ((with_reducible refine Bk.far ?_ ?_ _); rotate_left; focus (first | (simp; done) | (simp; omega))) | (with_reducible refine Bk.below ?_ (by with_reducible assumption))))
        have ho4 := (hown.alloc (.cells #[.int .i64 r.x0, .int .i64 r.y0, .int .i64 r.x1, .int .i64 r.y1] 23)).below hb4
        have hw4 : Below w.heap.size w w4 := (by repeat (first | (with_reducible exact Below.refl _ _) | (with_reducible refine balloc ?_ _) | (with_reducible refine Below.drew ?_) | (with_reducible refine bdrewN ?_ _) | ((with_reducible refine bset ?_ ?_ _); rotate_left; focus (first | (with_reducible exact Nat.le_refl _) | (simp; done) | (simp; omega) | omega)) | (with_reducible refine bstep (by with_reducible assumption) ?_)))
        have hgl := hbk.lt
        have hz4 : wr.heap.size + 1 ≤ w4.heap.size := by have := hb4.size; simp at this; omega
        obtain ⟨kc4, kf4, ka4, kg4, kl4⟩ := kr4.rules
        clear c0 c1 c2 c3
        cases u
        · have HN' : Hid ((ps.take (k + 1)).filter fullB = (ps.take k).filter fullB ++ [r]) := HN.out
          clear HN
          go_wp2_with (at_builtin; refine wpList_append_one encR_len encR_one 25 Try.infoRect rfl (by decide) (by decide) Try.underlying25 rfl _ _ rfl (w3.heap.size + 1) _ _ rfl (ho4.alloc _) w4.heap.size r rfl (Bk.new _ _ _ rfl) rfl hfl (by simp; omega) ?_; intro v5 w5 ho5 hg5 hv5)
          have kp5 := (kp4.alloc (.cells #[.int .i64 r.x0, .int .i64 r.y0, .int .i64 r.x1, .int .i64 r.y1] 23)).grownRow (ho4.alloc _) hg5 (Nat.lt_succ_self _)
          have hw5 := below_grown (ho4.alloc _) hg5 (balloc hw4 _) (by omega)
          rw [← HN'.out] at ho5
          clear hv5 hg5 ho4 kp4 hw4 kr4 kc4 kf4 ka4 kg4 hown hbk hbw
          go_wp2
          go_roundw
          case rel => exact ⟨k + 1, by omega, by go_num, kp5, ho5, hw5⟩
          case measure => simp [intOf]; omega
        · have HN' : Hid ((ps.take (k + 1)).filter fullB = (ps.take k).filter fullB) := by unfold Hid; rw [HN.out]; simp
          clear HN
          rw [← HN'.out] at ho4
          go_wp2
          go_roundw
          case rel => exact ⟨k + 1, by omega, by go_num, kp4, ho4, hw4⟩
          case measure => simp [intOf]; omega
      · have HF : Hid (ps.take k = ps) := List.take_of_length_le (by rw [← Hs.out]; unfold partsL; rw [HE.out]; show 4 ≤ k; omega)
        rw [HF.out] at hown
        have hgw : w.heap.size ≤ w3.heap.size + 1 := by omega
        go_wp2
        go_ret
        exact ⟨_, rfl, hown.mono hgw, hbw⟩
  · have HE : Hid (emptyB q = true) := Hv.out
    go_wp2
    go_loopw [7, 59] (fun v i wr => ∃ k : Nat, k ≤ 1 ∧ i = .int .i64 k ∧ Bk wr (w2.heap.size + 1) 23 #[.int .i64 p.x0, .int .i64 p.y0, .int .i64 p.x1, .int .i64 p.y1] ∧ OwnL encR 23 4 wr (w2.heap.size + 1 + 1) v ((ps.take k).filter fullB) ∧ Below w.heap.size w wr) (fun _ i _ => 1 - (intOf i).toNat)
    case atStart => exact ⟨0, Nat.zero_le _, rfl, (by repeat (first | (with_reducible assumption) | ((with_reducible refine Bk.new _ _ _ ?_); first | (with_reducible rfl) | (simp; done)) | (with_reducible refine Bk.alloc ?_ _) | (with_reducible refine Bk.drew ?_) | (with_reducible refine Bk.drewN ?_ _) | ((with_reducible refine Bk.far ?_ ?_ _); rotate_left; focus (first | (simp; done) | (simp; omega))) | (with_reducible refine Bk.below ?_ (by with_reducible assumption)))), OwnL.nil _ _, (by repeat (first | (with_reducible exact Below.refl _ _) | (with_reducible refine balloc ?_ _) | (with_reducible refine Below.drew ?_) | (with_reducible refine bdrewN ?_ _) | ((with_reducible refine bset ?_ ?_ _); rotate_left; focus (first | (with_reducible exact Nat.le_refl _) | (simp; done) | (simp; omega) | omega)) | (with_reducible refine bstep (by with_reducible assumption) ?_)))⟩
    case round =>
      obtain ⟨k, hk, rfl, hbk, hown, hbw⟩ := hrel
      by_cases hlt : k < 1
      · have hkl : k < ps.length := by rw [← Hs.out]; unfold partsL; rw [HE.out]; exact hlt
        obtain ⟨_, _, hA, hg, hc⟩ := rd4 (rd_of_bk (size := 4) encR_len hbk (l := ps) (by rw [← Hs.out]; unfold partsL; rw [HE.out]; rfl)) hkl
        injection hA with hA
        injection hA with hA1 hA2 _
        subst hA1 hA2
        rw [Nat.zero_add] at hc
        obtain ⟨r, Hr⟩ : ∃ r, Hid (ps[k] = r) := ⟨ps[k], rfl⟩
        rw [Hr.out] at hc
        obtain ⟨c0, c1, c2, c3⟩ := hc
        obtain ⟨u, Hu⟩ : ∃ u, Hid (emptyB ⟨r.x0, r.y0, r.x1, r.y1⟩ = u) := ⟨_, rfl⟩
        have HN : Hid ((ps.take (k + 1)).filter fullB = (ps.take k).filter fullB ++ if u then [] else [r]) := by
          unfold Hid
          rw [List.take_succ_eq_append_getElem hkl, List.filter_append, Hr.out]
          have : fullB r = !u := by unfold fullB; rw [← Hu.out]
          rw [List.filter_cons, this]
          cases u <;> rfl
        have hfl : ((ps.take k).filter fullB).length ≤ 4294967296 := by
          have h1 := List.length_filter_le fullB (ps.take k)
          have h2 := List.length_take_le k ps
          omega
        have i0 : (0 : Int) ≤ (k : Int) := by omega
        clear Hr hkl
        go_wp2_with fail
        refine (empty_q _ _ _ _ u Hu _).mono ?_
        rintro e w4 ⟨rfl, hb4⟩
        have kr4 : Bk w4 wr.heap.size 23 #[.int .i64 r.x0, .int .i64 r.y0, .int .i64 r.x1, .int .i64 r.y1] := (by repeat (first | (with_reducible assumption) | ((with_reducible refine Bk.new _ _ _ ?_); first | (with_reducible rfl) | (simp; done)) | (with_reducible refine Bk.alloc ?_ _) | (with_reducible refine Bk.drew ?_) | (with_reducible refine Bk.drewN ?_ _) | ((with_reducible refine Bk.far ?_ ?_ _); rotate_left; focus (first | (simp; done) | (simp; omega))) | (with_reducible refine Bk.below ?_ (by with_reducible assumption))))
        have kp4 : Bk w4 (w2.heap.size + 1) 23 #[.int .i64 p.x0, .int .i64 p.y0, .int .i64 p.x1, .int .i64 p.y1] := (by repeat (first | (with_reducible assumption) | ((with_reducible refine Bk.new _ _ _ ?_); first | (with_reducible rfl) | (simp; done)) | (with_reducible refine Bk.alloc ?_ _) | (with_reducible refine Bk.drew ?_) | (with_reducible refine Bk.drewN ?_ _) | ((with_reducible refine Bk.far ?_ ?_ _); rotate_left; focus (first | (simp; done) | (simp; omega))) | (with_reducible refine Bk.below ?_ (by with_reducible assumption))))
        have ho4 := (hown.alloc (.cells #[.int .i64 r.x0, .int .i64 r.y0, .int .i64 r.x1, .int .i64 r.y1] 23)).below hb4
        have hw4 : Below w.heap.size w w4 := (by repeat (first | (with_reducible exact Below.refl _ _) | (with_reducible refine balloc ?_ _) | (with_reducible refine Below.drew ?_) | (with_reducible refine bdrewN ?_ _) | ((with_reducible refine bset ?_ ?_ _); rotate_left; focus (first | (with_reducible exact Nat.le_refl _) | (simp; done) | (simp; omega) | omega)) | (with_reducible refine bstep (by with_reducible assumption) ?_)))
        have hgl := hbk.lt
        have hz4 : wr.heap.size + 1 ≤ w4.heap.size := by have := hb4.size; simp at this; omega
        obtain ⟨kc4, kf4, ka4, kg4, kl4⟩ := kr4.rules
        clear c0 c1 c2 c3
        cases u
        · have HN' : Hid ((ps.take (k + 1)).filter fullB = (ps.take k).filter fullB ++ [r]) := HN.out
          clear HN
          go_wp2_with (at_builtin; refine wpList_append_one encR_len encR_one 25 Try.infoRect rfl (by decide) (by decide) Try.underlying25 rfl _ _ rfl (w2.heap.size + 1 + 1) _ _ rfl (ho4.alloc _) w4.heap.size r rfl (Bk.new _ _ _ rfl) rfl hfl (by simp; omega) ?_; intro v5 w5 ho5 hg5 hv5)
          have kp5 := (kp4.alloc (.cells #[.int .i64 r.x0, .int .i64 r.y0, .int .i64 r.x1, .int .i64 r.y1] 23)).grownRow (ho4.alloc _) hg5 (Nat.lt_succ_self _)
          have hw5 := below_grown (ho4.alloc _) hg5 (balloc hw4 _) (by omega)
          rw [← HN'.out] at ho5
          clear hv5 hg5 ho4 kp4 hw4 kr4 kc4 kf4 ka4 kg4 hown hbk hbw
          go_wp2
          go_roundw
          case rel => exact ⟨k + 1, by omega, by go_num, kp5, ho5, hw5⟩
          case measure => simp [intOf]; omega
        · have HN' : Hid ((ps.take (k + 1)).filter fullB = (ps.take k).filter fullB) := by unfold Hid; rw [HN.out]; simp
          clear HN
          rw [← HN'.out] at ho4
          go_wp2
          go_roundw
          case rel => exact ⟨k + 1, by omega, by go_num, kp4, ho4, hw4⟩
          case measure => simp [intOf]; omega
      · have HF : Hid (ps.take k = ps) := List.take_of_length_le (by rw [← Hs.out]; unfold partsL; rw [HE.out]; show 1 ≤ k; omega)
        rw [HF.out] at hown
        have hgw : w.heap.size ≤ w2.heap.size + 1 + 1 := by omega
        go_wp2
        go_ret
        exact ⟨_, rfl, hown.mono hgw, hbw⟩

/-- The reference's Subtract in plain Lean. -/
def rmR (a m : Rc) : Rc := if emptyB m then ⟨a.x0, a.y1, a.x1, a.y1⟩ else m
def rpartsL (a m : Rc) : List Rc := [⟨a.x0, a.y0, a.x1, m.y0⟩, ⟨a.x0, m.y0, m.x0, m.y1⟩, ⟨m.x1, m.y0, a.x1, m.y1⟩, ⟨a.x0, m.y1, a.x1, a.y1⟩]
def rsubL (a b : Rc) : List Rc := if emptyB a then [] else (rpartsL a (rmR a (interR a b))).filter fullB
theorem canon_idem (a : Rc) : canonR (canonR a) = canonR a := by
  cases he : emptyB a with
  | true => rw [canon_of_empty he, canon_of_empty zero_empty]
  | false => rw [canon_of_full he, canon_of_full he]
theorem inter_canon (a b : Rc) : interR (canonR a) b = interR a b := by unfold interR; rw [canon_idem]
theorem rsub_eq (a b : Rc) : rsubL a b = subL a b := by
  unfold rsubL subL
  rw [inter_canon]
  cases he : emptyB a with
  | true =>
    have hi : emptyB (interR a b) = true := by
      rw [← rinter_eq]; unfold rinterR; rw [he]; exact zero_empty
    rw [canon_of_empty he]
    simp only [if_true]
    unfold partsL
    rw [hi]
    simp [fullB, zero_empty]
  | false =>
    rw [canon_of_full he]
    simp only [Bool.false_eq_true, if_false]
    unfold partsL rmR
    cases hi : emptyB (interR a b) with
    | false => rfl
    | true =>
      simp only [if_true, rpartsL]
      have e1 : fullB ⟨a.x0, a.y1, a.x0, a.y1⟩ = false := by unfold fullB; rw [emptyB_true_of (by simp)]; rfl
      have e2 : fullB ⟨a.x1, a.y1, a.x1, a.y1⟩ = false := by unfold fullB; rw [emptyB_true_of (by simp)]; rfl
      have e3 : fullB ⟨a.x0, a.y1, a.x1, a.y1⟩ = false := by unfold fullB; rw [emptyB_true_of (by simp)]; rfl
      have e0 : fullB a = true := by unfold fullB; rw [he]; rfl
      have e4 : fullB ⟨a.x0, a.y0, a.x1, a.y1⟩ = true := e0
      simp [List.filter_cons, e0, e1, e2, e3, e4]


set_option maxHeartbeats 1600000 in
theorem rsub_any (a b c d a' b' c' d' : Int) (w : World) :
    Calls Try.prog 15 #[.agg #[.int .i64 a, .int .i64 b, .int .i64 c, .int .i64 d], .agg #[.int .i64 a', .int .i64 b', .int .i64 c', .int .i64 d']] w (RetR (subL ⟨a, b, c, d⟩ ⟨a', b', c', d'⟩) w) := by
  rw [← rsub_eq]
  obtain ⟨q, Hq⟩ : ∃ q, Hid (interR ⟨a, b, c, d⟩ ⟨a', b', c', d'⟩ = q) := ⟨_, rfl⟩
  obtain ⟨v, Hv⟩ : ∃ v, Hid (emptyB ⟨q.x0, q.y0, q.x1, q.y1⟩ = v) := ⟨_, rfl⟩
  obtain ⟨u, Hu⟩ : ∃ v, Hid (emptyB ⟨a, b, c, d⟩ = v) := ⟨_, rfl⟩
  obtain ⟨R, HR⟩ : ∃ R, Hid (rsubL ⟨a, b, c, d⟩ ⟨a', b', c', d'⟩ = R) := ⟨_, rfl⟩
  rw [HR.out]
  go_enter Try.func15, Try.ntmps15
  go_wp2_with fail
  refine (rinter_q _ _ _ _ _ _ _ _ q Hq _).mono ?_
  rintro e w1 ⟨rfl, hb1⟩
  have kA1 : Bk w1 (w.heap.size) 23 #[.int .i64 a, .int .i64 b, .int .i64 c, .int .i64 d] := (by repeat (first | (with_reducible assumption) | ((with_reducible refine Bk.new _ _ _ ?_); first | (with_reducible rfl) | (simp; done)) | (with_reducible refine Bk.alloc ?_ _) | (with_reducible refine Bk.drew ?_) | (with_reducible refine Bk.drewN ?_ _) | ((with_reducible refine Bk.far ?_ ?_ _); rotate_left; focus (first | (simp; done) | (simp; omega))) | (with_reducible refine Bk.below ?_ (by with_reducible assumption)))); obtain ⟨kcA1, kfA1, kaA1, kgA1, klA1⟩ := kA1.rules; have kB1 : Bk w1 (w.heap.size + 1) 23 #[.int .i64 a', .int .i64 b', .int .i64 c', .int .i64 d'] := (by repeat (first | (with_reducible assumption) | ((with_reducible refine Bk.new _ _ _ ?_); first | (with_reducible rfl) | (simp; done)) | (with_reducible refine Bk.alloc ?_ _) | (with_reducible refine Bk.drew ?_) | (with_reducible refine Bk.drewN ?_ _) | ((with_reducible refine Bk.far ?_ ?_ _); rotate_left; focus (first | (simp; done) | (simp; omega))) | (with_reducible refine Bk.below ?_ (by with_reducible assumption)))); obtain ⟨kcB1, kfB1, kaB1, kgB1, klB1⟩ := kB1.rules; have kO1 : Bk w1 (w.heap.size + 1 + 1) 23 #[] := (by repeat (first | (with_reducible assumption) | ((with_reducible refine Bk.new _ _ _ ?_); first | (with_reducible rfl) | (simp; done)) | (with_reducible refine Bk.alloc ?_ _) | (with_reducible refine Bk.drew ?_) | (with_reducible refine Bk.drewN ?_ _) | ((with_reducible refine Bk.far ?_ ?_ _); rotate_left; focus (first | (simp; done) | (simp; omega))) | (with_reducible refine Bk.below ?_ (by with_reducible assumption)))); obtain ⟨kcO1, kfO1, kaO1, kgO1, klO1⟩ := kO1.rules
  go_wp2_with fail
  refine (rempty_q _ _ _ _ v Hv _).mono ?_
  rintro e w2 ⟨rfl, hb2⟩
  
  have kA2 : Bk w2 (w.heap.size) 23 #[.int .i64 a, .int .i64 b, .int .i64 c, .int .i64 d] := (by repeat (first | (with_reducible assumption) | ((with_reducible refine Bk.new _ _ _ ?_); first | (with_reducible rfl) | (simp; done)) | (with_reducible refine Bk.alloc ?_ _) | (with_reducible refine Bk.drew ?_) | (with_reducible refine Bk.drewN ?_ _) | ((with_reducible refine Bk.far ?_ ?_ _); rotate_left; focus (first | (simp; done) | (simp; omega))) | (with_reducible refine Bk.below ?_ (by with_reducible assumption)))); obtain ⟨kcA2, kfA2, kaA2, kgA2, klA2⟩ := kA2.rules; have kB2 : Bk w2 (w.heap.size + 1) 23 #[.int .i64 a', .int .i64 b', .int .i64 c', .int .i64 d'] := (by repeat (first | (with_reducible assumption) | ((with_reducible refine Bk.new _ _ _ ?_); first | (with_reducible rfl) | (simp; done)) | (with_reducible refine Bk.alloc ?_ _) | (with_reducible refine Bk.drew ?_) | (with_reducible refine Bk.drewN ?_ _) | ((with_reducible refine Bk.far ?_ ?_ _); rotate_left; focus (first | (simp; done) | (simp; omega))) | (with_reducible refine Bk.below ?_ (by with_reducible assumption)))); obtain ⟨kcB2, kfB2, kaB2, kgB2, klB2⟩ := kB2.rules; have kO2 : Bk w2 (w.heap.size + 1 + 1) 23 #[] := (by repeat (first | (with_reducible assumption) | ((with_reducible refine Bk.new _ _ _ ?_); first | (with_reducible rfl) | (simp; done)) | (with_reducible refine Bk.alloc ?_ _) | (with_reducible refine Bk.drew ?_) | (with_reducible refine Bk.drewN ?_ _) | ((with_reducible refine Bk.far ?_ ?_ _); rotate_left; focus (first | (simp; done) | (simp; omega))) | (with_reducible refine Bk.below ?_ (by with_reducible assumption)))); obtain ⟨kcO2, kfO2, kaO2, kgO2, klO2⟩ := kO2.rules; have kMq2 : Bk w2 (w1.heap.size) 23 #[.int .i64 q.x0, .int .i64 q.y0, .int .i64 q.x1, .int .i64 q.y1] := (by repeat (first | (with_reducible assumption) | ((with_reducible refine Bk.new _ _ _ ?_); first | (with_reducible rfl) | (simp; done)) | (with_reducible refine Bk.alloc ?_ _) | (with_reducible refine Bk.drew ?_) | (with_reducible refine Bk.drewN ?_ _) | ((with_reducible refine Bk.far ?_ ?_ _); rotate_left; focus (first | (simp; done) | (simp; omega))) | (with_reducible refine Bk.below ?_ (by with_reducible assumption)))); obtain ⟨kcMq2, kfMq2, kaMq2, kgMq2, klMq2⟩ := kMq2.rules
  clear kA1 kcA1 kfA1 kaA1 kgA1 kB1 kcB1 kfB1 kaB1 kgB1 kO1 kcO1 kfO1 kaO1 kgO1
  cases v
  · have HM : rmR ⟨a, b, c, d⟩ q = q := by unfold rmR; rw [show emptyB q = false from Hv.out]; rfl
    go_wp2_with fail
    refine (rempty_q _ _ _ _ u Hu _).mono ?_
    rintro e w3 ⟨rfl, hb3⟩
    have kM : Bk w3 w1.heap.size 23 #[.int .i64 q.x0, .int .i64 q.y0, .int .i64 q.x1, .int .i64 q.y1] := (by repeat (first | (with_reducible assumption) | ((with_reducible refine Bk.new _ _ _ ?_); first | (with_reducible rfl) | (simp; done)) | (with_reducible refine Bk.alloc ?_ _) | (with_reducible refine Bk.drew ?_) | (with_reducible refine Bk.drewN ?_ _) | ((with_reducible refine Bk.far ?_ ?_ _); rotate_left; focus (first | (simp; done) | (simp; omega))) | (with_reducible refine Bk.below ?_ (by with_reducible assumption))))
    have HP : Hid (R = if u then [] else (rpartsL ⟨a, b, c, d⟩ q).filter fullB) := by
      unfold Hid; rw [← HR.out]; unfold rsubL; rw [Hq.out, HM, Hu.out]
    clear HM HR
    have kA3 : Bk w3 w.heap.size 23 #[.int .i64 a, .int .i64 b, .int .i64 c, .int .i64 d] := (by repeat (first | (with_reducible assumption) | ((with_reducible refine Bk.new _ _ _ ?_); first | (with_reducible rfl) | (simp; done)) | (with_reducible refine Bk.alloc ?_ _) | (with_reducible refine Bk.drew ?_) | (with_reducible refine Bk.drewN ?_ _) | ((with_reducible refine Bk.far ?_ ?_ _); rotate_left; focus (first | (simp; done) | (simp; omega))) | (with_reducible refine Bk.below ?_ (by with_reducible assumption))))
    have kO3 : Bk w3 (w.heap.size + 1 + 1) 23 #[] := (by repeat (first | (with_reducible assumption) | ((with_reducible refine Bk.new _ _ _ ?_); first | (with_reducible rfl) | (simp; done)) | (with_reducible refine Bk.alloc ?_ _) | (with_reducible refine Bk.drew ?_) | (with_reducible refine Bk.drewN ?_ _) | ((with_reducible refine Bk.far ?_ ?_ _); rotate_left; focus (first | (simp; done) | (simp; omega))) | (with_reducible refine Bk.below ?_ (by with_reducible assumption))))
    obtain ⟨kcM, kfM, kaM, kgM, klM⟩ := kM.rules
    obtain ⟨kcA3, kfA3, kaA3, kgA3, klA3⟩ := kA3.rules
    have hw3 : Below w.heap.size w w3 := (by repeat (first | (with_reducible exact Below.refl _ _) | (with_reducible refine balloc ?_ _) | (with_reducible refine Below.drew ?_) | (with_reducible refine bdrewN ?_ _) | ((with_reducible refine bset ?_ ?_ _); rotate_left; focus (first | (with_reducible exact Nat.le_refl _) | (simp; done) | (simp; omega) | omega)) | (with_reducible refine bstep (by with_reducible assumption) ?_)))
    clear kA2 kcA2 kfA2 kaA2 kgA2 kB2 kcB2 kfB2 kaB2 kgB2 kO2 kcO2 kfO2 kaO2 kgO2 kMq2 kcMq2 kfMq2 kaMq2 kgMq2
    cases u
    · obtain ⟨ps, Hs⟩ : ∃ ps, Hid (rpartsL ⟨a, b, c, d⟩ q = ps) := ⟨_, rfl⟩
      have HR : Hid (R = ps.filter fullB) := by unfold Hid; rw [HP.out, ← Hs.out]; rfl
      clear HP
      go_wp2
      go_loopw [5, 8] (fun v i wr => ∃ k : Nat, k ≤ 4 ∧ i = .int .i64 k ∧ Bk wr w3.heap.size 23 #[.int .i64 a, .int .i64 b, .int .i64 c, .int .i64 q.y0, .int .i64 a, .int .i64 q.y0, .int .i64 q.x0, .int .i64 q.y1, .int .i64 q.x1, .int .i64 q.y0, .int .i64 c, .int .i64 q.y1, .int .i64 a, .int .i64 q.y1, .int .i64 c, .int .i64 d] ∧ OwnL encR 23 4 wr w.heap.size v ((ps.take k).filter fullB) ∧ Hid (some w3.heap.size ≠ v.ownBlock) ∧ Below w.heap.size w wr) (fun _ i _ => 4 - (intOf i).toNat)
      case atStart =>
        refine ⟨0, Nat.zero_le _, rfl, (by repeat (first | (with_reducible assumption) | ((with_reducible refine Bk.new _ _ _ ?_); first | (with_reducible rfl) | (simp; done)) | (with_reducible refine Bk.alloc ?_ _) | (with_reducible refine Bk.drew ?_) | (with_reducible refine Bk.drewN ?_ _) | ((with_reducible refine Bk.far ?_ ?_ _); rotate_left; focus (first | (simp; done) | (simp; omega))) | (with_reducible refine Bk.below ?_ (by with_reducible assumption)))), OwnL.lit (l := []) encR_len (kO3.alloc _) (by omega) (by unfold maxLen; simp) rfl, ?_, balloc hw3 _⟩
        unfold Hid
        have := kO3.lt
        simp [Value.ownBlock]
        omega
      case round =>
        obtain ⟨k, hk, rfl, hbk, hown, Hne, hbw⟩ := hrel
        have hgl := hbk.lt
        by_cases hlt : k < 4
        · have hkl : k < ps.length := by rw [← Hs.out]; exact hlt
          obtain ⟨_, _, hA, hg, hc⟩ := rd4 (rd_of_bk (size := 4) encR_len hbk (l := ps) (by rw [← Hs.out]; rfl)) hkl
          injection hA with hA
          injection hA with hA1 hA2 _
          subst hA1 hA2
          rw [Nat.zero_add] at hc
          obtain ⟨r, Hr⟩ : ∃ r, Hid (ps[k] = r) := ⟨ps[k], rfl⟩
          rw [Hr.out] at hc
          obtain ⟨c0, c1, c2, c3⟩ := hc
          obtain ⟨u, Hu⟩ : ∃ u, Hid (emptyB ⟨r.x0, r.y0, r.x1, r.y1⟩ = u) := ⟨_, rfl⟩
          have HN : Hid ((ps.take (k + 1)).filter fullB = (ps.take k).filter fullB ++ if u then [] else [r]) := by
            unfold Hid
            rw [List.take_succ_eq_append_getElem hkl, List.filter_append, Hr.out]
            have : fullB r = !u := by unfold fullB; rw [← Hu.out]
            rw [List.filter_cons, this]
            cases u <;> rfl
          have hfl : ((ps.take k).filter fullB).length ≤ 4294967296 := by
            have h1 := List.length_filter_le fullB (ps.take k)
            have h2 := List.length_take_le k ps
            omega
          have i0 : (0 : Int) ≤ (k : Int) := by omega
          clear Hr hkl
          go_wp2_with fail
          refine (rempty_q _ _ _ _ u Hu _).mono ?_
          rintro e w4 ⟨rfl, hb4⟩
          have kp4 := hbk.below hb4
          have ho4 := hown.below hb4
          have hw4 : Below w.heap.size w w4 := bstep hb4 hbw
          have c0' := (hb4.cell (p := ⟨w3.heap.size, k * 4, none⟩) hgl).trans c0
          have c1' := (hb4.cell (p := ⟨w3.heap.size, k * 4 + 1, none⟩) hgl).trans c1
          have c2' := (hb4.cell (p := ⟨w3.heap.size, k * 4 + 2, none⟩) hgl).trans c2
          have c3' := (hb4.cell (p := ⟨w3.heap.size, k * 4 + 3, none⟩) hgl).trans c3
          have hz4 : wr.heap.size ≤ w4.heap.size := hb4.size
          clear c0 c1 c2 c3
          cases u
          · have HN' : Hid ((ps.take (k + 1)).filter fullB = (ps.take k).filter fullB ++ [r]) := HN.out
            clear HN
            go_wp2_with (at_builtin; refine wpList_append_one encR_len encR_one 25 Try.infoRect rfl (by decide) (by decide) Try.underlying25 rfl _ _ rfl w.heap.size _ _ rfl (ho4.alloc _) w4.heap.size r rfl (Bk.new _ _ _ rfl) rfl hfl (by have := hw4.size; simp; omega) ?_; intro v5 w5 ho5 hg5 hv5)
            have kp5 := (kp4.alloc (.cells #[.int .i64 r.x0, .int .i64 r.y0, .int .i64 r.x1, .int .i64 r.y1] 23)).grown hg5 Hne.out
            have hw5 := below_grown (ho4.alloc _) hg5 (balloc hw4 _) (Nat.le_refl _)
            have Hne5 : Hid (some w3.heap.size ≠ v5.ownBlock) := by
              obtain ⟨g', c', rfl, hv | hv⟩ := hv5
              · show some w3.heap.size ≠ some g'
                rw [hv]; exact Hne.out
              · show some w3.heap.size ≠ some g'
                intro he
                injection he with he
                rw [hv] at he
                simp at he
                omega
            rw [← HN'.out] at ho5
            clear hv5 hg5 ho4 kp4 hw4 hown hbk hbw c0' c1' c2' c3'
            go_wp2
            go_roundw
            case rel => exact ⟨k + 1, by omega, by go_num, kp5, ho5, Hne5, hw5⟩
            case measure => simp [intOf]; omega
          · have HN' : Hid ((ps.take (k + 1)).filter fullB = (ps.take k).filter fullB) := by unfold Hid; rw [HN.out]; simp
            clear HN c0' c1' c2' c3'
            rw [← HN'.out] at ho4
            go_wp2
            go_roundw
            case rel => exact ⟨k + 1, by omega, by go_num, kp4, ho4, Hne, hw4⟩
            case measure => simp [intOf]; omega
        · have HF : Hid (ps.take k = ps) := List.take_of_length_le (by rw [← Hs.out]; show 4 ≤ k; omega)
          rw [HF.out, ← HR.out] at hown
          go_wp2
          go_ret
          exact ⟨_, rfl, hown, hbw⟩
    · have HR : Hid (R = []) := by unfold Hid; rw [HP.out]; rfl
      clear HP
      go_wp2
      go_ret
      refine ⟨_, rfl, ?_, hw3⟩
      rw [HR.out]
      exact (OwnL.lit (l := []) encR_len kO3 (by omega) (by unfold maxLen; simp) rfl)
  · have HM : rmR ⟨a, b, c, d⟩ q = ⟨a, d, c, d⟩ := by unfold rmR; rw [show emptyB q = true from Hv.out]; rfl
    go_wp2_with fail
    refine (rempty_q _ _ _ _ u Hu _).mono ?_
    rintro e w3 ⟨rfl, hb3⟩
    have kM : Bk w3 w1.heap.size 23 #[.int .i64 a, .int .i64 d, .int .i64 c, .int .i64 d] := Bk.below ((((kMq2.set 0 _).set 1 _).set 2 _).set 3 _) hb3
    have HP : Hid (R = if u then [] else (rpartsL ⟨a, b, c, d⟩ ⟨a, d, c, d⟩).filter fullB) := by
      unfold Hid; rw [← HR.out]; unfold rsubL; rw [Hq.out, HM, Hu.out]
    clear HM HR
    have kA3 : Bk w3 w.heap.size 23 #[.int .i64 a, .int .i64 b, .int .i64 c, .int .i64 d] := (by repeat (first | (with_reducible assumption) | ((with_reducible refine Bk.new _ _ _ ?_); first | (with_reducible rfl) | (simp; done)) | (with_reducible refine Bk.alloc ?_ _) | (with_reducible refine Bk.drew ?_) | (with_reducible refine Bk.drewN ?_ _) | ((with_reducible refine Bk.far ?_ ?_ _); rotate_left; focus (first | (simp; done) | (simp; omega))) | (with_reducible refine Bk.below ?_ (by with_reducible assumption))))
    have kO3 : Bk w3 (w.heap.size + 1 + 1) 23 #[] := (by repeat (first | (with_reducible assumption) | ((with_reducible refine Bk.new _ _ _ ?_); first | (with_reducible rfl) | (simp; done)) | (with_reducible refine Bk.alloc ?_ _) | (with_reducible refine Bk.drew ?_) | (with_reducible refine Bk.drewN ?_ _) | ((with_reducible refine Bk.far ?_ ?_ _); rotate_left; focus (first | (simp; done) | (simp; omega))) | (with_reducible refine Bk.below ?_ (by with_reducible assumption))))
    obtain ⟨kcM, kfM, kaM, kgM, klM⟩ := kM.rules
    obtain ⟨kcA3, kfA3, kaA3, kgA3, klA3⟩ := kA3.rules
    have hw3 : Below w.heap.size w w3 := (by repeat (first | (with_reducible exact Below.refl _ _) | (with_reducible refine balloc ?_ _) | (with_reducible refine Below.drew ?_) | (with_reducible refine bdrewN ?_ _) | ((with_reducible refine bset ?_ ?_ _); rotate_left; focus (first | (with_reducible exact Nat.le_refl _) | (simp; done) | (simp; omega) | omega)) | (with_reducible refine bstep (by with_reducible assumption) ?_)))
    clear kA2 kcA2 kfA2 kaA2 kgA2 kB2 kcB2 kfB2 kaB2 kgB2 kO2 kcO2 kfO2 kaO2 kgO2 kMq2 kcMq2 kfMq2 kaMq2 kgMq2
    cases u
    · obtain ⟨ps, Hs⟩ : ∃ ps, Hid (rpartsL ⟨a, b, c, d⟩ ⟨a, d, c, d⟩ = ps) := ⟨_, rfl⟩
      have HR : Hid (R = ps.filter fullB) := by unfold Hid; rw [HP.out, ← Hs.out]; rfl
      clear HP
      go_wp2
      go_loopw [5, 8] (fun v i wr => ∃ k : Nat, k ≤ 4 ∧ i = .int .i64 k ∧ Bk wr w3.heap.size 23 #[.int .i64 a, .int .i64 b, .int .i64 c, .int .i64 d, .int .i64 a, .int .i64 d, .int .i64 a, .int .i64 d, .int .i64 c, .int .i64 d, .int .i64 c, .int .i64 d, .int .i64 a, .int .i64 d, .int .i64 c, .int .i64 d] ∧ OwnL encR 23 4 wr w.heap.size v ((ps.take k).filter fullB) ∧ Hid (some w3.heap.size ≠ v.ownBlock) ∧ Below w.heap.size w wr) (fun _ i _ => 4 - (intOf i).toNat)
      case atStart =>
        refine ⟨0, Nat.zero_le _, rfl, (by repeat (first | (with_reducible assumption) | ((with_reducible refine Bk.new _ _ _ ?_); first | (with_reducible rfl) | (simp; done)) | (with_reducible refine Bk.alloc ?_ _) | (with_reducible refine Bk.drew ?_) | (with_reducible refine Bk.drewN ?_ _) | ((with_reducible refine Bk.far ?_ ?_ _); rotate_left; focus (first | (simp; done) | (simp; omega))) | (with_reducible refine Bk.below ?_ (by with_reducible assumption)))), OwnL.lit (l := []) encR_len (kO3.alloc _) (by omega) (by unfold maxLen; simp) rfl, ?_, balloc hw3 _⟩
        unfold Hid
        have := kO3.lt
        simp [Value.ownBlock]
        omega
      case round =>
        obtain ⟨k, hk, rfl, hbk, hown, Hne, hbw⟩ := hrel
        have hgl := hbk.lt
        by_cases hlt : k < 4
        · have hkl : k < ps.length := by rw [← Hs.out]; exact hlt
          obtain ⟨_, _, hA, hg, hc⟩ := rd4 (rd_of_bk (size := 4) encR_len hbk (l := ps) (by rw [← Hs.out]; rfl)) hkl
          injection hA with hA
          injection hA with hA1 hA2 _
          subst hA1 hA2
          rw [Nat.zero_add] at hc
          obtain ⟨r, Hr⟩ : ∃ r, Hid (ps[k] = r) := ⟨ps[k], rfl⟩
          rw [Hr.out] at hc
          obtain ⟨c0, c1, c2, c3⟩ := hc
          obtain ⟨u, Hu⟩ : ∃ u, Hid (emptyB ⟨r.x0, r.y0, r.x1, r.y1⟩ = u) := ⟨_, rfl⟩
          have HN : Hid ((ps.take (k + 1)).filter fullB = (ps.take k).filter fullB ++ if u then [] else [r]) := by
            unfold Hid
            rw [List.take_succ_eq_append_getElem hkl, List.filter_append, Hr.out]
            have : fullB r = !u := by unfold fullB; rw [← Hu.out]
            rw [List.filter_cons, this]
            cases u <;> rfl
          have hfl : ((ps.take k).filter fullB).length ≤ 4294967296 := by
            have h1 := List.length_filter_le fullB (ps.take k)
            have h2 := List.length_take_le k ps
            omega
          have i0 : (0 : Int) ≤ (k : Int) := by omega
          clear Hr hkl
          go_wp2_with fail
          refine (rempty_q _ _ _ _ u Hu _).mono ?_
          rintro e w4 ⟨rfl, hb4⟩
          have kp4 := hbk.below hb4
          have ho4 := hown.below hb4
          have hw4 : Below w.heap.size w w4 := bstep hb4 hbw
          have c0' := (hb4.cell (p := ⟨w3.heap.size, k * 4, none⟩) hgl).trans c0
          have c1' := (hb4.cell (p := ⟨w3.heap.size, k * 4 + 1, none⟩) hgl).trans c1
          have c2' := (hb4.cell (p := ⟨w3.heap.size, k * 4 + 2, none⟩) hgl).trans c2
          have c3' := (hb4.cell (p := ⟨w3.heap.size, k * 4 + 3, none⟩) hgl).trans c3
          have hz4 : wr.heap.size ≤ w4.heap.size := hb4.size
          clear c0 c1 c2 c3
          cases u
          · have HN' : Hid ((ps.take (k + 1)).filter fullB = (ps.take k).filter fullB ++ [r]) := HN.out
            clear HN
            go_wp2_with (at_builtin; refine wpList_append_one encR_len encR_one 25 Try.infoRect rfl (by decide) (by decide) Try.underlying25 rfl _ _ rfl w.heap.size _ _ rfl (ho4.alloc _) w4.heap.size r rfl (Bk.new _ _ _ rfl) rfl hfl (by have := hw4.size; simp; omega) ?_; intro v5 w5 ho5 hg5 hv5)
            have kp5 := (kp4.alloc (.cells #[.int .i64 r.x0, .int .i64 r.y0, .int .i64 r.x1, .int .i64 r.y1] 23)).grown hg5 Hne.out
            have hw5 := below_grown (ho4.alloc _) hg5 (balloc hw4 _) (Nat.le_refl _)
            have Hne5 : Hid (some w3.heap.size ≠ v5.ownBlock) := by
              obtain ⟨g', c', rfl, hv | hv⟩ := hv5
              · show some w3.heap.size ≠ some g'
                rw [hv]; exact Hne.out
              · show some w3.heap.size ≠ some g'
                intro he
                injection he with he
                rw [hv] at he
                simp at he
                omega
            rw [← HN'.out] at ho5
            clear hv5 hg5 ho4 kp4 hw4 hown hbk hbw c0' c1' c2' c3'
            go_wp2
            go_roundw
            case rel => exact ⟨k + 1, by omega, by go_num, kp5, ho5, Hne5, hw5⟩
            case measure => simp [intOf]; omega
          · have HN' : Hid ((ps.take (k + 1)).filter fullB = (ps.take k).filter fullB) := by unfold Hid; rw [HN.out]; simp
            clear HN c0' c1' c2' c3'
            rw [← HN'.out] at ho4
            go_wp2
            go_roundw
            case rel => exact ⟨k + 1, by omega, by go_num, kp4, ho4, Hne, hw4⟩
            case measure => simp [intOf]; omega
        · have HF : Hid (ps.take k = ps) := List.take_of_length_le (by rw [← Hs.out]; show 4 ≤ k; omega)
          rw [HF.out, ← HR.out] at hown
          go_wp2
          go_ret
          exact ⟨_, rfl, hown, hbw⟩
    · have HR : Hid (R = []) := by unfold Hid; rw [HP.out]; rfl
      clear HP
      go_wp2
      go_ret
      refine ⟨_, rfl, ?_, hw3⟩
      rw [HR.out]
      exact (OwnL.lit (l := []) encR_len kO3 (by omega) (by unfold maxLen; simp) rfl)
end Go.Proofs.Ytiaeaegocfmjhaa
