/-
  The walks of rect.side, (*packer).find, (*packer).open.
-/
import Derived.Test.YtiaeaegocfmjhaaSame
import Derived.Test.YtiaeaegocfmjhaaPackP
namespace Go.Proofs.Ytiaeaegocfmjhaa
open Go.RowKit
set_option linter.unusedSimpArgs false
set_option linter.unusedVariables false

def encS (s : Sf) : List Value := [.int .i64 s.t, .int .i64 s.h, .int .i64 s.u]
theorem encS_len (s : Sf) : (encS s).length = 3 := rfl
theorem encS_one (s : Sf) : ∀ u ∈ encS s, u.oneCell' = true := by intro u hu; simp [encS] at hu; rcases hu with rfl | rfl | rfl <;> rfl
theorem rd3 {w : World} {A : Option Addr} {l : List Sf} (h : RdL encS 3 w A l) {k : Nat} (hk : k < l.length) : ∃ g o, A = some ⟨g, o, none⟩ ∧ g < w.heap.size ∧
    w.cell? ⟨g, o + k * 3, none⟩ = some (.int .i64 (l[k]).t) ∧ w.cell? ⟨g, o + k * 3 + 1, none⟩ = some (.int .i64 (l[k]).h) ∧ w.cell? ⟨g, o + k * 3 + 2, none⟩ = some (.int .i64 (l[k]).u) := by
  obtain ⟨g, o, hA, hg, hc⟩ := h (by intro e; rw [e] at hk; simp at hk)
  exact ⟨g, o, hA, hg, hc k hk 0 _ rfl, hc k hk 1 _ rfl, hc k hk 2 _ rfl⟩

set_option maxHeartbeats 400000 in
theorem side_any (n : Int) (w : World) :
    Calls Try.prog 47 #[.int .i64 n] w fun e w' => e = .returned (.bool (sideB n)) ∧ w = w' := by
  go_enter Try.func47, Try.ntmps47
  go_wp2
  all_goals
    go_ret
    exact ⟨ret_bool (by simp [sideB]; try omega), rfl⟩
set_option maxHeartbeats 400000 in
theorem rside_any (n : Int) (w : World) :
    Calls Try.prog 49 #[.int .i64 n] w fun e w' => e = .returned (.bool (sideB n)) ∧ w = w' := by
  go_enter Try.func49, Try.ntmps49
  go_wp2
  all_goals
    go_ret
    exact ⟨ret_bool (by simp [sideB]; try omega), rfl⟩

/-- The index that find returns. -/
def findV (w X Y : Int) (ss : List Sf) : Int := match ss.findIdx? (fitsB w X Y) with | some i => i | none => -1
theorem findV_hit {w X Y : Int} {ss : List Sf} {k : Nat} (hk : k < ss.length) (h : ∀ j (hj : j < ss.length), j < k → fitsB w X Y ss[j] = false) (hf : fitsB w X Y ss[k] = true) : findV w X Y ss = k := by
  unfold findV
  rw [List.findIdx?_eq_some_iff_getElem.2 ⟨hk, hf, fun j hj => by rw [h j (by omega) hj]; simp⟩]
theorem findV_none {w X Y : Int} {ss : List Sf} (h : ∀ j (hj : j < ss.length), fitsB w X Y ss[j] = false) : findV w X Y ss = -1 := by
  unfold findV
  rw [List.findIdx?_eq_none_iff.2 (fun s hs => by obtain ⟨j, hj, rfl⟩ := List.mem_iff_getElem.1 hs; exact h j hj)]


set_option maxHeartbeats 800000 in
theorem find_any (bp : Nat) (pw ph nx X Y : Int) (A : Option Addr) (n c : Nat) (ss : List Sf) (w : World) (hb : Bk w bp 61 #[.int .i64 pw, .int .i64 ph, .slice A n c, .int .i64 nx]) (hr : RdL encS 3 w A ss) (hn : Hid (ss.length = n)) (hlen : n ≤ 100000)
    (h0 : 0 ≤ pw) (h1 : pw ≤ 4096) (hs : ∀ s ∈ ss, 0 ≤ s.u ∧ s.u ≤ pw) :
    Calls Try.prog 53 #[.pointer (some ⟨bp, 0, none⟩), .agg #[.int .i64 X, .int .i64 Y]] w fun e w' => e = .returned (.int .i64 (findV pw X Y ss)) ∧ Below w.heap.size w w' := by
  have HR := Lib.hid hr
  have HS := Lib.hid hs
  clear hr hs
  obtain ⟨kc0, kf0, ka0, kg0, kl0⟩ := hb.rules
  go_enter Try.func53, Try.ntmps53
  go_wp2_with fail
  clear kc0 kf0 ka0 kg0
  go_loopw [12] (fun i wr => ∃ k : Nat, k ≤ n ∧ i = .int .i64 k ∧ Bk wr w.heap.size 51 #[.int .i64 X, .int .i64 Y] ∧ Below w.heap.size w wr ∧ Hid (∀ j (hj : j < ss.length), j < k → fitsB pw X Y ss[j] = false)) (fun i _ => n - (intOf i).toNat)
  case atStart => exact ⟨0, Nat.zero_le _, rfl, (by repeat (first | (with_reducible assumption) | ((with_reducible refine Bk.new _ _ _ ?_); first | (with_reducible rfl) | (simp; done)) | (with_reducible refine Bk.alloc ?_ _) | (with_reducible refine Bk.drew ?_) | (with_reducible refine Bk.drewN ?_ _) | ((with_reducible refine Bk.far ?_ ?_ _); rotate_left; focus (first | (simp; done) | (simp; omega))) | (with_reducible refine Bk.below ?_ (by with_reducible assumption)))), (by repeat (first | (with_reducible exact Below.refl _ _) | (with_reducible refine balloc ?_ _) | (with_reducible refine Below.drew ?_) | (with_reducible refine bdrewN ?_ _) | ((with_reducible refine bset ?_ ?_ _); rotate_left; focus (first | (with_reducible exact Nat.le_refl _) | (simp; done) | (simp; omega) | omega)) | (with_reducible refine bstep (by with_reducible assumption) ?_))), fun j hj h => by omega⟩
  case round =>
    obtain ⟨k, hk, rfl, kZ, hbw, HN⟩ := hrel
    have kP := hb.below hbw
    by_cases hlt : k < n
    · have hkl : k < ss.length := by have := hn.out; omega
      obtain ⟨g, o, rfl, hg, hc⟩ := rd3 (HR.out.below hbw) hkl
      obtain ⟨s, Hs⟩ : ∃ s, Hid (ss[k] = s) := ⟨ss[k], rfl⟩
      rw [Hs.out] at hc
      obtain ⟨c0, c1, c2⟩ := hc
      have hbd := HS.out s (by rw [← Hs.out]; exact List.getElem_mem hkl)
      have HH : Hid (fitsB pw X Y s = true → findV pw X Y ss = k) := fun h => findV_hit hkl HN.out (by rw [Hs.out]; exact h)
      have HM : Hid (fitsB pw X Y s = false → ∀ j (hj : j < ss.length), j < k + 1 → fitsB pw X Y ss[j] = false) := fun h j hj hjk => by
        by_cases e : j = k
        · subst e; rw [Hs.out]; exact h
        · exact HN.out j hj (by omega)
      have i0 : (0 : Int) ≤ (k : Int) := by omega
      have esub : IntKind.i64.wrap (pw - s.u) = pw - s.u := IntWalk.i64_in _ (by omega)
      clear Hs hkl
      cases hd : decide (Y ≤ s.h) with
      | true =>
        cases hd2 : decide (X ≤ pw - s.u) with
        | true =>
          have HF : Hid (findV pw X Y ss = k) := HH.out (by unfold fitsB; rw [hd, hd2]; rfl)
          go_wp2_with fail
          clear c0 c1 c2
          refine wp_region_gob 17 [(0, true), (1, true), (2, true), (3, true), (4, true), (5, true), (6, true), (7, true), (8, true), (9, true), (10, true), (11, true), (12, true), (13, true), (14, true), (15, true), (16, true)] (by kernel_rfl) (by kernel_rfl) (fun c a d v w h => by cases d <;> exact h) ?_
          repeat (first | (refine wpGo_pure (v := ?_) rfl rfl (fun w' hS => ?_) ?_; rotate_left; (· have kZp : Bk w' (w.heap.size) 51 #[.int .i64 X, .int .i64 Y] := (by repeat (first | (with_reducible assumption) | ((with_reducible refine Bk.new _ _ _ ?_); first | (with_reducible rfl) | (simp; done)) | (with_reducible refine Bk.alloc ?_ _) | (with_reducible refine Bk.drew ?_) | (with_reducible refine Bk.drewN ?_ _) | ((with_reducible refine Bk.far ?_ ?_ _); rotate_left; focus (first | (simp; done) | (simp; omega))) | (with_reducible refine Bk.below ?_ (by with_reducible assumption)))); obtain ⟨kcZp, kfZp, kaZp, kgZp, klZp⟩ := kZp.rules; have kSp : Bk w' (wr.heap.size) 74 #[.int .i64 s.t, .int .i64 s.h, .int .i64 s.u] := (by repeat (first | (with_reducible assumption) | ((with_reducible refine Bk.new _ _ _ ?_); first | (with_reducible rfl) | (simp; done)) | (with_reducible refine Bk.alloc ?_ _) | (with_reducible refine Bk.drew ?_) | (with_reducible refine Bk.drewN ?_ _) | ((with_reducible refine Bk.far ?_ ?_ _); rotate_left; focus (first | (simp; done) | (simp; omega))) | (with_reducible refine Bk.below ?_ (by with_reducible assumption)))); obtain ⟨kcSp, kfSp, kaSp, kgSp, klSp⟩ := kSp.rules; have kPp : Bk w' (bp) 61 #[.int .i64 pw, .int .i64 ph, .slice (some ⟨g, o, none⟩) n c, .int .i64 nx] := (by repeat (first | (with_reducible assumption) | ((with_reducible refine Bk.new _ _ _ ?_); first | (with_reducible rfl) | (simp; done)) | (with_reducible refine Bk.alloc ?_ _) | (with_reducible refine Bk.drew ?_) | (with_reducible refine Bk.drewN ?_ _) | ((with_reducible refine Bk.far ?_ ?_ _); rotate_left; focus (first | (simp; done) | (simp; omega))) | (with_reducible refine Bk.below ?_ (by with_reducible assumption)))); obtain ⟨kcPp, kfPp, kaPp, kgPp, klPp⟩ := kPp.rules; go_simp; exact rfl); (try simp only [Act.put, List.setIfInBounds_toArray, List.set_cons_zero, List.set_cons_succ])) | ((refine wpGo_skip rfl rfl ?_); (try simp only [Act.put, List.setIfInBounds_toArray, List.set_cons_zero, List.set_cons_succ])))
          refine wpGo_nil ?_
          simp only [List.drop_succ_cons, List.drop_zero]
          clear esub
          go_wp2
          go_ret
          exact ⟨ret_int HF.out.symm, (by repeat (first | (with_reducible exact Below.refl _ _) | (with_reducible refine balloc ?_ _) | (with_reducible refine Below.drew ?_) | (with_reducible refine bdrewN ?_ _) | ((with_reducible refine bset ?_ ?_ _); rotate_left; focus (first | (with_reducible exact Nat.le_refl _) | (simp; done) | (simp; omega) | omega)) | (with_reducible refine bstep (by with_reducible assumption) ?_)))⟩
        | false =>
          have HM' := Lib.hid (HM.out (by unfold fitsB; rw [hd, hd2]; rfl))
          go_wp2_with fail
          clear c0 c1 c2
          refine wp_region_gob 17 [(0, true), (1, true), (2, true), (3, true), (4, true), (5, true), (6, true), (7, true), (8, true), (9, true), (10, true), (11, true), (12, true), (13, true), (14, true), (15, true), (16, true)] (by kernel_rfl) (by kernel_rfl) (fun c a d v w h => by cases d <;> exact h) ?_
          repeat (first | (refine wpGo_pure (v := ?_) rfl rfl (fun w' hS => ?_) ?_; rotate_left; (· have kZp : Bk w' (w.heap.size) 51 #[.int .i64 X, .int .i64 Y] := (by repeat (first | (with_reducible assumption) | ((with_reducible refine Bk.new _ _ _ ?_); first | (with_reducible rfl) | (simp; done)) | (with_reducible refine Bk.alloc ?_ _) | (with_reducible refine Bk.drew ?_) | (with_reducible refine Bk.drewN ?_ _) | ((with_reducible refine Bk.far ?_ ?_ _); rotate_left; focus (first | (simp; done) | (simp; omega))) | (with_reducible refine Bk.below ?_ (by with_reducible assumption)))); obtain ⟨kcZp, kfZp, kaZp, kgZp, klZp⟩ := kZp.rules; have kSp : Bk w' (wr.heap.size) 74 #[.int .i64 s.t, .int .i64 s.h, .int .i64 s.u] := (by repeat (first | (with_reducible assumption) | ((with_reducible refine Bk.new _ _ _ ?_); first | (with_reducible rfl) | (simp; done)) | (with_reducible refine Bk.alloc ?_ _) | (with_reducible refine Bk.drew ?_) | (with_reducible refine Bk.drewN ?_ _) | ((with_reducible refine Bk.far ?_ ?_ _); rotate_left; focus (first | (simp; done) | (simp; omega))) | (with_reducible refine Bk.below ?_ (by with_reducible assumption)))); obtain ⟨kcSp, kfSp, kaSp, kgSp, klSp⟩ := kSp.rules; have kPp : Bk w' (bp) 61 #[.int .i64 pw, .int .i64 ph, .slice (some ⟨g, o, none⟩) n c, .int .i64 nx] := (by repeat (first | (with_reducible assumption) | ((with_reducible refine Bk.new _ _ _ ?_); first | (with_reducible rfl) | (simp; done)) | (with_reducible refine Bk.alloc ?_ _) | (with_reducible refine Bk.drew ?_) | (with_reducible refine Bk.drewN ?_ _) | ((with_reducible refine Bk.far ?_ ?_ _); rotate_left; focus (first | (simp; done) | (simp; omega))) | (with_reducible refine Bk.below ?_ (by with_reducible assumption)))); obtain ⟨kcPp, kfPp, kaPp, kgPp, klPp⟩ := kPp.rules; go_simp; exact rfl); (try simp only [Act.put, List.setIfInBounds_toArray, List.set_cons_zero, List.set_cons_succ])) | ((refine wpGo_skip rfl rfl ?_); (try simp only [Act.put, List.setIfInBounds_toArray, List.set_cons_zero, List.set_cons_succ])))
          refine wpGo_nil ?_
          simp only [List.drop_succ_cons, List.drop_zero]
          clear esub
          go_wp2
          go_roundw
          case rel => exact ⟨k + 1, by omega, by go_num, (by repeat (first | (with_reducible assumption) | ((with_reducible refine Bk.new _ _ _ ?_); first | (with_reducible rfl) | (simp; done)) | (with_reducible refine Bk.alloc ?_ _) | (with_reducible refine Bk.drew ?_) | (with_reducible refine Bk.drewN ?_ _) | ((with_reducible refine Bk.far ?_ ?_ _); rotate_left; focus (first | (simp; done) | (simp; omega))) | (with_reducible refine Bk.below ?_ (by with_reducible assumption)))), (by repeat (first | (with_reducible exact Below.refl _ _) | (with_reducible refine balloc ?_ _) | (with_reducible refine Below.drew ?_) | (with_reducible refine bdrewN ?_ _) | ((with_reducible refine bset ?_ ?_ _); rotate_left; focus (first | (with_reducible exact Nat.le_refl _) | (simp; done) | (simp; omega) | omega)) | (with_reducible refine bstep (by with_reducible assumption) ?_))), HM'⟩
          case measure => simp [intOf]; omega
      | false =>
        have HM' := Lib.hid (HM.out (by unfold fitsB; rw [hd]; rfl))
        go_wp2_with fail
        clear c0 c1 c2
        refine wp_region_gob 17 [(0, true), (1, true), (2, true), (3, true), (4, true), (5, true), (6, true), (7, true), (8, true), (9, true), (10, true), (11, true), (12, true), (13, true), (14, true), (15, true), (16, true)] (by kernel_rfl) (by kernel_rfl) (fun c a d v w h => by cases d <;> exact h) ?_
        repeat (first | (refine wpGo_pure (v := ?_) rfl rfl (fun w' hS => ?_) ?_; rotate_left; (· have kZp : Bk w' (w.heap.size) 51 #[.int .i64 X, .int .i64 Y] := (by repeat (first | (with_reducible assumption) | ((with_reducible refine Bk.new _ _ _ ?_); first | (with_reducible rfl) | (simp; done)) | (with_reducible refine Bk.alloc ?_ _) | (with_reducible refine Bk.drew ?_) | (with_reducible refine Bk.drewN ?_ _) | ((with_reducible refine Bk.far ?_ ?_ _); rotate_left; focus (first | (simp; done) | (simp; omega))) | (with_reducible refine Bk.below ?_ (by with_reducible assumption)))); obtain ⟨kcZp, kfZp, kaZp, kgZp, klZp⟩ := kZp.rules; have kSp : Bk w' (wr.heap.size) 74 #[.int .i64 s.t, .int .i64 s.h, .int .i64 s.u] := (by repeat (first | (with_reducible assumption) | ((with_reducible refine Bk.new _ _ _ ?_); first | (with_reducible rfl) | (simp; done)) | (with_reducible refine Bk.alloc ?_ _) | (with_reducible refine Bk.drew ?_) | (with_reducible refine Bk.drewN ?_ _) | ((with_reducible refine Bk.far ?_ ?_ _); rotate_left; focus (first | (simp; done) | (simp; omega))) | (with_reducible refine Bk.below ?_ (by with_reducible assumption)))); obtain ⟨kcSp, kfSp, kaSp, kgSp, klSp⟩ := kSp.rules; have kPp : Bk w' (bp) 61 #[.int .i64 pw, .int .i64 ph, .slice (some ⟨g, o, none⟩) n c, .int .i64 nx] := (by repeat (first | (with_reducible assumption) | ((with_reducible refine Bk.new _ _ _ ?_); first | (with_reducible rfl) | (simp; done)) | (with_reducible refine Bk.alloc ?_ _) | (with_reducible refine Bk.drew ?_) | (with_reducible refine Bk.drewN ?_ _) | ((with_reducible refine Bk.far ?_ ?_ _); rotate_left; focus (first | (simp; done) | (simp; omega))) | (with_reducible refine Bk.below ?_ (by with_reducible assumption)))); obtain ⟨kcPp, kfPp, kaPp, kgPp, klPp⟩ := kPp.rules; go_simp; exact rfl); (try simp only [Act.put, List.setIfInBounds_toArray, List.set_cons_zero, List.set_cons_succ])) | ((refine wpGo_skip rfl rfl ?_); (try simp only [Act.put, List.setIfInBounds_toArray, List.set_cons_zero, List.set_cons_succ])))
        refine wpGo_nil ?_
        simp only [List.drop_succ_cons, List.drop_zero]
        clear esub
        go_wp2
        go_roundw
        case rel => exact ⟨k + 1, by omega, by go_num, (by repeat (first | (with_reducible assumption) | ((with_reducible refine Bk.new _ _ _ ?_); first | (with_reducible rfl) | (simp; done)) | (with_reducible refine Bk.alloc ?_ _) | (with_reducible refine Bk.drew ?_) | (with_reducible refine Bk.drewN ?_ _) | ((with_reducible refine Bk.far ?_ ?_ _); rotate_left; focus (first | (simp; done) | (simp; omega))) | (with_reducible refine Bk.below ?_ (by with_reducible assumption)))), (by repeat (first | (with_reducible exact Below.refl _ _) | (with_reducible refine balloc ?_ _) | (with_reducible refine Below.drew ?_) | (with_reducible refine bdrewN ?_ _) | ((with_reducible refine bset ?_ ?_ _); rotate_left; focus (first | (with_reducible exact Nat.le_refl _) | (simp; done) | (simp; omega) | omega)) | (with_reducible refine bstep (by with_reducible assumption) ?_))), HM'⟩
        case measure => simp [intOf]; omega
    · have HF : Hid (findV pw X Y ss = -1) := findV_none (fun j hj => HN.out j hj (by have := hn.out; omega))
      go_wp2
      go_ret
      exact ⟨ret_int HF.out.symm, hbw⟩
end Go.Proofs.Ytiaeaegocfmjhaa
