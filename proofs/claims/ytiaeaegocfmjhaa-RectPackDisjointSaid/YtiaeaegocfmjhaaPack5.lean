/-
  The walks of grisailleref09.fitting and grisailleref09.Pack.
-/
import Derived.Test.YtiaeaegocfmjhaaPack4
namespace Go.Proofs.Ytiaeaegocfmjhaa
open Go.RowKit
set_option linter.unusedSimpArgs false
set_option linter.unusedVariables false

theorem Try.infoShelfR : (Try.prog.info? 67).map (fun i => (i.zero, i.size, i.bytes)) = some (some (.agg #[.int .i64 0, .int .i64 0, .int .i64 0]), 3, 24) := by kernel_rfl


set_option maxHeartbeats 800000 in
theorem rfit_any (pw X Y : Int) (A : Option Addr) (n c : Nat) (ss : List Sf) (w : World) (hr : RdL encS 3 w A ss) (hn : Hid (ss.length = n)) (hlen : n ≤ 100000)
    (h0 : 0 ≤ pw) (h1 : pw ≤ 4096) (hs : ∀ s ∈ ss, 0 ≤ s.u ∧ s.u ≤ pw) :
    Calls Try.prog 50 #[.slice A n c, .int .i64 pw, .agg #[.int .i64 X, .int .i64 Y]] w fun e w' => e = .returned (.int .i64 (findV pw X Y ss)) ∧ Below w.heap.size w w' := by
  have HR := Lib.hid hr
  have HS := Lib.hid hs
  clear hr hs
  go_enter Try.func50, Try.ntmps50
  go_wp2_with fail
  go_loopw [7] (fun i wr => ∃ k : Nat, k ≤ n ∧ i = .int .i64 k ∧ Bk wr w.heap.size 51 #[.int .i64 X, .int .i64 Y] ∧ Below w.heap.size w wr ∧ Hid (∀ j (hj : j < ss.length), j < k → fitsB pw X Y ss[j] = false)) (fun i _ => n - (intOf i).toNat)
  case atStart => exact ⟨0, Nat.zero_le _, rfl, (by repeat (first | (with_reducible assumption) | ((with_reducible refine Bk.new _ _ _ ?_); first | (with_reducible rfl) | (simp; done)) | (with_reducible refine Bk.alloc ?_ _) | (with_reducible refine Bk.drew ?_) | (with_reducible refine Bk.drewN ?_ _) | ((with_reducible refine Bk.far ?_ ?_ _); rotate_left; focus (first | (simp; done) | (simp; omega))) | (with_reducible refine Bk.below ?_ (by with_reducible assumption)))), (by repeat (first | (with_reducible exact Below.refl _ _) | (with_reducible refine balloc ?_ _) | (with_reducible refine Below.drew ?_) | (with_reducible refine bdrewN ?_ _) | ((with_reducible refine bset ?_ ?_ _); rotate_left; focus (first | (with_reducible exact Nat.le_refl _) | (simp; done) | (simp; omega) | omega)) | (with_reducible refine bstep (by with_reducible assumption) ?_))), fun j hj h => by omega⟩
  case round =>
    obtain ⟨k, hk, rfl, kZ, hbw, HN⟩ := hrel
    by_cases hlt : k < n
    · have hkl : k < ss.length := by have := hn.out; omega
      obtain ⟨g, o, rfl, hg, hc⟩ := rd3 (HR.out.below hbw) hkl
      obtain ⟨s, Hs⟩ : ∃ s, Hid (ss[k] = s) := ⟨ss[k], rfl⟩
      rw [Hs.out] at hc
      obtain ⟨c0, c1, c2⟩ := hc
      have hbd := HS.out s (by rw [← Hs.out]; exact List.getElem_mem hkl)
      have HH : Hid (fitsB pw X Y s = true → findV pw X Y ss = k) := fun h => findV_hit hkl HN.out (by rw [Hs.out]; exact h)
      have HM : Hid (fitsB pw X Y s = false → ∀ j (hj : j < ss.length), j < k + 1 → fitsB pw X Y ss[j] = false) := fun h j hj hjk => by
        by_cases e : j = k
        · subst e; rw [Hs.out]; exact h
        · exact HN.out j hj (by omega)
      have i0 : (0 : Int) ≤ (k : Int) := by omega
      have esub : IntKind.i64.wrap (pw - s.u) = pw - s.u := IntWalk.i64_in _ (by omega)
      clear Hs hkl
      have hcc : ∀ (w' : World), Below wr.heap.size wr w' → w'.cell? ⟨g, o + k * 3 + 1, none⟩ = some (.int .i64 s.h) ∧ w'.cell? ⟨g, o + k * 3 + 2, none⟩ = some (.int .i64 s.u) := fun w' hS =>
        ⟨(World.cell?_of_block (a := ⟨g, _, none⟩) (hS.block g hg)).trans c1, (World.cell?_of_block (a := ⟨g, _, none⟩) (hS.block g hg)).trans c2⟩
      cases hd : decide (Y ≤ s.h) with
      | true =>
        cases hd2 : decide (X ≤ pw - s.u) with
        | true =>
          have HF : Hid (findV pw X Y ss = k) := HH.out (by unfold fitsB; rw [hd, hd2]; rfl)
          go_wp2_with fail
          clear c0 c1 c2
          refine wp_region_gob 20 [(0, true), (1, true), (2, true), (3, true), (4, true), (5, true), (6, true), (7, true), (8, true), (9, true), (10, true), (11, true), (12, true), (13, true), (14, true), (15, true), (16, true), (17, true), (18, true), (19, true)] (by kernel_rfl) (by kernel_rfl) (fun c a d v w h => by cases d <;> exact h) ?_
          repeat (first | (refine wpGo_pure (v := ?_) rfl rfl (fun w' hS => ?_) ?_; rotate_left; (· obtain ⟨c1, c2⟩ := hcc _ hS; obtain ⟨kcz, kfz, kaz, kgz, klz⟩ := (Bk.below kZ hS).rules; go_simp; exact rfl); (try simp only [Act.put, List.setIfInBounds_toArray, List.set_cons_zero, List.set_cons_succ])) | ((refine wpGo_skip rfl rfl ?_); (try simp only [Act.put, List.setIfInBounds_toArray, List.set_cons_zero, List.set_cons_succ])))
          refine wpGo_nil ?_
          simp only [List.drop_succ_cons, List.drop_zero]
          clear esub
          go_wp2
          go_ret
          exact ⟨ret_int HF.out.symm, (by repeat (first | (with_reducible exact Below.refl _ _) | (with_reducible refine balloc ?_ _) | (with_reducible refine Below.drew ?_) | (with_reducible refine bdrewN ?_ _) | ((with_reducible refine bset ?_ ?_ _); rotate_left; focus (first | (with_reducible exact Nat.le_refl _) | (simp; done) | (simp; omega) | omega)) | (with_reducible refine bstep (by with_reducible assumption) ?_)))⟩
        | false =>
          have HM' := Lib.hid (HM.out (by unfold fitsB; rw [hd, hd2]; rfl))
          go_wp2_with fail
          clear c0 c1 c2
          refine wp_region_gob 20 [(0, true), (1, true), (2, true), (3, true), (4, true), (5, true), (6, true), (7, true), (8, true), (9, true), (10, true), (11, true), (12, true), (13, true), (14, true), (15, true), (16, true), (17, true), (18, true), (19, true)] (by kernel_rfl) (by kernel_rfl) (fun c a d v w h => by cases d <;> exact h) ?_
          repeat (first | (refine wpGo_pure (v := ?_) rfl rfl (fun w' hS => ?_) ?_; rotate_left; (· obtain ⟨c1, c2⟩ := hcc _ hS; obtain ⟨kcz, kfz, kaz, kgz, klz⟩ := (Bk.below kZ hS).rules; go_simp; exact rfl); (try simp only [Act.put, List.setIfInBounds_toArray, List.set_cons_zero, List.set_cons_succ])) | ((refine wpGo_skip rfl rfl ?_); (try simp only [Act.put, List.setIfInBounds_toArray, List.set_cons_zero, List.set_cons_succ])))
          refine wpGo_nil ?_
          simp only [List.drop_succ_cons, List.drop_zero]
          clear esub
          go_wp2
          go_roundw
          case rel => exact ⟨k + 1, by omega, by go_num, (by repeat (first | (with_reducible assumption) | ((with_reducible refine Bk.new _ _ _ ?_); first | (with_reducible rfl) | (simp; done)) | (with_reducible refine Bk.alloc ?_ _) | (with_reducible refine Bk.drew ?_) | (with_reducible refine Bk.drewN ?_ _) | ((with_reducible refine Bk.far ?_ ?_ _); rotate_left; focus (first | (simp; done) | (simp; omega))) | (with_reducible refine Bk.below ?_ (by with_reducible assumption)))), (by repeat (first | (with_reducible exact Below.refl _ _) | (with_reducible refine balloc ?_ _) | (with_reducible refine Below.drew ?_) | (with_reducible refine bdrewN ?_ _) | ((with_reducible refine bset ?_ ?_ _); rotate_left; focus (first | (with_reducible exact Nat.le_refl _) | (simp; done) | (simp; omega) | omega)) | (with_reducible refine bstep (by with_reducible assumption) ?_))), HM'⟩
          case measure => simp [intOf]; omega
      | false =>
        have HM' := Lib.hid (HM.out (by unfold fitsB; rw [hd]; rfl))
        go_wp2_with fail
        clear c0 c1 c2
        refine wp_region_gob 20 [(0, true), (1, true), (2, true), (3, true), (4, true), (5, true), (6, true), (7, true), (8, true), (9, true), (10, true), (11, true), (12, true), (13, true), (14, true), (15, true), (16, true), (17, true), (18, true), (19, true)] (by kernel_rfl) (by kernel_rfl) (fun c a d v w h => by cases d <;> exact h) ?_
        repeat (first | (refine wpGo_pure (v := ?_) rfl rfl (fun w' hS => ?_) ?_; rotate_left; (· obtain ⟨c1, c2⟩ := hcc _ hS; obtain ⟨kcz, kfz, kaz, kgz, klz⟩ := (Bk.below kZ hS).rules; go_simp; exact rfl); (try simp only [Act.put, List.setIfInBounds_toArray, List.set_cons_zero, List.set_cons_succ])) | ((refine wpGo_skip rfl rfl ?_); (try simp only [Act.put, List.setIfInBounds_toArray, List.set_cons_zero, List.set_cons_succ])))
        refine wpGo_nil ?_
        simp only [List.drop_succ_cons, List.drop_zero]
        clear esub
        go_wp2
        go_roundw
        case rel => exact ⟨k + 1, by omega, by go_num, (by repeat (first | (with_reducible assumption) | ((with_reducible refine Bk.new _ _ _ ?_); first | (with_reducible rfl) | (simp; done)) | (with_reducible refine Bk.alloc ?_ _) | (with_reducible refine Bk.drew ?_) | (with_reducible refine Bk.drewN ?_ _) | ((with_reducible refine Bk.far ?_ ?_ _); rotate_left; focus (first | (simp; done) | (simp; omega))) | (with_reducible refine Bk.below ?_ (by with_reducible assumption)))), (by repeat (first | (with_reducible exact Below.refl _ _) | (with_reducible refine balloc ?_ _) | (with_reducible refine Below.drew ?_) | (with_reducible refine bdrewN ?_ _) | ((with_reducible refine bset ?_ ?_ _); rotate_left; focus (first | (with_reducible exact Nat.le_refl _) | (simp; done) | (simp; omega) | omega)) | (with_reducible refine bstep (by with_reducible assumption) ?_))), HM'⟩
        case measure => simp [intOf]; omega
    · have HF : Hid (findV pw X Y ss = -1) := findV_none (fun j hj => HN.out j hj (by have := hn.out; omega))
      go_wp2
      go_ret
      exact ⟨ret_int HF.out.symm, hbw⟩
end Go.Proofs.Ytiaeaegocfmjhaa
