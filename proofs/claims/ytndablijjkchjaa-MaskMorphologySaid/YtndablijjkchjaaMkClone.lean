/-
  The walks of clone and overwrite.
-/
import Derived.Test.YtndablijjkchjaaMkMade0
import Derived.Test.YtndablijjkchjaaOpenM
import Derived.Test.YtndablijjkchjaaPlB
namespace Go.Proofs.Ytndablijjkchjaa
open Go.RowKit
set_option linter.unusedSimpArgs false
set_option linter.unusedVariables false

theorem grefl (w : World) (row : Option Nat) : w.grownBy w row := ⟨rfl, rfl, rfl, Nat.le_refl _, fun _ _ _ => rfl⟩
theorem gstep {a b c : World} {row : Option Nat} (h : a.grownBy b row) (k : Below b.heap.size b c) : a.grownBy c row :=
  ⟨k.os.trans h.os, k.tape.trans h.tape, k.output.trans h.output, Nat.le_trans h.size k.size, fun i hi hx => (k.block i (Nat.lt_of_lt_of_le hi h.size)).trans (h.block i hi hx)⟩
theorem gset {a b : World} {g : Nat} (h : a.grownBy b (some g)) (i : Nat) (u : Value) : a.grownBy (b.setCell ⟨g, i, none⟩ u) (some g) :=
  ⟨h.os, h.tape, h.output, by simpa [World.setCell] using h.size, fun k hk hx => (Below.heap_setCell _ _ _ _ (fun e => hx (by rw [e]))).trans (h.block k hk hx)⟩
set_option maxHeartbeats 3200000 in
theorem clone_any (b : Mk) (w : World) (hb : b.ok w) (hn2 : b.n ≤ 4000000000) :
    Calls Try.prog 16 #[.agg #[.int .i64 b.r.x0, .int .i64 b.r.y0, .int .i64 b.r.x1, .int .i64 b.r.y1, .slice b.A b.n b.c]] w (RetM b.r b.l w) := by
  have HB := Lib.hid hb
  clear hb
  go_enter Try.func16, Try.ntmps16
  have kC : Bk (((w.alloc (.cells #[.int .i64 b.r.x0, .int .i64 b.r.y0, .int .i64 b.r.x1, .int .i64 b.r.y1, .slice b.A b.n b.c] 29)).alloc (.cells #[.int .i64 0, .int .i64 0, .int .i64 0, .int .i64 0, .slice none 0 0] 29)).alloc (.cells #[] 5)) (w.heap.size) 29 #[.int .i64 b.r.x0, .int .i64 b.r.y0, .int .i64 b.r.x1, .int .i64 b.r.y1, .slice b.A b.n b.c] := (by repeat (first | (with_reducible assumption) | ((with_reducible refine Bk.new _ _ _ ?_); first | (with_reducible rfl) | (simp; done)) | (with_reducible refine Bk.alloc ?_ _) | (with_reducible refine Bk.drew ?_) | (with_reducible refine Bk.drewN ?_ _) | ((with_reducible refine Bk.far ?_ ?_ _); rotate_left; focus (first | (simp; done) | (simp; omega))) | (with_reducible refine Bk.below ?_ (by with_reducible assumption))))
  have kO : Bk (((w.alloc (.cells #[.int .i64 b.r.x0, .int .i64 b.r.y0, .int .i64 b.r.x1, .int .i64 b.r.y1, .slice b.A b.n b.c] 29)).alloc (.cells #[.int .i64 0, .int .i64 0, .int .i64 0, .int .i64 0, .slice none 0 0] 29)).alloc (.cells #[] 5)) (w.heap.size + 1) 29 #[.int .i64 0, .int .i64 0, .int .i64 0, .int .i64 0, .slice none 0 0] := (by repeat (first | (with_reducible assumption) | ((with_reducible refine Bk.new _ _ _ ?_); first | (with_reducible rfl) | (simp; done)) | (with_reducible refine Bk.alloc ?_ _) | (with_reducible refine Bk.drew ?_) | (with_reducible refine Bk.drewN ?_ _) | ((with_reducible refine Bk.far ?_ ?_ _); rotate_left; focus (first | (simp; done) | (simp; omega))) | (with_reducible refine Bk.below ?_ (by with_reducible assumption))))
  have kE : Bk (((w.alloc (.cells #[.int .i64 b.r.x0, .int .i64 b.r.y0, .int .i64 b.r.x1, .int .i64 b.r.y1, .slice b.A b.n b.c] 29)).alloc (.cells #[.int .i64 0, .int .i64 0, .int .i64 0, .int .i64 0, .slice none 0 0] 29)).alloc (.cells #[] 5)) (w.heap.size + 1 + 1) 5 #[] := (by repeat (first | (with_reducible assumption) | ((with_reducible refine Bk.new _ _ _ ?_); first | (with_reducible rfl) | (simp; done)) | (with_reducible refine Bk.alloc ?_ _) | (with_reducible refine Bk.drew ?_) | (with_reducible refine Bk.drewN ?_ _) | ((with_reducible refine Bk.far ?_ ?_ _); rotate_left; focus (first | (simp; done) | (simp; omega))) | (with_reducible refine Bk.below ?_ (by with_reducible assumption))))
  have hE : OwnL encB 5 1 (((w.alloc (.cells #[.int .i64 b.r.x0, .int .i64 b.r.y0, .int .i64 b.r.x1, .int .i64 b.r.y1, .slice b.A b.n b.c] 29)).alloc (.cells #[.int .i64 0, .int .i64 0, .int .i64 0, .int .i64 0, .slice none 0 0] 29)).alloc (.cells #[] 5)) (w.heap.size + 1 + 1) (.slice (some ⟨w.heap.size + 1 + 1, 0, none⟩) 0 0) [] := OwnL.lit (l := []) encB_len kE (Nat.le_refl _) (by decide) rfl
  have hB0 : Below w.heap.size w (((w.alloc (.cells #[.int .i64 b.r.x0, .int .i64 b.r.y0, .int .i64 b.r.x1, .int .i64 b.r.y1, .slice b.A b.n b.c] 29)).alloc (.cells #[.int .i64 0, .int .i64 0, .int .i64 0, .int .i64 0, .slice none 0 0] 29)).alloc (.cells #[] 5)) := (by repeat (first | (with_reducible exact Below.refl _ _) | (with_reducible refine balloc ?_ _) | (with_reducible refine Below.drew ?_) | (with_reducible refine bdrewN ?_ _) | ((with_reducible refine bset ?_ ?_ _); rotate_left; focus (first | (with_reducible exact Nat.le_refl _) | (simp; done) | (simp; omega) | omega)) | (with_reducible refine bstep (by with_reducible assumption) ?_)))
  have hrd := HB.out.rd.below hB0
  have hln := HB.out.ln
  have hll : ([] : List Int).length + b.n ≤ 4294967296 := by simp; omega
  have HRD := Lib.hid hrd
  have HLN := Lib.hid hln
  clear hrd hln
  go_wp2_with (at_builtin; refine wpList_append_rd encB_len encB_one 27 Try.infoU8 rfl (by decide) (by decide) Try.underlying27 rfl _ _ rfl (w.heap.size + 1 + 1) _ [] rfl hE b.A b.n b.c b.l rfl HLN.out HRD.out hll (by simp) ?_; intro v5 w5 ho5 hg5; obtain ⟨A5, c5, hv5, _, _⟩ := ho5.form encB_len; rw [List.nil_append, HLN.out] at hv5; subst hv5; have q5 := kC.grown hg5 (hE.neBk kC (by decide)); obtain ⟨kc5, kf5, ka5, kg5, kl5⟩ := q5.rules; have r5 := kO.grown hg5 (hE.neBk kO (by decide)); obtain ⟨kc6, kf6, ka6, kg6, kl6⟩ := r5.rules)
  rw [List.nil_append] at ho5
  have hB5 := below_grown hE hg5 hB0 (by omega)
  have q5 := kC.grown hg5 (hE.neBk kC (by decide))
  have r5 := kO.grown hg5 (hE.neBk kO (by decide))
  have o0 := ho5.setFar q5 (by decide) 4 (.slice A5 b.n c5)
  have q6 := q5.set 4 (.slice A5 b.n c5)
  have r6 := r5.far (p := ⟨w.heap.size, 4, none⟩) (by simp) (.slice A5 b.n c5)
  have o1 := o0.setFar r6 (by decide) 0 (.int .i64 b.r.x0)
  have m1 := r6.set 0 (.int .i64 b.r.x0)
  have o2 := o1.setFar m1 (by decide) 1 (.int .i64 b.r.y0)
  have m2 := m1.set 1 (.int .i64 b.r.y0)
  have o3 := o2.setFar m2 (by decide) 2 (.int .i64 b.r.x1)
  have m3 := m2.set 2 (.int .i64 b.r.x1)
  have o4 := o3.setFar m3 (by decide) 3 (.int .i64 b.r.y1)
  have m4 := m3.set 3 (.int .i64 b.r.y1)
  have o5 := o4.setFar m4 (by decide) 4 (.slice A5 b.n c5)
  obtain ⟨kc7, kf7, ka7, kg7, kl7⟩ := r5.rules
  obtain ⟨kc8, kf8, ka8, kg8, kl8⟩ := q5.rules
  clear o0 o1 o2 o3 o4 m1 m2 m3 m4 q6 r6
  go_wp2
  refine bodyPost_ret (v := _) ?_ rfl ⟨_, rfl, o5.mono (by omega), (by repeat (first | (with_reducible exact Below.refl _ _) | (with_reducible refine balloc ?_ _) | (with_reducible refine Below.drew ?_) | (with_reducible refine bdrewN ?_ _) | ((with_reducible refine bset ?_ ?_ _); rotate_left; focus (first | (with_reducible exact Nat.le_refl _) | (simp; done) | (simp; omega) | omega)) | (with_reducible refine bstep (by with_reducible assumption) ?_)))⟩
  simp [results, Try.results16, go_sem, kc7]
set_option maxHeartbeats 3200000 in
theorem overwrite_any (r : Rc) (v : Value) (l : List Int) (n : Nat) (base : Nat) (w : World) (ho : OwnL encB 5 1 w base v l) (hn : Hid (l.length = n)) (hn2 : n ≤ 4000000000) (A : Option Addr) (c : Nat) (hv : v = .slice A n c) :
    Calls Try.prog 20 #[.agg #[.int .i64 r.x0, .int .i64 r.y0, .int .i64 r.x1, .int .i64 r.y1, .slice A n c]] w fun e w' => e = .returned (.tuple #[]) ∧ w.grownBy w' v.ownBlock := by
  have kB : Bk (w.alloc (.cells #[.int .i64 r.x0, .int .i64 r.y0, .int .i64 r.x1, .int .i64 r.y1, .slice A n c] 29)) w.heap.size 29 #[.int .i64 r.x0, .int .i64 r.y0, .int .i64 r.x1, .int .i64 r.y1, .slice A n c] := Bk.new _ _ _ rfl
  have hgr0 : w.grownBy (w.alloc (.cells #[.int .i64 r.x0, .int .i64 r.y0, .int .i64 r.x1, .int .i64 r.y1, .slice A n c] 29)) v.ownBlock := gstep (grefl _ _) ((Below.refl _ _).alloc (Nat.le_refl _) _)
  have hnb : some w.heap.size ≠ v.ownBlock := by
    intro h
    have := (World.ownsRow.lt ho _ h.symm).2
    omega
  go_enter Try.func20, Try.ntmps20
  go_wp2_with fail
  go_loopw [6] (fun i wr => ∃ (k : Nat) (m : List Int), k ≤ n ∧ i = .int .i64 k ∧ Bk wr w.heap.size 29 #[.int .i64 r.x0, .int .i64 r.y0, .int .i64 r.x1, .int .i64 r.y1, .slice A n c] ∧ OwnL encB 5 1 wr base v m ∧ Hid (m.length = n) ∧ w.grownBy wr v.ownBlock) (fun i _ => n - (intOf i).toNat)
  case atStart => exact ⟨0, l, Nat.zero_le _, rfl, kB, ho.alloc _, hn, hgr0⟩
  case round =>
    obtain ⟨k, m, hk, rfl, jB, hm, Hm, hgr⟩ := hrel
    obtain ⟨kc, kf, ka, kg, kl⟩ := jB.rules
    by_cases hlt : k < n
    · have hkm : k < m.length := by have := Hm.out; omega
      obtain ⟨g, cap, cur, hvv, hbg, kg0, hcap, hmx, hsz, htk⟩ := hm.block (by intro h; rw [h] at hkm; simp at hkm)
      have hm' : OwnL encB 5 1 wr base (.slice (some ⟨g, 0, none⟩) m.length cap) m := by rw [← hvv]; exact hm
      rw [hv] at hvv
      have hA : A = some ⟨g, 0, none⟩ ∧ n = m.length ∧ c = cap := by injection hvv with h1 h2 h3; exact ⟨h1, h2, h3⟩
      obtain ⟨rfl, -, rfl⟩ := hA
      clear hvv hsz htk hmx hcap
      obtain ⟨p, Hp⟩ : ∃ s, Hid (m[k] = s) := ⟨m[k], rfl⟩
      have hcell := World.ownsRow.cellAt (g := g) hm' (k * 1) (by have := Hm.out; omega)
      have hfl := flat_at encB_len m k hkm 0 (.int .u8 p) (by rw [Hp.out]; rfl)
      rw [Nat.add_zero] at hfl
      rw [hfl, Nat.mul_one] at hcell
      have hfz := kg0.rules.2.1 k
      have hglt := kg0.lt
      have QA := Lib.hid hcell
      have i0 : (0 : Int) ≤ (k : Int) := by omega
      have i1 : (k : Int) < (n : Int) := by omega
      have hgB : w.heap.size ≠ g := fun h => hnb (by rw [hv, h]; rfl)
      go_wp2_with fail
      clear kc kf ka kg
      refine wp_region_gob 10 [(0, true), (1, true), (2, true), (3, true), (4, true), (5, true), (6, true), (7, true), (8, true), (9, true)] (by kernel_rfl) (by kernel_rfl) (fun c a d v w h => by cases d <;> exact h) ?_
      repeat (refine wpGo_pure (v := ?_) rfl rfl (fun w' hS => ?_) ?_; rotate_left; (· have qr := (hS.cell (p := ⟨g, k, none⟩) hglt).trans QA.out; have jBB := jB.below hS; obtain ⟨kc, kf, ka, kg, kl⟩ := jBB.rules; go_simp; exact rfl); (try simp only [Act.put, List.setIfInBounds_toArray, List.set_cons_zero, List.set_cons_succ]))
      refine wpGo_nil ?_
      simp only [List.drop_succ_cons, List.drop_zero]
      have hm2 := OwnL.storeAt encB_len (by rw [← hv]; exact hm.drew) hkm 0 (.int .u8 (IntKind.u8.wrap (p + 1))) (IntKind.u8.wrap (p + 1)) (by decide) rfl Hm.out.symm
      rw [Nat.mul_one, Nat.add_zero, ← hv] at hm2
      have hgr2 : w.grownBy (wr.drew.setCell ⟨g, k, none⟩ (.int .u8 (IntKind.u8.wrap (p + 1)))) v.ownBlock := by
        have h1 := gset (g := g) (show w.grownBy wr.drew (some g) from by have h2 := hgr; rw [hv] at h2; exact ⟨h2.os, h2.tape, h2.output, h2.size, h2.block⟩) k (.int .u8 (IntKind.u8.wrap (p + 1)))
        rw [hv]; exact h1
      have hcell' : wr.drew.cell? ⟨g, k, none⟩ = some (.int .u8 p) := QA.out
      have hfz' : wr.drew.frozen? ⟨g, k, none⟩ = false := hfz
      clear hcell hfz
      go_wp2
      go_roundw
      case rel => exact ⟨k + 1, _, by omega, by go_num, jB.drew.far (p := ⟨g, k, none⟩) hgB (.int .u8 (IntKind.u8.wrap (p + 1))), hm2, by unfold Hid; rw [List.length_set]; exact Hm.out, hgr2⟩
      case measure => simp [intOf]; omega
    · go_wp2
      go_end0
      exact ⟨rfl, hgr⟩
end Go.Proofs.Ytndablijjkchjaa
