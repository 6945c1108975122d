/-
  The walk of (*packer).place.
-/
import Derived.Test.YtiaeaegocfmjhaaPack2
namespace Go.Proofs.Ytiaeaegocfmjhaa
open Go.RowKit
set_option linter.unusedSimpArgs false
set_option linter.unusedVariables false

theorem Fr.setNew {base : Nat} {T : List TypeId} {a b : World} (h : Fr base T a b) {p : Addr} (hp : a.heap.size ≤ p.block) (u : Value) : Fr base T a (b.setCell p u) :=
  ⟨h.os, h.tape, h.output, by simpa [World.setCell] using h.size, fun k hk hx => (Below.heap_setCell _ _ _ _ (by omega)).trans (h.block k hk hx)⟩


set_option maxHeartbeats 800000 in
theorem place_wide (bp base : Nat) (pw ph nx X Y : Int) (ss : List Sf) (v : Value) (w : World) (hp : PkSt w bp base pw ph ss nx v) (hX : pw < X) :
    Calls Try.prog 48 #[.pointer (some ⟨bp, 0, none⟩), .agg #[.int .i64 X, .int .i64 Y]] w (PkRet (.tuple #[.agg #[.int .i64 0, .int .i64 0, .int .i64 0, .int .i64 0], .bool false]) bp base pw ph ss nx w) := by
  obtain ⟨kP, hO, hbp⟩ := hp
  have hd : decide (pw < X) = true := by simpa using hX
  have hl := kP.lt
  go_enter Try.func48, Try.ntmps48
  go_wp2_with fail
  refine wp_region_gob 7 [(0, true), (1, true), (2, true), (3, true), (4, true), (5, true), (6, true)] (by kernel_rfl) (by kernel_rfl) (fun c a d v w h => by cases d <;> exact h) ?_
  repeat (refine wpGo_pure (v := ?_) rfl rfl (fun w' hS => ?_) ?_; rotate_left; (· have kPp : Bk w' (bp) 61 #[.int .i64 pw, .int .i64 ph, v, .int .i64 nx] := (by repeat (first | (with_reducible assumption) | ((with_reducible refine Bk.new _ _ _ ?_); first | (with_reducible rfl) | (simp; done)) | (with_reducible refine Bk.alloc ?_ _) | (with_reducible refine Bk.drew ?_) | (with_reducible refine Bk.drewN ?_ _) | ((with_reducible refine Bk.far ?_ ?_ _); rotate_left; focus (first | (simp; done) | (simp; omega))) | (with_reducible refine Bk.below ?_ (by with_reducible assumption)))); obtain ⟨kcPp, kfPp, kaPp, kgPp, klPp⟩ := kPp.rules; have kZp : Bk w' (w.heap.size) 51 #[.int .i64 X, .int .i64 Y] := (by repeat (first | (with_reducible assumption) | ((with_reducible refine Bk.new _ _ _ ?_); first | (with_reducible rfl) | (simp; done)) | (with_reducible refine Bk.alloc ?_ _) | (with_reducible refine Bk.drew ?_) | (with_reducible refine Bk.drewN ?_ _) | ((with_reducible refine Bk.far ?_ ?_ _); rotate_left; focus (first | (simp; done) | (simp; omega))) | (with_reducible refine Bk.below ?_ (by with_reducible assumption)))); obtain ⟨kcZp, kfZp, kaZp, kgZp, klZp⟩ := kZp.rules; go_simp; exact rfl); (try simp only [Act.put, List.setIfInBounds_toArray, List.set_cons_zero, List.set_cons_succ]))
  refine wpGo_nil ?_
  simp only [List.drop_succ_cons, List.drop_zero]
  go_wp2
  refine bodyPost_ret (v := _) ?_ rfl ⟨rfl, ⟨v, kP.alloc _ |>.alloc _, (hO.alloc _).alloc _, hbp⟩, (((Fr.refl _ _ _).alloc _).alloc _).drew⟩
  simp [results, Try.results48, go_sem]


set_option maxHeartbeats 800000 in
theorem place_hit (bp base : Nat) (pw ph nx X Y : Int) (ss : List Sf) (g n c : Nat) (w : World) (hp : PkSt w bp base pw ph ss nx (.slice (some ⟨g, 0, none⟩) n c)) (hX : X ≤ pw) (hn : ss.length = n) (hlen : n ≤ 100000) (hok : ShOk pw ph ss nx) (hpw : pw ≤ 4096) (hph : ph ≤ 4096)
    (i : Nat) (hi : i < ss.length) (s : Sf) (hs : ss[i] = s) (hf : findV pw X Y ss = i) (h0 : 0 ≤ X) (h1 : 0 ≤ Y) (h2 : Y ≤ 4096) :
    Calls Try.prog 48 #[.pointer (some ⟨bp, 0, none⟩), .agg #[.int .i64 X, .int .i64 Y]] w (PkRet (.tuple #[.agg #[.int .i64 s.u, .int .i64 s.t, .int .i64 (s.u + X), .int .i64 (s.t + Y)], .bool true]) bp base pw ph (ss.set i ⟨s.t, s.h, s.u + X⟩) nx w) := by
  obtain ⟨kP, hO, hbp⟩ := hp
  have hd : decide (pw < X) = false := by simpa using hX
  have hl := kP.lt
  have Hn := Lib.hid hn
  have Hf := Lib.hid hf
  have Hs := Lib.hid hs
  have hin : i < n := by omega
  have hpw0 : 0 ≤ pw := by omega
  have hs1 := hok.all s (by rw [← hs]; exact List.getElem_mem hi)
  have hn1 := hok.n1
  have HA : Hid (∀ s ∈ ss, 0 ≤ s.u ∧ s.u ≤ pw) := fun s hm => (hok.all s hm).2.2.2
  clear hn hf hs hok
  go_enter Try.func48, Try.ntmps48
  go_wp2_with fail
  refine wp_region_gob 7 [(0, true), (1, true), (2, true), (3, true), (4, true), (5, true), (6, true)] (by kernel_rfl) (by kernel_rfl) (fun c a d v w h => by cases d <;> exact h) ?_
  repeat (refine wpGo_pure (v := ?_) rfl rfl (fun w' hS => ?_) ?_; rotate_left; (· have kPp : Bk w' (bp) 61 #[.int .i64 pw, .int .i64 ph, .slice (some ⟨g, 0, none⟩) n c, .int .i64 nx] := (by repeat (first | (with_reducible assumption) | ((with_reducible refine Bk.new _ _ _ ?_); first | (with_reducible rfl) | (simp; done)) | (with_reducible refine Bk.alloc ?_ _) | (with_reducible refine Bk.drew ?_) | (with_reducible refine Bk.drewN ?_ _) | ((with_reducible refine Bk.far ?_ ?_ _); rotate_left; focus (first | (simp; done) | (simp; omega))) | (with_reducible refine Bk.below ?_ (by with_reducible assumption)))); obtain ⟨kcPp, kfPp, kaPp, kgPp, klPp⟩ := kPp.rules; have kZp : Bk w' (w.heap.size) 51 #[.int .i64 X, .int .i64 Y] := (by repeat (first | (with_reducible assumption) | ((with_reducible refine Bk.new _ _ _ ?_); first | (with_reducible rfl) | (simp; done)) | (with_reducible refine Bk.alloc ?_ _) | (with_reducible refine Bk.drew ?_) | (with_reducible refine Bk.drewN ?_ _) | ((with_reducible refine Bk.far ?_ ?_ _); rotate_left; focus (first | (simp; done) | (simp; omega))) | (with_reducible refine Bk.below ?_ (by with_reducible assumption)))); obtain ⟨kcZp, kfZp, kaZp, kgZp, klZp⟩ := kZp.rules; go_simp; exact rfl); (try simp only [Act.put, List.setIfInBounds_toArray, List.set_cons_zero, List.set_cons_succ]))
  refine wpGo_nil ?_
  simp only [List.drop_succ_cons, List.drop_zero]
  go_wp2_with fail
  have hR : RdL encS 3 w (some ⟨g, 0, none⟩) ss := by
    obtain ⟨A, c', hv, hR, _⟩ := hO.form encS_len
    injection hv with hv _ _
    subst hv
    exact hR
  refine (find_any bp pw ph nx X Y _ n c ss _ (by repeat (first | (with_reducible assumption) | ((with_reducible refine Bk.new _ _ _ ?_); first | (with_reducible rfl) | (simp; done)) | (with_reducible refine Bk.alloc ?_ _) | (with_reducible refine Bk.drew ?_) | (with_reducible refine Bk.drewN ?_ _) | ((with_reducible refine Bk.far ?_ ?_ _); rotate_left; focus (first | (simp; done) | (simp; omega))) | (with_reducible refine Bk.below ?_ (by with_reducible assumption)))) (hR.below (by repeat (first | (with_reducible exact Below.refl _ _) | (with_reducible refine balloc ?_ _) | (with_reducible refine Below.drew ?_) | (with_reducible refine bdrewN ?_ _) | ((with_reducible refine bset ?_ ?_ _); rotate_left; focus (first | (with_reducible exact Nat.le_refl _) | (simp; done) | (simp; omega) | omega)) | (with_reducible refine bstep (by with_reducible assumption) ?_)))) Hn hlen hpw0 hpw HA.out).mono ?_
  rintro e w2 ⟨rfl, hb2⟩
  rw [Hf.out]
  have kP2 : Bk w2 (bp) 61 #[.int .i64 pw, .int .i64 ph, .slice (some ⟨g, 0, none⟩) n c, .int .i64 nx] := (by repeat (first | (with_reducible assumption) | ((with_reducible refine Bk.new _ _ _ ?_); first | (with_reducible rfl) | (simp; done)) | (with_reducible refine Bk.alloc ?_ _) | (with_reducible refine Bk.drew ?_) | (with_reducible refine Bk.drewN ?_ _) | ((with_reducible refine Bk.far ?_ ?_ _); rotate_left; focus (first | (simp; done) | (simp; omega))) | (with_reducible refine Bk.below ?_ (by with_reducible assumption)))); obtain ⟨kcP2, kfP2, kaP2, kgP2, klP2⟩ := kP2.rules; have kZ2 : Bk w2 (w.heap.size) 51 #[.int .i64 X, .int .i64 Y] := (by repeat (first | (with_reducible assumption) | ((with_reducible refine Bk.new _ _ _ ?_); first | (with_reducible rfl) | (simp; done)) | (with_reducible refine Bk.alloc ?_ _) | (with_reducible refine Bk.drew ?_) | (with_reducible refine Bk.drewN ?_ _) | ((with_reducible refine Bk.far ?_ ?_ _); rotate_left; focus (first | (simp; done) | (simp; omega))) | (with_reducible refine Bk.below ?_ (by with_reducible assumption)))); obtain ⟨kcZ2, kfZ2, kaZ2, kgZ2, klZ2⟩ := kZ2.rules; have kR2 : Bk w2 (w.heap.size + 1) 23 #[.int .i64 0, .int .i64 0, .int .i64 0, .int .i64 0] := (by repeat (first | (with_reducible assumption) | ((with_reducible refine Bk.new _ _ _ ?_); first | (with_reducible rfl) | (simp; done)) | (with_reducible refine Bk.alloc ?_ _) | (with_reducible refine Bk.drew ?_) | (with_reducible refine Bk.drewN ?_ _) | ((with_reducible refine Bk.far ?_ ?_ _); rotate_left; focus (first | (simp; done) | (simp; omega))) | (with_reducible refine Bk.below ?_ (by with_reducible assumption)))); obtain ⟨kcR2, kfR2, kaR2, kgR2, klR2⟩ := kR2.rules
  have hw2 : Below w.heap.size w w2 := (by repeat (first | (with_reducible exact Below.refl _ _) | (with_reducible refine balloc ?_ _) | (with_reducible refine Below.drew ?_) | (with_reducible refine bdrewN ?_ _) | ((with_reducible refine bset ?_ ?_ _); rotate_left; focus (first | (with_reducible exact Nat.le_refl _) | (simp; done) | (simp; omega) | omega)) | (with_reducible refine bstep (by with_reducible assumption) ?_)))
  have hO2 := hO.below hw2
  obtain ⟨g', o', hA, hg, c0, c1, c2⟩ := rd3 (hR.below hw2) (k := i) (by have := Hn.out; omega)
  injection hA with hA
  injection hA with hA1 hA2 _
  subst hA1 hA2
  rw [Nat.zero_add] at c0 c1 c2
  have i0 : ¬ ((i : Int) < 0) := by omega
  have i1 : (0 : Int) ≤ (i : Int) := by omega
  rw [Hs.out] at c0 c1 c2
  obtain ⟨_, _, cur, hv, hbg, kG, _⟩ := hO2.block (by intro e; rw [e] at hi; simp at hi)
  cases hv
  have d0 : cur[i * 3]? = some (.int .i64 s.t) := by rw [← kG.rules.1]; exact c0
  have d2 : cur[i * 3 + 2]? = some (.int .i64 s.u) := by rw [← kG.rules.1]; exact c2
  clear c0 c1 c2
  have e1 : IntKind.i64.wrap (s.u + X) = s.u + X := IntWalk.i64_in _ (by omega)
  have e2 : IntKind.i64.wrap (s.t + Y) = s.t + Y := IntWalk.i64_in _ (by omega)
  go_wp2_with fail
  refine wp_region_gob 24 [(0, true), (1, true), (2, true), (3, true), (4, true), (5, true), (6, true), (7, true), (8, true), (9, true), (10, true), (11, true), (12, true), (13, true), (14, true), (15, true), (16, true), (17, true), (18, true), (19, true), (20, true), (21, true), (22, true), (23, false)] (by kernel_rfl) (by kernel_rfl) (fun c a d v w h => by cases d <;> exact h) ?_
  repeat (refine wpGo_pure (v := ?_) rfl rfl (fun w' hS => ?_) ?_; rotate_left; (· obtain ⟨kcg, kfg, kag, kgg, klg⟩ := (Bk.below kG hS).rules; obtain ⟨kcz, kfz, kaz, kgz, klz⟩ := (Bk.below kZ2 hS).rules; go_simp; exact rfl); (try simp only [Act.put, List.setIfInBounds_toArray, List.set_cons_zero, List.set_cons_succ]))
  refine wpGo_eff rfl (fun K hK => ?_)
  go_simp
  refine hK.out _ _ (by repeat (first | (with_reducible exact Below.refl _ _) | (with_reducible refine balloc ?_ _) | (with_reducible refine Below.drew ?_) | (with_reducible refine bdrewN ?_ _) | ((with_reducible refine bset ?_ ?_ _); rotate_left; focus (first | (with_reducible exact Nat.le_refl _) | (simp; done) | (simp; omega) | omega)) | (with_reducible refine bstep (by with_reducible assumption) ?_))) (fun _ => ?_)
  clear hK K
  refine wpGo_nil ?_
  simp only [List.drop_succ_cons, List.drop_zero]
  clear e1 e2
  have kG3 := kG.alloc (.cells #[.int .i64 s.u, .int .i64 s.t, .int .i64 (s.u + X), .int .i64 (s.t + Y)] 23)
  obtain ⟨kc3, kf3, ka3, kg3, kl3⟩ := kG3.rules
  have hgl : g < w.heap.size := by
    obtain ⟨_, _, _, hv, _, k, _⟩ := hO.block (by intro e; rw [e] at hi; simp at hi)
    cases hv
    exact k.lt
  have kR4 := kR2.far (p := ⟨g, i * 3 + 2, none⟩) (by show w.heap.size + 1 ≠ g; omega) (.int .i64 (s.u + X))
  obtain ⟨kc4, kf4, ka4, kg4, kl4⟩ := kR4.rules
  go_wp2
  have hbg' : bp ≠ g := fun e => hO2.neBk kP2 (by decide) (by rw [e]; rfl)
  have hbR : bp ≠ w.heap.size + 1 := by omega
  have kP9 := (((((kP2.far (p := ⟨g, i * 3 + 2, none⟩) hbg' (.int .i64 (s.u + X))).far (p := ⟨w.heap.size + 1, 0, none⟩) hbR (.int .i64 s.u)).far (p := ⟨w.heap.size + 1, 1, none⟩) hbR (.int .i64 s.t)).far (p := ⟨w.heap.size + 1, 2, none⟩) hbR (.int .i64 (s.u + X))).far (p := ⟨w.heap.size + 1, 3, none⟩) hbR (.int .i64 (s.t + Y))).alloc (.cells #[.int .i64 s.u, .int .i64 s.t, .int .i64 (s.u + X), .int .i64 (s.t + Y)] 23)
  have hO3 := hO2.storeAt encS_len hi 2 (.int .i64 (s.u + X)) ⟨s.t, s.h, s.u + X⟩ (by decide) (by rw [Hs.out]; rfl) rfl
  have hO9 := ((((hO3.setFar kR4 (by decide) 0 (.int .i64 s.u)).setFar (kR4.set 0 _) (by decide) 1 (.int .i64 s.t)).setFar ((kR4.set 0 _).set 1 _) (by decide) 2 (.int .i64 (s.u + X))).setFar (((kR4.set 0 _).set 1 _).set 2 _) (by decide) 3 (.int .i64 (s.t + Y))).alloc (.cells #[.int .i64 s.u, .int .i64 s.t, .int .i64 (s.u + X), .int .i64 (s.t + Y)] 23)
  have hF3 : Fr base pkT w _ := (Fr.ofBelow hw2).set kG (by decide) hbg (i * 3 + 2) (.int .i64 (s.u + X))
  have hge : w.heap.size ≤ w.heap.size + 1 := by omega
  have hF9 := ((((hF3.setNew (p := ⟨w.heap.size + 1, 0, none⟩) hge (.int .i64 s.u)).setNew (p := ⟨w.heap.size + 1, 1, none⟩) hge (.int .i64 s.t)).setNew (p := ⟨w.heap.size + 1, 2, none⟩) hge (.int .i64 (s.u + X))).setNew (p := ⟨w.heap.size + 1, 3, none⟩) hge (.int .i64 (s.t + Y))).alloc (.cells #[.int .i64 s.u, .int .i64 s.t, .int .i64 (s.u + X), .int .i64 (s.t + Y)] 23)
  refine bodyPost_ret (v := _) ?_ rfl ⟨rfl, ⟨_, kP9.drew, hO9.drew, hbp⟩, hF9.drew⟩
  have kR9 := (((((kR4.set 0 (.int .i64 s.u)).set 1 (.int .i64 s.t)).set 2 (.int .i64 (s.u + X))).set 3 (.int .i64 (s.t + Y))).alloc (.cells #[.int .i64 s.u, .int .i64 s.t, .int .i64 (s.u + X), .int .i64 (s.t + Y)] 23)).drew
  clear kc4 kf4 ka4 kg4 kc3 kf3 ka3 kg3
  obtain ⟨kc9, _⟩ := kR9.rules
  generalize World.drew _ = W9 at kc9 ⊢
  simp [results, Try.results48, go_sem, kc9]

set_option maxHeartbeats 800000 in
theorem place_no (bp base : Nat) (pw ph nx X Y : Int) (ss : List Sf) (v : Value) (w : World) (hp : PkSt w bp base pw ph ss nx v) (hX : X ≤ pw) (hlen : ss.length ≤ 100000) (hok : ShOk pw ph ss nx) (hpw : pw ≤ 4096) (hph : ph ≤ 4096)
    (hf : findV pw X Y ss = -1) (h0 : 0 ≤ X) (h1 : 0 ≤ Y) (h2 : Y ≤ 4096) (h3 : ph - nx < Y) :
    Calls Try.prog 48 #[.pointer (some ⟨bp, 0, none⟩), .agg #[.int .i64 X, .int .i64 Y]] w (PkRet (.tuple #[.agg #[.int .i64 0, .int .i64 0, .int .i64 0, .int .i64 0], .bool false]) bp base pw ph ss nx w) := by
  obtain ⟨A, c, hv, hR, _⟩ := hp.2.1.form encS_len
  subst hv
  obtain ⟨n, Hn⟩ : ∃ n, Hid (ss.length = n) := ⟨_, rfl⟩
  rw [Hn.out] at hp hlen
  obtain ⟨kP, hO, hbp⟩ := hp
  have hd : decide (pw < X) = false := by simpa using hX
  have hl := kP.lt
  have Hf := Lib.hid hf
  have hpw0 : 0 ≤ pw := by omega
  have hn0 := hok.n0
  have hn1 := hok.n1
  have HA : Hid (∀ s ∈ ss, 0 ≤ s.u ∧ s.u ≤ pw) := fun s hm => (hok.all s hm).2.2.2
  clear hf hok
  go_enter Try.func48, Try.ntmps48
  go_wp2_with fail
  
  refine wp_region_gob 7 [(0, true), (1, true), (2, true), (3, true), (4, true), (5, true), (6, true)] (by kernel_rfl) (by kernel_rfl) (fun c a d v w h => by cases d <;> exact h) ?_
  repeat (refine wpGo_pure (v := ?_) rfl rfl (fun w' hS => ?_) ?_; rotate_left; (· have kPp : Bk w' (bp) 61 #[.int .i64 pw, .int .i64 ph, .slice A n c, .int .i64 nx] := (by repeat (first | (with_reducible assumption) | ((with_reducible refine Bk.new _ _ _ ?_); first | (with_reducible rfl) | (simp; done)) | (with_reducible refine Bk.alloc ?_ _) | (with_reducible refine Bk.drew ?_) | (with_reducible refine Bk.drewN ?_ _) | ((with_reducible refine Bk.far ?_ ?_ _); rotate_left; focus (first | (simp; done) | (simp; omega))) | (with_reducible refine Bk.below ?_ (by with_reducible assumption)))); obtain ⟨kcPp, kfPp, kaPp, kgPp, klPp⟩ := kPp.rules; have kZp : Bk w' (w.heap.size) 51 #[.int .i64 X, .int .i64 Y] := (by repeat (first | (with_reducible assumption) | ((with_reducible refine Bk.new _ _ _ ?_); first | (with_reducible rfl) | (simp; done)) | (with_reducible refine Bk.alloc ?_ _) | (with_reducible refine Bk.drew ?_) | (with_reducible refine Bk.drewN ?_ _) | ((with_reducible refine Bk.far ?_ ?_ _); rotate_left; focus (first | (simp; done) | (simp; omega))) | (with_reducible refine Bk.below ?_ (by with_reducible assumption)))); obtain ⟨kcZp, kfZp, kaZp, kgZp, klZp⟩ := kZp.rules; go_simp; exact rfl); (try simp only [Act.put, List.setIfInBounds_toArray, List.set_cons_zero, List.set_cons_succ]))
  refine wpGo_nil ?_
  simp only [List.drop_succ_cons, List.drop_zero]
  go_wp2_with fail
  refine (find_any bp pw ph nx X Y _ n c ss _ (by repeat (first | (with_reducible assumption) | ((with_reducible refine Bk.new _ _ _ ?_); first | (with_reducible rfl) | (simp; done)) | (with_reducible refine Bk.alloc ?_ _) | (with_reducible refine Bk.drew ?_) | (with_reducible refine Bk.drewN ?_ _) | ((with_reducible refine Bk.far ?_ ?_ _); rotate_left; focus (first | (simp; done) | (simp; omega))) | (with_reducible refine Bk.below ?_ (by with_reducible assumption)))) (hR.below (by repeat (first | (with_reducible exact Below.refl _ _) | (with_reducible refine balloc ?_ _) | (with_reducible refine Below.drew ?_) | (with_reducible refine bdrewN ?_ _) | ((with_reducible refine bset ?_ ?_ _); rotate_left; focus (first | (with_reducible exact Nat.le_refl _) | (simp; done) | (simp; omega) | omega)) | (with_reducible refine bstep (by with_reducible assumption) ?_)))) Hn hlen hpw0 hpw HA.out).mono ?_
  rintro e w2 ⟨rfl, hb2⟩
  rw [Hf.out]
  have kP2 : Bk w2 (bp) 61 #[.int .i64 pw, .int .i64 ph, .slice A n c, .int .i64 nx] := (by repeat (first | (with_reducible assumption) | ((with_reducible refine Bk.new _ _ _ ?_); first | (with_reducible rfl) | (simp; done)) | (with_reducible refine Bk.alloc ?_ _) | (with_reducible refine Bk.drew ?_) | (with_reducible refine Bk.drewN ?_ _) | ((with_reducible refine Bk.far ?_ ?_ _); rotate_left; focus (first | (simp; done) | (simp; omega))) | (with_reducible refine Bk.below ?_ (by with_reducible assumption)))); obtain ⟨kcP2, kfP2, kaP2, kgP2, klP2⟩ := kP2.rules; have kZ2 : Bk w2 (w.heap.size) 51 #[.int .i64 X, .int .i64 Y] := (by repeat (first | (with_reducible assumption) | ((with_reducible refine Bk.new _ _ _ ?_); first | (with_reducible rfl) | (simp; done)) | (with_reducible refine Bk.alloc ?_ _) | (with_reducible refine Bk.drew ?_) | (with_reducible refine Bk.drewN ?_ _) | ((with_reducible refine Bk.far ?_ ?_ _); rotate_left; focus (first | (simp; done) | (simp; omega))) | (with_reducible refine Bk.below ?_ (by with_reducible assumption)))); obtain ⟨kcZ2, kfZ2, kaZ2, kgZ2, klZ2⟩ := kZ2.rules; have kR2 : Bk w2 (w.heap.size + 1) 23 #[.int .i64 0, .int .i64 0, .int .i64 0, .int .i64 0] := (by repeat (first | (with_reducible assumption) | ((with_reducible refine Bk.new _ _ _ ?_); first | (with_reducible rfl) | (simp; done)) | (with_reducible refine Bk.alloc ?_ _) | (with_reducible refine Bk.drew ?_) | (with_reducible refine Bk.drewN ?_ _) | ((with_reducible refine Bk.far ?_ ?_ _); rotate_left; focus (first | (simp; done) | (simp; omega))) | (with_reducible refine Bk.below ?_ (by with_reducible assumption)))); obtain ⟨kcR2, kfR2, kaR2, kgR2, klR2⟩ := kR2.rules
  have hw2 : Below w.heap.size w w2 := (by repeat (first | (with_reducible exact Below.refl _ _) | (with_reducible refine balloc ?_ _) | (with_reducible refine Below.drew ?_) | (with_reducible refine bdrewN ?_ _) | ((with_reducible refine bset ?_ ?_ _); rotate_left; focus (first | (with_reducible exact Nat.le_refl _) | (simp; done) | (simp; omega) | omega)) | (with_reducible refine bstep (by with_reducible assumption) ?_)))
  have hO2 := hO.below hw2
  go_wp2_with fail
  refine (open_no bp base pw ph nx Y ss _ _ ⟨kP2, hO2, hbp⟩ hn0 hn1 hph h3).mono ?_
  rintro e w3 ⟨rfl, ⟨v3, kP3, hO3, _⟩, hF3⟩
  have kR3 := kR2.fr hF3 (by decide)
  obtain ⟨kc3, kf3, ka3, kg3, kl3⟩ := kR3.rules
  clear kcR2 kfR2 kaR2 kgR2
  go_wp2
  have hbR : bp ≠ w.heap.size + 1 := by omega
  have kR9 := (((kR3.set 0 (.int .i64 0)).set 1 (.int .i64 0)).set 2 (.int .i64 0)).set 3 (.int .i64 0)
  have kP9 := (((kP3.far (p := ⟨w.heap.size + 1, 0, none⟩) hbR (.int .i64 0)).far (p := ⟨w.heap.size + 1, 1, none⟩) hbR (.int .i64 0)).far (p := ⟨w.heap.size + 1, 2, none⟩) hbR (.int .i64 0)).far (p := ⟨w.heap.size + 1, 3, none⟩) hbR (.int .i64 0)
  have hO9 := (((hO3.setFar kR3 (by decide) 0 (.int .i64 0)).setFar (kR3.set 0 _) (by decide) 1 (.int .i64 0)).setFar ((kR3.set 0 _).set 1 _) (by decide) 2 (.int .i64 0)).setFar (((kR3.set 0 _).set 1 _).set 2 _) (by decide) 3 (.int .i64 0)
  have hge : w.heap.size ≤ w.heap.size + 1 := by omega
  have hF4 := (Fr.ofBelow hw2).trans hF3
  have hF9 := (((hF4.setNew (p := ⟨w.heap.size + 1, 0, none⟩) hge (.int .i64 0)).setNew (p := ⟨w.heap.size + 1, 1, none⟩) hge (.int .i64 0)).setNew (p := ⟨w.heap.size + 1, 2, none⟩) hge (.int .i64 0)).setNew (p := ⟨w.heap.size + 1, 3, none⟩) hge (.int .i64 0)
  refine bodyPost_ret (v := _) ?_ rfl ⟨rfl, ⟨v3, kP9, hO9, hbp⟩, hF9⟩
  clear kc3 kf3 ka3 kg3
  obtain ⟨kc9, _⟩ := kR9.rules
  generalize World.setCell _ _ _ = W9 at kc9 ⊢
  simp [results, Try.results48, go_sem, kc9]

set_option maxHeartbeats 1000000 in
theorem place_new (bp base : Nat) (pw ph nx nx1 X Y : Int) (ss0 ss : List Sf) (s : Sf) (i : Nat) (v : Value) (w : World) (hp : PkSt w bp base pw ph ss0 nx v) (hX : X ≤ pw) (hi0 : ss0.length = i) (hlen : i ≤ 99999) (hok : ShOk pw ph ss0 nx) (hpw : pw ≤ 4096) (hph : ph ≤ 4096)
    (hf : findV pw X Y ss0 = -1) (h0 : 0 ≤ X) (h1 : 0 ≤ Y) (h2 : Y ≤ 4096) (h3 : Y ≤ ph - nx) (hss : ss0 ++ [⟨nx, Y, 0⟩] = ss) (hi : i < ss.length) (hs : ss[i] = s) (hs1 : 0 ≤ s.u ∧ s.u ≤ 4096 ∧ 0 ≤ s.t ∧ s.t ≤ 4096) (hnx : nx + Y = nx1) :
    Calls Try.prog 48 #[.pointer (some ⟨bp, 0, none⟩), .agg #[.int .i64 X, .int .i64 Y]] w (PkRet (.tuple #[.agg #[.int .i64 s.u, .int .i64 s.t, .int .i64 (s.u + X), .int .i64 (s.t + Y)], .bool true]) bp base pw ph (ss.set i ⟨s.t, s.h, s.u + X⟩) nx1 w) := by
  obtain ⟨A, c, hv, hR, _⟩ := hp.2.1.form encS_len
  subst hv
  have Hn := Lib.hid hi0
  have Hss := Lib.hid hss
  have Hnx := Lib.hid hnx
  rw [Hn.out] at hp
  clear hi0 hss hnx
  obtain ⟨kP, hO, hbp⟩ := hp
  have hd : decide (pw < X) = false := by simpa using hX
  have hl := kP.lt
  have Hf := Lib.hid hf
  have Hs := Lib.hid hs
  have hpw0 : 0 ≤ pw := by omega
  have hn0 := hok.n0
  have hn1 := hok.n1
  have HA : Hid (∀ s ∈ ss0, 0 ≤ s.u ∧ s.u ≤ pw) := fun s hm => (hok.all s hm).2.2.2
  clear hf hok hs
  go_enter Try.func48, Try.ntmps48
  go_wp2_with fail
  
  refine wp_region_gob 7 [(0, true), (1, true), (2, true), (3, true), (4, true), (5, true), (6, true)] (by kernel_rfl) (by kernel_rfl) (fun c a d v w h => by cases d <;> exact h) ?_
  repeat (refine wpGo_pure (v := ?_) rfl rfl (fun w' hS => ?_) ?_; rotate_left; (· have kPp : Bk w' (bp) 61 #[.int .i64 pw, .int .i64 ph, .slice A i c, .int .i64 nx] := (by repeat (first | (with_reducible assumption) | ((with_reducible refine Bk.new _ _ _ ?_); first | (with_reducible rfl) | (simp; done)) | (with_reducible refine Bk.alloc ?_ _) | (with_reducible refine Bk.drew ?_) | (with_reducible refine Bk.drewN ?_ _) | ((with_reducible refine Bk.far ?_ ?_ _); rotate_left; focus (first | (simp; done) | (simp; omega))) | (with_reducible refine Bk.below ?_ (by with_reducible assumption)))); obtain ⟨kcPp, kfPp, kaPp, kgPp, klPp⟩ := kPp.rules; have kZp : Bk w' (w.heap.size) 51 #[.int .i64 X, .int .i64 Y] := (by repeat (first | (with_reducible assumption) | ((with_reducible refine Bk.new _ _ _ ?_); first | (with_reducible rfl) | (simp; done)) | (with_reducible refine Bk.alloc ?_ _) | (with_reducible refine Bk.drew ?_) | (with_reducible refine Bk.drewN ?_ _) | ((with_reducible refine Bk.far ?_ ?_ _); rotate_left; focus (first | (simp; done) | (simp; omega))) | (with_reducible refine Bk.below ?_ (by with_reducible assumption)))); obtain ⟨kcZp, kfZp, kaZp, kgZp, klZp⟩ := kZp.rules; go_simp; exact rfl); (try simp only [Act.put, List.setIfInBounds_toArray, List.set_cons_zero, List.set_cons_succ]))
  refine wpGo_nil ?_
  simp only [List.drop_succ_cons, List.drop_zero]
  go_wp2_with fail
  refine (find_any bp pw ph nx X Y _ i c ss0 _ (by repeat (first | (with_reducible assumption) | ((with_reducible refine Bk.new _ _ _ ?_); first | (with_reducible rfl) | (simp; done)) | (with_reducible refine Bk.alloc ?_ _) | (with_reducible refine Bk.drew ?_) | (with_reducible refine Bk.drewN ?_ _) | ((with_reducible refine Bk.far ?_ ?_ _); rotate_left; focus (first | (simp; done) | (simp; omega))) | (with_reducible refine Bk.below ?_ (by with_reducible assumption)))) (hR.below (by repeat (first | (with_reducible exact Below.refl _ _) | (with_reducible refine balloc ?_ _) | (with_reducible refine Below.drew ?_) | (with_reducible refine bdrewN ?_ _) | ((with_reducible refine bset ?_ ?_ _); rotate_left; focus (first | (with_reducible exact Nat.le_refl _) | (simp; done) | (simp; omega) | omega)) | (with_reducible refine bstep (by with_reducible assumption) ?_)))) Hn (by omega) hpw0 hpw HA.out).mono ?_
  rintro e w1 ⟨rfl, hb1⟩
  rw [Hf.out]
  have kP1 : Bk w1 (bp) 61 #[.int .i64 pw, .int .i64 ph, .slice A i c, .int .i64 nx] := (by repeat (first | (with_reducible assumption) | ((with_reducible refine Bk.new _ _ _ ?_); first | (with_reducible rfl) | (simp; done)) | (with_reducible refine Bk.alloc ?_ _) | (with_reducible refine Bk.drew ?_) | (with_reducible refine Bk.drewN ?_ _) | ((with_reducible refine Bk.far ?_ ?_ _); rotate_left; focus (first | (simp; done) | (simp; omega))) | (with_reducible refine Bk.below ?_ (by with_reducible assumption)))); obtain ⟨kcP1, kfP1, kaP1, kgP1, klP1⟩ := kP1.rules; have kZ1 : Bk w1 (w.heap.size) 51 #[.int .i64 X, .int .i64 Y] := (by repeat (first | (with_reducible assumption) | ((with_reducible refine Bk.new _ _ _ ?_); first | (with_reducible rfl) | (simp; done)) | (with_reducible refine Bk.alloc ?_ _) | (with_reducible refine Bk.drew ?_) | (with_reducible refine Bk.drewN ?_ _) | ((with_reducible refine Bk.far ?_ ?_ _); rotate_left; focus (first | (simp; done) | (simp; omega))) | (with_reducible refine Bk.below ?_ (by with_reducible assumption)))); obtain ⟨kcZ1, kfZ1, kaZ1, kgZ1, klZ1⟩ := kZ1.rules; have kR1 : Bk w1 (w.heap.size + 1) 23 #[.int .i64 0, .int .i64 0, .int .i64 0, .int .i64 0] := (by repeat (first | (with_reducible assumption) | ((with_reducible refine Bk.new _ _ _ ?_); first | (with_reducible rfl) | (simp; done)) | (with_reducible refine Bk.alloc ?_ _) | (with_reducible refine Bk.drew ?_) | (with_reducible refine Bk.drewN ?_ _) | ((with_reducible refine Bk.far ?_ ?_ _); rotate_left; focus (first | (simp; done) | (simp; omega))) | (with_reducible refine Bk.below ?_ (by with_reducible assumption)))); obtain ⟨kcR1, kfR1, kaR1, kgR1, klR1⟩ := kR1.rules
  have hw1 : Below w.heap.size w w1 := (by repeat (first | (with_reducible exact Below.refl _ _) | (with_reducible refine balloc ?_ _) | (with_reducible refine Below.drew ?_) | (with_reducible refine bdrewN ?_ _) | ((with_reducible refine bset ?_ ?_ _); rotate_left; focus (first | (with_reducible exact Nat.le_refl _) | (simp; done) | (simp; omega) | omega)) | (with_reducible refine bstep (by with_reducible assumption) ?_)))
  have hO1 := hO.below hw1
  go_wp2_with fail
  refine (open_yes bp base pw ph nx Y ss0 _ _ ⟨kP1, hO1, hbp⟩ hn0 hn1 hph h3 h1 (by have := Hn.out; omega)).mono ?_
  rw [Hnx.out, Hss.out]
  rintro e w2 ⟨rfl, ⟨v2, kP2, hO2, _⟩, hF2⟩
  obtain ⟨g, c2, cur, rfl, hbg, kG, _⟩ := hO2.block (by intro e; rw [e] at hi; simp at hi)
  have hR2 : RdL encS 3 w2 (some ⟨g, 0, none⟩) ss := by
    obtain ⟨A, c', hv, hR, _⟩ := hO2.form encS_len
    injection hv with hv _ _
    subst hv
    exact hR
  have hl2 : ss.length = i + 1 := by rw [← Hss.out, List.length_append, Hn.out]; rfl
  have kR2 := kR1.fr hF2 (by decide)
  have kZ2 := kZ1.fr hF2 (by decide)
  obtain ⟨kcR2, kfR2, kaR2, kgR2, klR2⟩ := kR2.rules
  obtain ⟨kcZ2, kfZ2, kaZ2, kgZ2, klZ2⟩ := kZ2.rules
  obtain ⟨kcP2, kfP2, kaP2, kgP2, klP2⟩ := kP2.rules
  clear kcR1 kfR1 kaR1 kgR1 kcZ1 kfZ1 kaZ1 kgZ1 kcP1 kfP1 kaP1 kgP1
  obtain ⟨g', o', hA, hg, c0, c1, c2⟩ := rd3 hR2 (k := i) hi
  injection hA with hA
  injection hA with hA1 hA2 _
  subst hA1 hA2
  rw [Nat.zero_add] at c0 c1 c2
  have hin : i < ss.length := hi
  have hidx : ((ss.length : Nat) : Int) - 1 = (i : Int) := by omega
  have i0 : ¬ ((i : Int) < 0) := by omega
  have i1 : (0 : Int) ≤ (i : Int) := by omega
  rw [Hs.out] at c0 c1 c2
  have d0 : cur[i * 3]? = some (.int .i64 s.t) := by rw [← kG.rules.1]; exact c0
  have d2 : cur[i * 3 + 2]? = some (.int .i64 s.u) := by rw [← kG.rules.1]; exact c2
  clear c0 c1 c2
  have e1 : IntKind.i64.wrap (s.u + X) = s.u + X := IntWalk.i64_in _ (by omega)
  have e2 : IntKind.i64.wrap (s.t + Y) = s.t + Y := IntWalk.i64_in _ (by omega)
  go_wp2_with fail
  refine wp_region_gob 24 [(0, true), (1, true), (2, true), (3, true), (4, true), (5, true), (6, true), (7, true), (8, true), (9, true), (10, true), (11, true), (12, true), (13, true), (14, true), (15, true), (16, true), (17, true), (18, true), (19, true), (20, true), (21, true), (22, true), (23, false)] (by kernel_rfl) (by kernel_rfl) (fun c a d v w h => by cases d <;> exact h) ?_
  repeat (refine wpGo_pure (v := ?_) rfl rfl (fun w' hS => ?_) ?_; rotate_left; (· obtain ⟨kcg, kfg, kag, kgg, klg⟩ := (Bk.below kG hS).rules; obtain ⟨kcz, kfz, kaz, kgz, klz⟩ := (Bk.below kZ2 hS).rules; go_simp; exact rfl); (try simp only [Act.put, List.setIfInBounds_toArray, List.set_cons_zero, List.set_cons_succ]))
  refine wpGo_eff rfl (fun K hK => ?_)
  go_simp
  refine hK.out _ _ (by repeat (first | (with_reducible exact Below.refl _ _) | (with_reducible refine balloc ?_ _) | (with_reducible refine Below.drew ?_) | (with_reducible refine bdrewN ?_ _) | ((with_reducible refine bset ?_ ?_ _); rotate_left; focus (first | (with_reducible exact Nat.le_refl _) | (simp; done) | (simp; omega) | omega)) | (with_reducible refine bstep (by with_reducible assumption) ?_))) (fun _ => ?_)
  clear hK K
  refine wpGo_nil ?_
  simp only [List.drop_succ_cons, List.drop_zero]
  clear e1 e2
  have kG3 := kG.alloc (.cells #[.int .i64 s.u, .int .i64 s.t, .int .i64 (s.u + X), .int .i64 (s.t + Y)] 23)
  obtain ⟨kc3, kf3, ka3, kg3, kl3⟩ := kG3.rules
  have hgR : w.heap.size + 1 ≠ g := fun e => hO2.neBk kR2 (by decide) (by rw [e]; rfl)
  have kR4 := kR2.far (p := ⟨g, i * 3 + 2, none⟩) hgR (.int .i64 (s.u + X))
  obtain ⟨kc4, kf4, ka4, kg4, kl4⟩ := kR4.rules
  go_wp2
  have hbg' : bp ≠ g := fun e => hO2.neBk kP2 (by decide) (by rw [e]; rfl)
  have hbR : bp ≠ w.heap.size + 1 := by omega
  have kP9 := (((((kP2.far (p := ⟨g, i * 3 + 2, none⟩) hbg' (.int .i64 (s.u + X))).far (p := ⟨w.heap.size + 1, 0, none⟩) hbR (.int .i64 s.u)).far (p := ⟨w.heap.size + 1, 1, none⟩) hbR (.int .i64 s.t)).far (p := ⟨w.heap.size + 1, 2, none⟩) hbR (.int .i64 (s.u + X))).far (p := ⟨w.heap.size + 1, 3, none⟩) hbR (.int .i64 (s.t + Y))).alloc (.cells #[.int .i64 s.u, .int .i64 s.t, .int .i64 (s.u + X), .int .i64 (s.t + Y)] 23)
  have hO3 := hO2.storeAt encS_len hi 2 (.int .i64 (s.u + X)) ⟨s.t, s.h, s.u + X⟩ (by decide) (by rw [Hs.out]; rfl) rfl
  have hO9 := ((((hO3.setFar kR4 (by decide) 0 (.int .i64 s.u)).setFar (kR4.set 0 _) (by decide) 1 (.int .i64 s.t)).setFar ((kR4.set 0 _).set 1 _) (by decide) 2 (.int .i64 (s.u + X))).setFar (((kR4.set 0 _).set 1 _).set 2 _) (by decide) 3 (.int .i64 (s.t + Y))).alloc (.cells #[.int .i64 s.u, .int .i64 s.t, .int .i64 (s.u + X), .int .i64 (s.t + Y)] 23)
  have hF3 : Fr base pkT w _ := ((Fr.ofBelow hw1).trans hF2).set kG (by decide) hbg (i * 3 + 2) (.int .i64 (s.u + X))
  have hge : w.heap.size ≤ w.heap.size + 1 := by omega
  have hF9 := ((((hF3.setNew (p := ⟨w.heap.size + 1, 0, none⟩) hge (.int .i64 s.u)).setNew (p := ⟨w.heap.size + 1, 1, none⟩) hge (.int .i64 s.t)).setNew (p := ⟨w.heap.size + 1, 2, none⟩) hge (.int .i64 (s.u + X))).setNew (p := ⟨w.heap.size + 1, 3, none⟩) hge (.int .i64 (s.t + Y))).alloc (.cells #[.int .i64 s.u, .int .i64 s.t, .int .i64 (s.u + X), .int .i64 (s.t + Y)] 23)
  refine bodyPost_ret (v := _) ?_ rfl ⟨rfl, ⟨_, kP9.drew, hO9.drew, hbp⟩, hF9.drew⟩
  have kR9 := (((((kR4.set 0 (.int .i64 s.u)).set 1 (.int .i64 s.t)).set 2 (.int .i64 (s.u + X))).set 3 (.int .i64 (s.t + Y))).alloc (.cells #[.int .i64 s.u, .int .i64 s.t, .int .i64 (s.u + X), .int .i64 (s.t + Y)] 23)).drew
  clear kc4 kf4 ka4 kg4 kc3 kf3 ka3 kg3
  obtain ⟨kc9, _⟩ := kR9.rules
  generalize World.drew _ = W9 at kc9 ⊢
  simp [results, Try.results48, go_sem, kc9]
end Go.Proofs.Ytiaeaegocfmjhaa
