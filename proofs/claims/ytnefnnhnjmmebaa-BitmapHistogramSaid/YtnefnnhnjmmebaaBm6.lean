/-
  The walks of bitmap.at, bitmap.At and grisailleref30.pixelAt, At.
-/
import Derived.Test.YtnefnnhnjmmebaaBm2
import Derived.Test.YtnefnnhnjmmebaaPlA
namespace Go.Proofs.Ytnefnnhnjmmebaa
open Go.RowKit
set_option linter.unusedSimpArgs false
set_option linter.unusedVariables false

def zP : Px := ⟨0, 0, 0, 0⟩
theorem atL_out {α : Type} {z : α} {r : Rc} {l : List α} {x y : Int} (h : containsB r x y = false) : atL z r l x y = z := by unfold atL; rw [h]; rfl
theorem atL_in {α : Type} {z : α} {r : Rc} {l : List α} {x y : Int} (h : containsB r x y = true) (hl : (l.length : Int) = areaR r) : ∃ k : Nat, pixR r x y = (k : Int) ∧ ∃ hk : k < l.length, l[k] = atL z r l x y := by
  obtain ⟨h0, h1⟩ := pix_lt h hl
  refine ⟨(pixR r x y).toNat, by omega, h1, ?_⟩
  unfold atL
  rw [if_pos h, List.getD_eq_getElem?_getD, List.getElem?_eq_getElem h1]; rfl
theorem pixR_out {r : Rc} {x y : Int} (h : containsB r x y = false) : pixR r x y = -1 := by unfold pixR; rw [h]; rfl

set_option maxHeartbeats 1600000 in
theorem at_any (r : Rc) (A : Option Addr) (n c : Nat) (l : List Px) (x y : Int) (w : World) (hr : RdL encP 4 w A l) (hn : l.length = n) (hn2 : n ≤ 4000000000) (ha : (n : Int) = areaR r) (p : Px) (Hp : Hid (atL zP r l x y = p)) :
    Calls Try.prog 65 #[.agg #[.int .i64 r.x0, .int .i64 r.y0, .int .i64 r.x1, .int .i64 r.y1, .slice A n c], .int .i64 x, .int .i64 y] w fun e w' => e = .returned (.agg #[.int .u8 p.r, .int .u8 p.g, .int .u8 p.b, .int .u8 p.a]) ∧ Below w.heap.size w w' := by
  have HR := Lib.hid hr
  have Hn := Lib.hid hn
  have HI := Lib.hid (pix_any r.x0 r.y0 r.x1 r.y1 x y)
  cases hcb : containsB r x y with
  | false =>
    have e1 : pixR ⟨r.x0, r.y0, r.x1, r.y1⟩ x y = -1 := pixR_out hcb
    obtain rfl : zP = p := (atL_out hcb).symm.trans Hp.out
    rw [e1] at HI
    clear hr hn hcb e1 Hp HR ha
    go_enter Try.func65, Try.ntmps65
    go_wp2_with fail
    refine (HI.out _).mono ?_
    rintro e w1 ⟨rfl, hb1⟩
    have kZ1 : Bk w1 (w.heap.size + 1) 25 #[.int .u8 0, .int .u8 0, .int .u8 0, .int .u8 0] := (by repeat (first | (with_reducible assumption) | ((with_reducible refine Bk.new _ _ _ ?_); first | (with_reducible rfl) | (simp; done)) | (with_reducible refine Bk.alloc ?_ _) | (with_reducible refine Bk.drew ?_) | (with_reducible refine Bk.drewN ?_ _) | ((with_reducible refine Bk.far ?_ ?_ _); rotate_left; focus (first | (simp; done) | (simp; omega))) | (with_reducible refine Bk.below ?_ (by with_reducible assumption)))); obtain ⟨kcZ1, kfZ1, kaZ1, kgZ1, klZ1⟩ := kZ1.rules
    go_wp2
    refine bodyPost_ret (v := _) ?_ rfl ⟨rfl, (by repeat (first | (with_reducible exact Below.refl _ _) | (with_reducible refine balloc ?_ _) | (with_reducible refine Below.drew ?_) | (with_reducible refine bdrewN ?_ _) | ((with_reducible refine bset ?_ ?_ _); rotate_left; focus (first | (with_reducible exact Nat.le_refl _) | (simp; done) | (simp; omega) | omega)) | (with_reducible refine bstep (by with_reducible assumption) ?_)))⟩
    simp [results, Try.results65, go_sem, kcZ1, zP]
  | true =>
    obtain ⟨k, e1, hkl, hv⟩ := atL_in (z := zP) hcb (by rw [hn]; exact ha)
    have e1' : pixR ⟨r.x0, r.y0, r.x1, r.y1⟩ x y = (k : Int) := e1
    rw [e1'] at HI
    rw [Hp.out] at hv
    have hkn : k < n := by omega
    have Hv := Lib.hid hv
    have i0 : (0 : Int) ≤ (k : Int) := by omega
    have i2 : ((k : Int) < 0) = False := by simp
    clear hr hn hcb e1 e1' Hp ha hv
    go_enter Try.func65, Try.ntmps65
    go_wp2_with fail
    refine (HI.out _).mono ?_
    rintro e w1 ⟨rfl, hb1⟩
    have kB1 : Bk w1 (w.heap.size) 28 #[.int .i64 r.x0, .int .i64 r.y0, .int .i64 r.x1, .int .i64 r.y1, .slice A n c] := (by repeat (first | (with_reducible assumption) | ((with_reducible refine Bk.new _ _ _ ?_); first | (with_reducible rfl) | (simp; done)) | (with_reducible refine Bk.alloc ?_ _) | (with_reducible refine Bk.drew ?_) | (with_reducible refine Bk.drewN ?_ _) | ((with_reducible refine Bk.far ?_ ?_ _); rotate_left; focus (first | (simp; done) | (simp; omega))) | (with_reducible refine Bk.below ?_ (by with_reducible assumption)))); obtain ⟨kcB1, kfB1, kaB1, kgB1, klB1⟩ := kB1.rules; have kZ1 : Bk w1 (w.heap.size + 1) 25 #[.int .u8 0, .int .u8 0, .int .u8 0, .int .u8 0] := (by repeat (first | (with_reducible assumption) | ((with_reducible refine Bk.new _ _ _ ?_); first | (with_reducible rfl) | (simp; done)) | (with_reducible refine Bk.alloc ?_ _) | (with_reducible refine Bk.drew ?_) | (with_reducible refine Bk.drewN ?_ _) | ((with_reducible refine Bk.far ?_ ?_ _); rotate_left; focus (first | (simp; done) | (simp; omega))) | (with_reducible refine Bk.below ?_ (by with_reducible assumption)))); obtain ⟨kcZ1, kfZ1, kaZ1, kgZ1, klZ1⟩ := kZ1.rules
    have hB1 : Below w.heap.size w w1 := (by repeat (first | (with_reducible exact Below.refl _ _) | (with_reducible refine balloc ?_ _) | (with_reducible refine Below.drew ?_) | (with_reducible refine bdrewN ?_ _) | ((with_reducible refine bset ?_ ?_ _); rotate_left; focus (first | (with_reducible exact Nat.le_refl _) | (simp; done) | (simp; omega) | omega)) | (with_reducible refine bstep (by with_reducible assumption) ?_)))
    obtain ⟨gb, ob, rfl, hg, hcA⟩ := rdp (HR.out.below hB1) hkl
    rw [Hv.out] at hcA
    obtain ⟨c0, c1, c2, c3⟩ := hcA
    go_wp2
    refine bodyPost_ret (v := _) ?_ rfl ⟨rfl, (by repeat (first | (with_reducible exact Below.refl _ _) | (with_reducible refine balloc ?_ _) | (with_reducible refine Below.drew ?_) | (with_reducible refine bdrewN ?_ _) | ((with_reducible refine bset ?_ ?_ _); rotate_left; focus (first | (with_reducible exact Nat.le_refl _) | (simp; done) | (simp; omega) | omega)) | (with_reducible refine bstep (by with_reducible assumption) ?_)))⟩
    simp [results, Try.results65, go_sem, kcZ1]

set_option maxHeartbeats 1600000 in
theorem pixat_any (r : Rc) (A : Option Addr) (n c : Nat) (l : List Px) (x y : Int) (w : World) (hr : RdL encP 4 w A l) (hn : l.length = n) (hn2 : n ≤ 4000000000) (ha : (n : Int) = areaR r) (p : Px) (Hp : Hid (atL zP r l x y = p)) :
    Calls Try.prog 77 #[.agg #[.int .i64 r.x0, .int .i64 r.y0, .int .i64 r.x1, .int .i64 r.y1, .slice A n c], .int .i64 x, .int .i64 y] w fun e w' => e = .returned (.agg #[.int .u8 p.r, .int .u8 p.g, .int .u8 p.b, .int .u8 p.a]) ∧ Below w.heap.size w w' := by
  have HR := Lib.hid hr
  have Hn := Lib.hid hn
  have HI := Lib.hid (rpix_any r.x0 r.y0 r.x1 r.y1 x y)
  cases hcb : containsB r x y with
  | false =>
    obtain rfl : zP = p := (atL_out hcb).symm.trans Hp.out
    have HC : Hid (containsB ⟨r.x0, r.y0, r.x1, r.y1⟩ x y = false) := hcb
    clear hr hn hcb Hp HR ha HI
    go_enter Try.func77, Try.ntmps77
    go_wp2_with fail
    refine (rcontains_q _ _ _ _ _ _ false HC _).mono ?_
    rintro e w1 ⟨rfl, hb1⟩
    have kZ1 : Bk w1 (w.heap.size + 1) 25 #[.int .u8 0, .int .u8 0, .int .u8 0, .int .u8 0] := (by repeat (first | (with_reducible assumption) | ((with_reducible refine Bk.new _ _ _ ?_); first | (with_reducible rfl) | (simp; done)) | (with_reducible refine Bk.alloc ?_ _) | (with_reducible refine Bk.drew ?_) | (with_reducible refine Bk.drewN ?_ _) | ((with_reducible refine Bk.far ?_ ?_ _); rotate_left; focus (first | (simp; done) | (simp; omega))) | (with_reducible refine Bk.below ?_ (by with_reducible assumption)))); obtain ⟨kcZ1, kfZ1, kaZ1, kgZ1, klZ1⟩ := kZ1.rules
    go_wp2
    refine bodyPost_ret (v := _) ?_ rfl ⟨rfl, (by repeat (first | (with_reducible exact Below.refl _ _) | (with_reducible refine balloc ?_ _) | (with_reducible refine Below.drew ?_) | (with_reducible refine bdrewN ?_ _) | ((with_reducible refine bset ?_ ?_ _); rotate_left; focus (first | (with_reducible exact Nat.le_refl _) | (simp; done) | (simp; omega) | omega)) | (with_reducible refine bstep (by with_reducible assumption) ?_)))⟩
    simp [results, Try.results77, go_sem, kcZ1, zP]
  | true =>
    obtain ⟨k, e1, hkl, hv⟩ := atL_in (z := zP) hcb (by rw [hn]; exact ha)
    have e1' : pixR ⟨r.x0, r.y0, r.x1, r.y1⟩ x y = (k : Int) := e1
    have HC : Hid (containsB ⟨r.x0, r.y0, r.x1, r.y1⟩ x y = true) := hcb
    rw [e1'] at HI
    rw [Hp.out] at hv
    have hkn : k < n := by omega
    have Hv := Lib.hid hv
    have i0 : (0 : Int) ≤ (k : Int) := by omega
    have i1 : (k : Int) < (n : Int) := by omega
    clear hr hn hcb e1 e1' Hp ha hv
    go_enter Try.func77, Try.ntmps77
    go_wp2_with fail
    refine (rcontains_q _ _ _ _ _ _ true HC _).mono ?_
    rintro e w1 ⟨rfl, hb1⟩
    have kB1 : Bk w1 (w.heap.size) 28 #[.int .i64 r.x0, .int .i64 r.y0, .int .i64 r.x1, .int .i64 r.y1, .slice A n c] := (by repeat (first | (with_reducible assumption) | ((with_reducible refine Bk.new _ _ _ ?_); first | (with_reducible rfl) | (simp; done)) | (with_reducible refine Bk.alloc ?_ _) | (with_reducible refine Bk.drew ?_) | (with_reducible refine Bk.drewN ?_ _) | ((with_reducible refine Bk.far ?_ ?_ _); rotate_left; focus (first | (simp; done) | (simp; omega))) | (with_reducible refine Bk.below ?_ (by with_reducible assumption)))); obtain ⟨kcB1, kfB1, kaB1, kgB1, klB1⟩ := kB1.rules; have kZ1 : Bk w1 (w.heap.size + 1) 25 #[.int .u8 0, .int .u8 0, .int .u8 0, .int .u8 0] := (by repeat (first | (with_reducible assumption) | ((with_reducible refine Bk.new _ _ _ ?_); first | (with_reducible rfl) | (simp; done)) | (with_reducible refine Bk.alloc ?_ _) | (with_reducible refine Bk.drew ?_) | (with_reducible refine Bk.drewN ?_ _) | ((with_reducible refine Bk.far ?_ ?_ _); rotate_left; focus (first | (simp; done) | (simp; omega))) | (with_reducible refine Bk.below ?_ (by with_reducible assumption)))); obtain ⟨kcZ1, kfZ1, kaZ1, kgZ1, klZ1⟩ := kZ1.rules
    have hB1 : Below w.heap.size w w1 := (by repeat (first | (with_reducible exact Below.refl _ _) | (with_reducible refine balloc ?_ _) | (with_reducible refine Below.drew ?_) | (with_reducible refine bdrewN ?_ _) | ((with_reducible refine bset ?_ ?_ _); rotate_left; focus (first | (with_reducible exact Nat.le_refl _) | (simp; done) | (simp; omega) | omega)) | (with_reducible refine bstep (by with_reducible assumption) ?_)))
    obtain ⟨gb, ob, rfl, hg, hcA⟩ := rdp (HR.out.below hB1) hkl
    rw [Hv.out] at hcA
    have QA := Lib.hid hcA
    clear hcA
    go_wp2_with fail
    clear kcB1 kfB1 kaB1 kgB1 kcZ1 kfZ1 kaZ1 kgZ1
    refine wp_region_gob 9 [(0, true), (1, true), (2, true), (3, true), (4, true), (5, true), (6, false), (7, true), (8, true)] (by kernel_rfl) (by kernel_rfl) (fun c a d v w h => by cases d <;> exact h) ?_
    repeat (refine wpGo_pure (v := ?_) rfl rfl (fun w' hS => ?_) ?_; rotate_left; (· obtain ⟨q0, q1, q2, q3⟩ := QA.out; have qr0 := (hS.cell (p := ⟨gb, ob + k * 4, none⟩) hg).trans q0; have qr1 := (hS.cell (p := ⟨gb, ob + k * 4 + 1, none⟩) hg).trans q1; have qr2 := (hS.cell (p := ⟨gb, ob + k * 4 + 2, none⟩) hg).trans q2; have qr3 := (hS.cell (p := ⟨gb, ob + k * 4 + 3, none⟩) hg).trans q3; have jB := kB1.below hS; obtain ⟨kc, kf, ka, kg, kl⟩ := jB.rules; go_simp; exact rfl); (try simp only [Act.put, List.setIfInBounds_toArray, List.set_cons_zero, List.set_cons_succ]))
    refine wpGo_eff rfl (fun K hK => ?_)
    go_simp
    refine (HI.out _).mono ?_
    rintro e w2 ⟨rfl, hb2⟩
    refine hK.out _ _ (by repeat (first | (with_reducible exact Below.refl _ _) | (with_reducible refine balloc ?_ _) | (with_reducible refine Below.drew ?_) | (with_reducible refine bdrewN ?_ _) | ((with_reducible refine bset ?_ ?_ _); rotate_left; focus (first | (with_reducible exact Nat.le_refl _) | (simp; done) | (simp; omega) | omega)) | (with_reducible refine bstep (by with_reducible assumption) ?_))) (fun hS2 => ?_)
    clear hK K
    repeat (refine wpGo_pure (v := ?_) rfl rfl (fun w' hS => ?_) ?_; rotate_left; (· obtain ⟨q0, q1, q2, q3⟩ := QA.out; have qr0 := (hS.cell (p := ⟨gb, ob + k * 4, none⟩) hg).trans q0; have qr1 := (hS.cell (p := ⟨gb, ob + k * 4 + 1, none⟩) hg).trans q1; have qr2 := (hS.cell (p := ⟨gb, ob + k * 4 + 2, none⟩) hg).trans q2; have qr3 := (hS.cell (p := ⟨gb, ob + k * 4 + 3, none⟩) hg).trans q3; have jB := kB1.below hS; obtain ⟨kc, kf, ka, kg, kl⟩ := jB.rules; go_simp; exact rfl); (try simp only [Act.put, List.setIfInBounds_toArray, List.set_cons_zero, List.set_cons_succ]))
    refine wpGo_nil ?_
    simp only [List.drop_succ_cons, List.drop_zero]
    have kZ2 : Bk w2 (w.heap.size + 1) 25 #[.int .u8 0, .int .u8 0, .int .u8 0, .int .u8 0] := (by repeat (first | (with_reducible assumption) | ((with_reducible refine Bk.new _ _ _ ?_); first | (with_reducible rfl) | (simp; done)) | (with_reducible refine Bk.alloc ?_ _) | (with_reducible refine Bk.drew ?_) | (with_reducible refine Bk.drewN ?_ _) | ((with_reducible refine Bk.far ?_ ?_ _); rotate_left; focus (first | (simp; done) | (simp; omega))) | (with_reducible refine Bk.below ?_ (by with_reducible assumption)))); obtain ⟨kcZ2, kfZ2, kaZ2, kgZ2, klZ2⟩ := kZ2.rules
    go_wp2
    refine bodyPost_ret (v := _) ?_ rfl ⟨rfl, (by repeat (first | (with_reducible exact Below.refl _ _) | (with_reducible refine balloc ?_ _) | (with_reducible refine Below.drew ?_) | (with_reducible refine bdrewN ?_ _) | ((with_reducible refine bset ?_ ?_ _); rotate_left; focus (first | (with_reducible exact Nat.le_refl _) | (simp; done) | (simp; omega) | omega)) | (with_reducible refine bstep (by with_reducible assumption) ?_)))⟩
    simp [results, Try.results77, go_sem, kcZ2]

set_option maxHeartbeats 1600000 in
theorem At_any (r : Rc) (A : Option Addr) (n c : Nat) (l : List Px) (x y : Int) (w : World) (hr : RdL encP 4 w A l) (hn : l.length = n) (hn2 : n ≤ 4000000000) (p : Px) (Hp : Hid ((if bmValid r l then atL zP r l x y else zP) = p)) :
    Calls Try.prog 26 #[.agg #[.int .i64 r.x0, .int .i64 r.y0, .int .i64 r.x1, .int .i64 r.y1, .slice A n c], .int .i64 x, .int .i64 y] w fun e w' => e = .returned (.agg #[.int .u8 p.r, .int .u8 p.g, .int .u8 p.b, .int .u8 p.a]) ∧ Below w.heap.size w w' := by
  have HR := Lib.hid hr
  have Hn := Lib.hid hn
  cases hcb : bmValid r l with
  | false =>
    obtain rfl : zP = p := by have h := Hp.out; rw [hcb] at h; exact h
    have HV : Hid (bmValid r l = false) := hcb
    clear hr hn hcb Hp
    go_enter Try.func26, Try.ntmps26
    go_wp2_with fail
    refine (bvalid_any r A n c l _ (HR.out.below (by repeat (first | (with_reducible exact Below.refl _ _) | (with_reducible refine balloc ?_ _) | (with_reducible refine Below.drew ?_) | (with_reducible refine bdrewN ?_ _) | ((with_reducible refine bset ?_ ?_ _); rotate_left; focus (first | (with_reducible exact Nat.le_refl _) | (simp; done) | (simp; omega) | omega)) | (with_reducible refine bstep (by with_reducible assumption) ?_)))) Hn.out (by omega) false HV).mono ?_
    rintro e w1 ⟨rfl, hb1⟩
    have kZ1 : Bk w1 (w.heap.size + 1) 25 #[.int .u8 0, .int .u8 0, .int .u8 0, .int .u8 0] := (by repeat (first | (with_reducible assumption) | ((with_reducible refine Bk.new _ _ _ ?_); first | (with_reducible rfl) | (simp; done)) | (with_reducible refine Bk.alloc ?_ _) | (with_reducible refine Bk.drew ?_) | (with_reducible refine Bk.drewN ?_ _) | ((with_reducible refine Bk.far ?_ ?_ _); rotate_left; focus (first | (simp; done) | (simp; omega))) | (with_reducible refine Bk.below ?_ (by with_reducible assumption)))); obtain ⟨kcZ1, kfZ1, kaZ1, kgZ1, klZ1⟩ := kZ1.rules
    go_wp2
    refine bodyPost_ret (v := _) ?_ rfl ⟨rfl, (by repeat (first | (with_reducible exact Below.refl _ _) | (with_reducible refine balloc ?_ _) | (with_reducible refine Below.drew ?_) | (with_reducible refine bdrewN ?_ _) | ((with_reducible refine bset ?_ ?_ _); rotate_left; focus (first | (with_reducible exact Nat.le_refl _) | (simp; done) | (simp; omega) | omega)) | (with_reducible refine bstep (by with_reducible assumption) ?_)))⟩
    simp [results, Try.results26, go_sem, kcZ1, zP]
  | true =>
    have HV : Hid (bmValid r l = true) := hcb
    have HP : Hid (atL zP r l x y = p) := by have h := Hp.out; rw [hcb] at h; exact h
    have HA : Hid ((n : Int) = areaR r) := by have h := hcb; unfold bmValid at h; simp at h; unfold Hid; rw [← hn]; exact h.1.2
    clear hr hn hcb Hp
    go_enter Try.func26, Try.ntmps26
    go_wp2_with fail
    refine (bvalid_any r A n c l _ (HR.out.below (by repeat (first | (with_reducible exact Below.refl _ _) | (with_reducible refine balloc ?_ _) | (with_reducible refine Below.drew ?_) | (with_reducible refine bdrewN ?_ _) | ((with_reducible refine bset ?_ ?_ _); rotate_left; focus (first | (with_reducible exact Nat.le_refl _) | (simp; done) | (simp; omega) | omega)) | (with_reducible refine bstep (by with_reducible assumption) ?_)))) Hn.out (by omega) true HV).mono ?_
    rintro e w1 ⟨rfl, hb1⟩
    have kB1 : Bk w1 (w.heap.size) 28 #[.int .i64 r.x0, .int .i64 r.y0, .int .i64 r.x1, .int .i64 r.y1, .slice A n c] := (by repeat (first | (with_reducible assumption) | ((with_reducible refine Bk.new _ _ _ ?_); first | (with_reducible rfl) | (simp; done)) | (with_reducible refine Bk.alloc ?_ _) | (with_reducible refine Bk.drew ?_) | (with_reducible refine Bk.drewN ?_ _) | ((with_reducible refine Bk.far ?_ ?_ _); rotate_left; focus (first | (simp; done) | (simp; omega))) | (with_reducible refine Bk.below ?_ (by with_reducible assumption)))); obtain ⟨kcB1, kfB1, kaB1, kgB1, klB1⟩ := kB1.rules; have kZ1 : Bk w1 (w.heap.size + 1) 25 #[.int .u8 0, .int .u8 0, .int .u8 0, .int .u8 0] := (by repeat (first | (with_reducible assumption) | ((with_reducible refine Bk.new _ _ _ ?_); first | (with_reducible rfl) | (simp; done)) | (with_reducible refine Bk.alloc ?_ _) | (with_reducible refine Bk.drew ?_) | (with_reducible refine Bk.drewN ?_ _) | ((with_reducible refine Bk.far ?_ ?_ _); rotate_left; focus (first | (simp; done) | (simp; omega))) | (with_reducible refine Bk.below ?_ (by with_reducible assumption)))); obtain ⟨kcZ1, kfZ1, kaZ1, kgZ1, klZ1⟩ := kZ1.rules
    have hB1 : Below w.heap.size w w1 := (by repeat (first | (with_reducible exact Below.refl _ _) | (with_reducible refine balloc ?_ _) | (with_reducible refine Below.drew ?_) | (with_reducible refine bdrewN ?_ _) | ((with_reducible refine bset ?_ ?_ _); rotate_left; focus (first | (with_reducible exact Nat.le_refl _) | (simp; done) | (simp; omega) | omega)) | (with_reducible refine bstep (by with_reducible assumption) ?_)))
    go_wp2_with fail
    refine (at_any r A n c l x y _ (HR.out.below hB1) Hn.out (by omega) HA.out p HP).mono ?_
    rintro e w2 ⟨rfl, hb2⟩
    clear kcB1 kfB1 kaB1 kgB1 kcZ1 kfZ1 kaZ1 kgZ1
    have kZ2 : Bk w2 (w.heap.size + 1) 25 #[.int .u8 0, .int .u8 0, .int .u8 0, .int .u8 0] := (by repeat (first | (with_reducible assumption) | ((with_reducible refine Bk.new _ _ _ ?_); first | (with_reducible rfl) | (simp; done)) | (with_reducible refine Bk.alloc ?_ _) | (with_reducible refine Bk.drew ?_) | (with_reducible refine Bk.drewN ?_ _) | ((with_reducible refine Bk.far ?_ ?_ _); rotate_left; focus (first | (simp; done) | (simp; omega))) | (with_reducible refine Bk.below ?_ (by with_reducible assumption)))); obtain ⟨kcZ2, kfZ2, kaZ2, kgZ2, klZ2⟩ := kZ2.rules
    go_wp2
    refine bodyPost_ret (v := _) ?_ rfl ⟨rfl, (by repeat (first | (with_reducible exact Below.refl _ _) | (with_reducible refine balloc ?_ _) | (with_reducible refine Below.drew ?_) | (with_reducible refine bdrewN ?_ _) | ((with_reducible refine bset ?_ ?_ _); rotate_left; focus (first | (with_reducible exact Nat.le_refl _) | (simp; done) | (simp; omega) | omega)) | (with_reducible refine bstep (by with_reducible assumption) ?_)))⟩
    simp [results, Try.results26, go_sem, kcZ2]
end Go.Proofs.Ytnefnnhnjmmebaa
