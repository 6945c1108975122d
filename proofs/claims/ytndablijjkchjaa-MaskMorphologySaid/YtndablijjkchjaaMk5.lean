/-
  The walk of mask.Union.
-/
import Derived.Test.YtndablijjkchjaaMk3
import Derived.Test.YtndablijjkchjaaMn8
import Derived.Test.YtndablijjkchjaaMkMadeN
import Derived.Test.YtndablijjkchjaaPlA
namespace Go.Proofs.Ytndablijjkchjaa
open Go.RowKit
set_option linter.unusedSimpArgs false
set_option linter.unusedVariables false

theorem mn8_ge {u v : Int} (h0 : 0 ≤ u) (h1 : u ≤ 255) (h2 : 0 ≤ v) (h3 : v ≤ 255) : u + v - 255 ≤ mn8 u v ∧ mn8 u v ≤ v := by
  have h4 : 0 ≤ (255 - u) * (255 - v) := Int.mul_nonneg (by omega) (by omega)
  have h5 : (255 - u) * (255 - v) = 65025 - 255 * v - 255 * u + u * v := by
    rw [Int.sub_mul, Int.mul_sub, Int.mul_sub, Int.mul_comm u 255]; omega
  have h6 := mul_byte h0 h1 h2 h3
  unfold mn8 rndP
  omega
/-- a + b - a b. -/
def uvP (u v : Int) : Int := u + v - mn8 u v
theorem uv_bd {u v : Int} (h0 : 0 ≤ u) (h1 : u ≤ 255) (h2 : 0 ≤ v) (h3 : v ≤ 255) : 0 ≤ uvP u v ∧ uvP u v ≤ 255 := by
  have := mn8_ge h0 h1 h2 h3
  have := mn8_bd h0 h1 h2 h3
  unfold uvP
  omega
def unB (a b : Mk) : Bool := vMk a && vMk b
def unG (a b : Mk) (x y : Int) : Int := uvP (atL 0 a.r a.l x y) (atL 0 b.r b.l x y)
/-- The union of two masks, or the error. -/
def unMR (a b : Mk) : Rc := if unB a b && decide (areaR (unionR a.r b.r) ≤ 65536) then unionR a.r b.r else ⟨0, 0, 0, 0⟩
def unML (a b : Mk) : List Int := if unB a b && decide (areaR (unionR a.r b.r) ≤ 65536) then pixL (unG a b) (unionR a.r b.r) else []
def unME (a b : Mk) : Int := if unB a b then (if decide (areaR (unionR a.r b.r) ≤ 65536) then 0 else 5) else 14

set_option maxHeartbeats 1600000 in
theorem un1_any (x y : Int) (c0 c1 : Nat) (a b : Mk) (w0 w : World) (hw : Below w0.heap.size w0 w) (HA : Hid (a.ok w0)) (HB : Hid (b.ok w0)) (hna : a.n ≤ 4000000000) (hnb : b.n ≤ 4000000000) (Ha : Hid ((a.n : Int) = areaR a.r)) (Hb : Hid ((b.n : Int) = areaR b.r)) (hC : Bk w c0 29 #[.int .i64 a.r.x0, .int .i64 a.r.y0, .int .i64 a.r.x1, .int .i64 a.r.y1, .slice a.A a.n a.c]) (hD : Bk w c1 29 #[.int .i64 b.r.x0, .int .i64 b.r.y0, .int .i64 b.r.x1, .int .i64 b.r.y1, .slice b.A b.n b.c]) (p : Int) (Hp : Hid (unG a b x y = p)) :
    Calls Try.prog 61 #[.int .i64 x, .int .i64 y, .pointer (some ⟨c0, 0, none⟩), .pointer (some ⟨c1, 0, none⟩)] w fun e w' => e = .returned (.int .u8 p) ∧ Below w.heap.size w w' := by
  obtain ⟨pu, Hpu⟩ : ∃ p, Hid (atL 0 a.r a.l x y = p) := ⟨_, rfl⟩
  obtain ⟨pv, Hpv⟩ : ∃ p, Hid (atL 0 b.r b.l x y = p) := ⟨_, rfl⟩
  have bu := atL_byte (r := a.r) HA.out.byte x y
  have bv := atL_byte (r := b.r) HB.out.byte x y
  rw [Hpu.out] at bu
  rw [Hpv.out] at bv
  have hp := Hp.out
  unfold unG uvP at hp
  rw [Hpu.out, Hpv.out] at hp
  have hb := uv_bd bu.1 bu.2 bv.1 bv.2
  unfold uvP at hb
  have hm := mn8_bd bu.1 bu.2 bv.1 bv.2
  have HM := Lib.hid (fun w => mn8_any pu pv w bu.1 bu.2 bv.1 bv.2)
  generalize mn8 pu pv = m at *
  have HP := Lib.hid hp
  clear hp Hp
  have hC' := hC.rules
  go_enter Try.func61, Try.ntmps61
  go_wp2_with fail
  refine wp_region_gob 10 [(0, true), (1, true), (2, true), (4, true), (5, true), (6, true), (3, false), (7, false), (8, true), (9, true)] (by kernel_rfl) (by kernel_rfl) (fun c a d v w h => by cases d <;> exact h) ?_
  repeat (first | (refine wpGo_pure (v := ?_) rfl rfl (fun w' hS => ?_) ?_; rotate_left; (· have kCp : Bk w' (c0) 29 #[.int .i64 a.r.x0, .int .i64 a.r.y0, .int .i64 a.r.x1, .int .i64 a.r.y1, .slice a.A a.n a.c] := (by repeat (first | (with_reducible assumption) | ((with_reducible refine Bk.new _ _ _ ?_); first | (with_reducible rfl) | (simp; done)) | (with_reducible refine Bk.alloc ?_ _) | (with_reducible refine Bk.drew ?_) | (with_reducible refine Bk.drewN ?_ _) | ((with_reducible refine Bk.far ?_ ?_ _); rotate_left; focus (first | (simp; done) | (simp; omega))) | (with_reducible refine Bk.below ?_ (by with_reducible assumption)))); obtain ⟨kcCp, kfCp, kaCp, kgCp, klCp⟩ := kCp.rules; have kDp : Bk w' (c1) 29 #[.int .i64 b.r.x0, .int .i64 b.r.y0, .int .i64 b.r.x1, .int .i64 b.r.y1, .slice b.A b.n b.c] := (by repeat (first | (with_reducible assumption) | ((with_reducible refine Bk.new _ _ _ ?_); first | (with_reducible rfl) | (simp; done)) | (with_reducible refine Bk.alloc ?_ _) | (with_reducible refine Bk.drew ?_) | (with_reducible refine Bk.drewN ?_ _) | ((with_reducible refine Bk.far ?_ ?_ _); rotate_left; focus (first | (simp; done) | (simp; omega))) | (with_reducible refine Bk.below ?_ (by with_reducible assumption)))); obtain ⟨kcDp, kfDp, kaDp, kgDp, klDp⟩ := kDp.rules; go_simp; exact rfl); (try simp only [Act.put, List.setIfInBounds_toArray, List.set_cons_zero, List.set_cons_succ])) | ((refine wpGo_skip rfl rfl ?_); (try simp only [Act.put, List.setIfInBounds_toArray, List.set_cons_zero, List.set_cons_succ])))
  refine wpGo_eff rfl (fun K hK => ?_)
  go_simp
  refine (mat_any a.r a.A a.n a.c a.l _ _ _ (HA.out.rd.below (bstep (by show Below w.heap.size w _; exact (by repeat (first | (with_reducible exact Below.refl _ _) | (with_reducible refine balloc ?_ _) | (with_reducible refine Below.drew ?_) | (with_reducible refine bdrewN ?_ _) | ((with_reducible refine bset ?_ ?_ _); rotate_left; focus (first | (with_reducible exact Nat.le_refl _) | (simp; done) | (simp; omega) | omega)) | (with_reducible refine bstep (by with_reducible assumption) ?_)))) hw)) HA.out.ln hna Ha.out pu Hpu).mono ?_
  rintro e w1 ⟨rfl, hb1⟩
  refine hK.out _ _ (by repeat (first | (with_reducible exact Below.refl _ _) | (with_reducible refine balloc ?_ _) | (with_reducible refine Below.drew ?_) | (with_reducible refine bdrewN ?_ _) | ((with_reducible refine bset ?_ ?_ _); rotate_left; focus (first | (with_reducible exact Nat.le_refl _) | (simp; done) | (simp; omega) | omega)) | (with_reducible refine bstep (by with_reducible assumption) ?_))) (fun hS1 => ?_)
  clear hK K
  refine wpGo_eff rfl (fun K hK => ?_)
  go_simp
  refine (mat_any b.r b.A b.n b.c b.l _ _ _ (HB.out.rd.below (bstep (by show Below w.heap.size w _; exact (by repeat (first | (with_reducible exact Below.refl _ _) | (with_reducible refine balloc ?_ _) | (with_reducible refine Below.drew ?_) | (with_reducible refine bdrewN ?_ _) | ((with_reducible refine bset ?_ ?_ _); rotate_left; focus (first | (with_reducible exact Nat.le_refl _) | (simp; done) | (simp; omega) | omega)) | (with_reducible refine bstep (by with_reducible assumption) ?_)))) hw)) HB.out.ln hnb Hb.out pv Hpv).mono ?_
  rintro e w2 ⟨rfl, hb2⟩
  refine hK.out _ _ (by repeat (first | (with_reducible exact Below.refl _ _) | (with_reducible refine balloc ?_ _) | (with_reducible refine Below.drew ?_) | (with_reducible refine bdrewN ?_ _) | ((with_reducible refine bset ?_ ?_ _); rotate_left; focus (first | (with_reducible exact Nat.le_refl _) | (simp; done) | (simp; omega) | omega)) | (with_reducible refine bstep (by with_reducible assumption) ?_))) (fun hS2 => ?_)
  clear hK K
  repeat (first | (refine wpGo_pure (v := ?_) rfl rfl (fun w' hS => ?_) ?_; rotate_left; (· have kCp : Bk w' (c0) 29 #[.int .i64 a.r.x0, .int .i64 a.r.y0, .int .i64 a.r.x1, .int .i64 a.r.y1, .slice a.A a.n a.c] := (by repeat (first | (with_reducible assumption) | ((with_reducible refine Bk.new _ _ _ ?_); first | (with_reducible rfl) | (simp; done)) | (with_reducible refine Bk.alloc ?_ _) | (with_reducible refine Bk.drew ?_) | (with_reducible refine Bk.drewN ?_ _) | ((with_reducible refine Bk.far ?_ ?_ _); rotate_left; focus (first | (simp; done) | (simp; omega))) | (with_reducible refine Bk.below ?_ (by with_reducible assumption)))); obtain ⟨kcCp, kfCp, kaCp, kgCp, klCp⟩ := kCp.rules; have kDp : Bk w' (c1) 29 #[.int .i64 b.r.x0, .int .i64 b.r.y0, .int .i64 b.r.x1, .int .i64 b.r.y1, .slice b.A b.n b.c] := (by repeat (first | (with_reducible assumption) | ((with_reducible refine Bk.new _ _ _ ?_); first | (with_reducible rfl) | (simp; done)) | (with_reducible refine Bk.alloc ?_ _) | (with_reducible refine Bk.drew ?_) | (with_reducible refine Bk.drewN ?_ _) | ((with_reducible refine Bk.far ?_ ?_ _); rotate_left; focus (first | (simp; done) | (simp; omega))) | (with_reducible refine Bk.below ?_ (by with_reducible assumption)))); obtain ⟨kcDp, kfDp, kaDp, kgDp, klDp⟩ := kDp.rules; go_simp; exact rfl); (try simp only [Act.put, List.setIfInBounds_toArray, List.set_cons_zero, List.set_cons_succ])) | ((refine wpGo_skip rfl rfl ?_); (try simp only [Act.put, List.setIfInBounds_toArray, List.set_cons_zero, List.set_cons_succ])))
  refine wpGo_nil ?_
  simp only [List.drop_succ_cons, List.drop_zero]
  go_wp2_with fail
  refine (HM.out _).mono ?_
  rintro e w3 ⟨rfl, hb3⟩
  go_wp2
  go_ret
  rw [← HP.out]
  exact ⟨rfl, (by repeat (first | (with_reducible exact Below.refl _ _) | (with_reducible refine balloc ?_ _) | (with_reducible refine Below.drew ?_) | (with_reducible refine bdrewN ?_ _) | ((with_reducible refine bset ?_ ?_ _); rotate_left; focus (first | (with_reducible exact Nat.le_refl _) | (simp; done) | (simp; omega) | omega)) | (with_reducible refine bstep (by with_reducible assumption) ?_)))⟩

set_option maxHeartbeats 6400000 in
theorem munion_any (a b : Mk) (w : World) (ha : a.ok w) (hb : b.ok w) (hna : a.n ≤ 4000000000) (hnb : b.n ≤ 4000000000) :
    Calls Try.prog 23 #[.agg #[.int .i64 a.r.x0, .int .i64 a.r.y0, .int .i64 a.r.x1, .int .i64 a.r.y1, .slice a.A a.n a.c], .agg #[.int .i64 b.r.x0, .int .i64 b.r.y0, .int .i64 b.r.x1, .int .i64 b.r.y1, .slice b.A b.n b.c]] w (RetME (unMR a b) (unML a b) (unME a b) w) := by
  have HA := Lib.hid ha
  have HB := Lib.hid hb
  have HAB : Hid (∀ x ∈ [a, b], x.ok w) := fun x hx => by
    rcases List.mem_cons.1 hx with rfl | hx
    · exact ha
    · rw [List.mem_singleton.1 hx]; exact hb
  have HSZ : Hid (∀ x ∈ [a, b], x.n ≤ 4000000000) := fun x hx => by
    rcases List.mem_cons.1 hx with rfl | hx
    · exact hna
    · rw [List.mem_singleton.1 hx]; exact hnb
  obtain ⟨U, HU⟩ : ∃ u, Hid (unionR a.r b.r = u) := ⟨_, rfl⟩
  have HU' : Hid (unionR ⟨a.r.x0, a.r.y0, a.r.x1, a.r.y1⟩ ⟨b.r.x0, b.r.y0, b.r.x1, b.r.y1⟩ = U) := HU.out
  obtain ⟨ar, Har⟩ : ∃ u, Hid (areaR U = u) := ⟨_, rfl⟩
  have HAr := Lib.hid (area_any U.x0 U.y0 U.x1 U.y1)
  have HArv : Hid (areaR ⟨U.x0, U.y0, U.x1, U.y1⟩ = ar) := Har.out
  rw [HArv.out] at HAr
  have HUc : Hid (canonR U = U) := by unfold Hid; rw [← HU.out]; exact union_cn
  clear ha hb
  cases va : vMk a <;> cases vb : vMk b
  · have Hva := Lib.hid va
    have Hvb := Lib.hid vb
    have e0 : unB a b = false := by unfold unB; rw [va, vb]; rfl
    have e1 : unMR a b = ⟨0, 0, 0, 0⟩ := by unfold unMR; rw [e0]; rfl
    have e2 : unML a b = [] := by unfold unML; rw [e0]; rfl
    have e3 : unME a b = 14 := by unfold unME; rw [e0]; rfl
    rw [e1, e2, e3]
    clear e0 e1 e2 e3 va vb
    have Hall : Hid ([a, b].all vMk = false) := by unfold Hid; simp [Hva.out, Hvb.out]
    go_enter Try.func23, Try.ntmps23
    go_wp2_with fail
    refine (union_q _ _ _ _ _ _ _ _ U HU' _).mono ?_
    rintro e w1 ⟨rfl, hb1⟩
    have kC1 : Bk w1 (w.heap.size) 29 #[.int .i64 a.r.x0, .int .i64 a.r.y0, .int .i64 a.r.x1, .int .i64 a.r.y1, .slice a.A a.n a.c] := (by repeat (first | (with_reducible assumption) | ((with_reducible refine Bk.new _ _ _ ?_); first | (with_reducible rfl) | (simp; done)) | (with_reducible refine Bk.alloc ?_ _) | (with_reducible refine Bk.drew ?_) | (with_reducible refine Bk.drewN ?_ _) | ((with_reducible refine Bk.far ?_ ?_ _); rotate_left; focus (first | (simp; done) | (simp; omega))) | (with_reducible refine Bk.below ?_ (by with_reducible assumption)))); obtain ⟨kcC1, kfC1, kaC1, kgC1, klC1⟩ := kC1.rules; have kD1 : Bk w1 (w.heap.size + 1) 29 #[.int .i64 b.r.x0, .int .i64 b.r.y0, .int .i64 b.r.x1, .int .i64 b.r.y1, .slice b.A b.n b.c] := (by repeat (first | (with_reducible assumption) | ((with_reducible refine Bk.new _ _ _ ?_); first | (with_reducible rfl) | (simp; done)) | (with_reducible refine Bk.alloc ?_ _) | (with_reducible refine Bk.drew ?_) | (with_reducible refine Bk.drewN ?_ _) | ((with_reducible refine Bk.far ?_ ?_ _); rotate_left; focus (first | (simp; done) | (simp; omega))) | (with_reducible refine Bk.below ?_ (by with_reducible assumption)))); obtain ⟨kcD1, kfD1, kaD1, kgD1, klD1⟩ := kD1.rules; have kO1 : Bk w1 (w.heap.size + 1 + 1) 29 #[.int .i64 0, .int .i64 0, .int .i64 0, .int .i64 0, .slice none 0 0] := (by repeat (first | (with_reducible assumption) | ((with_reducible refine Bk.new _ _ _ ?_); first | (with_reducible rfl) | (simp; done)) | (with_reducible refine Bk.alloc ?_ _) | (with_reducible refine Bk.drew ?_) | (with_reducible refine Bk.drewN ?_ _) | ((with_reducible refine Bk.far ?_ ?_ _); rotate_left; focus (first | (simp; done) | (simp; omega))) | (with_reducible refine Bk.below ?_ (by with_reducible assumption)))); obtain ⟨kcO1, kfO1, kaO1, kgO1, klO1⟩ := kO1.rules
    go_wp2_with fail
    refine (mall_any _ 2 _ [a, b] _ (rd_of_bk (e := 29) encMk_len (Bk.new _ _ _ (by first | rfl | simp)) rfl) rfl (by omega) (fun x hx => (HAB.out x hx).below (by repeat (first | (with_reducible exact Below.refl _ _) | (with_reducible refine balloc ?_ _) | (with_reducible refine Below.drew ?_) | (with_reducible refine bdrewN ?_ _) | ((with_reducible refine bset ?_ ?_ _); rotate_left; focus (first | (with_reducible exact Nat.le_refl _) | (simp; done) | (simp; omega) | omega)) | (with_reducible refine bstep (by with_reducible assumption) ?_)))) HSZ.out false Hall).mono ?_
    rintro e w2 ⟨rfl, hb2⟩
    clear kcC1 kfC1 kaC1 kgC1 kcD1 kfD1 kaD1 kgD1 kcO1 kfO1 kaO1 kgO1
    have kO2 : Bk w2 (w.heap.size + 1 + 1) 29 #[.int .i64 0, .int .i64 0, .int .i64 0, .int .i64 0, .slice none 0 0] := (by repeat (first | (with_reducible assumption) | ((with_reducible refine Bk.new _ _ _ ?_); first | (with_reducible rfl) | (simp; done)) | (with_reducible refine Bk.alloc ?_ _) | (with_reducible refine Bk.drew ?_) | (with_reducible refine Bk.drewN ?_ _) | ((with_reducible refine Bk.far ?_ ?_ _); rotate_left; focus (first | (simp; done) | (simp; omega))) | (with_reducible refine Bk.below ?_ (by with_reducible assumption)))); obtain ⟨kcO2, kfO2, kaO2, kgO2, klO2⟩ := kO2.rules
    go_wp2
    refine bodyPost_ret (v := _) ?_ rfl (RetME.no 14 (by repeat (first | (with_reducible exact Below.refl _ _) | (with_reducible refine balloc ?_ _) | (with_reducible refine Below.drew ?_) | (with_reducible refine bdrewN ?_ _) | ((with_reducible refine bset ?_ ?_ _); rotate_left; focus (first | (with_reducible exact Nat.le_refl _) | (simp; done) | (simp; omega) | omega)) | (with_reducible refine bstep (by with_reducible assumption) ?_))))
    simp [results, Try.results23, go_sem, kcO2]
  · have Hva := Lib.hid va
    have Hvb := Lib.hid vb
    have e0 : unB a b = false := by unfold unB; rw [va, vb]; rfl
    have e1 : unMR a b = ⟨0, 0, 0, 0⟩ := by unfold unMR; rw [e0]; rfl
    have e2 : unML a b = [] := by unfold unML; rw [e0]; rfl
    have e3 : unME a b = 14 := by unfold unME; rw [e0]; rfl
    rw [e1, e2, e3]
    clear e0 e1 e2 e3 va vb
    have Hall : Hid ([a, b].all vMk = false) := by unfold Hid; simp [Hva.out, Hvb.out]
    go_enter Try.func23, Try.ntmps23
    go_wp2_with fail
    refine (union_q _ _ _ _ _ _ _ _ U HU' _).mono ?_
    rintro e w1 ⟨rfl, hb1⟩
    have kC1 : Bk w1 (w.heap.size) 29 #[.int .i64 a.r.x0, .int .i64 a.r.y0, .int .i64 a.r.x1, .int .i64 a.r.y1, .slice a.A a.n a.c] := (by repeat (first | (with_reducible assumption) | ((with_reducible refine Bk.new _ _ _ ?_); first | (with_reducible rfl) | (simp; done)) | (with_reducible refine Bk.alloc ?_ _) | (with_reducible refine Bk.drew ?_) | (with_reducible refine Bk.drewN ?_ _) | ((with_reducible refine Bk.far ?_ ?_ _); rotate_left; focus (first | (simp; done) | (simp; omega))) | (with_reducible refine Bk.below ?_ (by with_reducible assumption)))); obtain ⟨kcC1, kfC1, kaC1, kgC1, klC1⟩ := kC1.rules; have kD1 : Bk w1 (w.heap.size + 1) 29 #[.int .i64 b.r.x0, .int .i64 b.r.y0, .int .i64 b.r.x1, .int .i64 b.r.y1, .slice b.A b.n b.c] := (by repeat (first | (with_reducible assumption) | ((with_reducible refine Bk.new _ _ _ ?_); first | (with_reducible rfl) | (simp; done)) | (with_reducible refine Bk.alloc ?_ _) | (with_reducible refine Bk.drew ?_) | (with_reducible refine Bk.drewN ?_ _) | ((with_reducible refine Bk.far ?_ ?_ _); rotate_left; focus (first | (simp; done) | (simp; omega))) | (with_reducible refine Bk.below ?_ (by with_reducible assumption)))); obtain ⟨kcD1, kfD1, kaD1, kgD1, klD1⟩ := kD1.rules; have kO1 : Bk w1 (w.heap.size + 1 + 1) 29 #[.int .i64 0, .int .i64 0, .int .i64 0, .int .i64 0, .slice none 0 0] := (by repeat (first | (with_reducible assumption) | ((with_reducible refine Bk.new _ _ _ ?_); first | (with_reducible rfl) | (simp; done)) | (with_reducible refine Bk.alloc ?_ _) | (with_reducible refine Bk.drew ?_) | (with_reducible refine Bk.drewN ?_ _) | ((with_reducible refine Bk.far ?_ ?_ _); rotate_left; focus (first | (simp; done) | (simp; omega))) | (with_reducible refine Bk.below ?_ (by with_reducible assumption)))); obtain ⟨kcO1, kfO1, kaO1, kgO1, klO1⟩ := kO1.rules
    go_wp2_with fail
    refine (mall_any _ 2 _ [a, b] _ (rd_of_bk (e := 29) encMk_len (Bk.new _ _ _ (by first | rfl | simp)) rfl) rfl (by omega) (fun x hx => (HAB.out x hx).below (by repeat (first | (with_reducible exact Below.refl _ _) | (with_reducible refine balloc ?_ _) | (with_reducible refine Below.drew ?_) | (with_reducible refine bdrewN ?_ _) | ((with_reducible refine bset ?_ ?_ _); rotate_left; focus (first | (with_reducible exact Nat.le_refl _) | (simp; done) | (simp; omega) | omega)) | (with_reducible refine bstep (by with_reducible assumption) ?_)))) HSZ.out false Hall).mono ?_
    rintro e w2 ⟨rfl, hb2⟩
    clear kcC1 kfC1 kaC1 kgC1 kcD1 kfD1 kaD1 kgD1 kcO1 kfO1 kaO1 kgO1
    have kO2 : Bk w2 (w.heap.size + 1 + 1) 29 #[.int .i64 0, .int .i64 0, .int .i64 0, .int .i64 0, .slice none 0 0] := (by repeat (first | (with_reducible assumption) | ((with_reducible refine Bk.new _ _ _ ?_); first | (with_reducible rfl) | (simp; done)) | (with_reducible refine Bk.alloc ?_ _) | (with_reducible refine Bk.drew ?_) | (with_reducible refine Bk.drewN ?_ _) | ((with_reducible refine Bk.far ?_ ?_ _); rotate_left; focus (first | (simp; done) | (simp; omega))) | (with_reducible refine Bk.below ?_ (by with_reducible assumption)))); obtain ⟨kcO2, kfO2, kaO2, kgO2, klO2⟩ := kO2.rules
    go_wp2
    refine bodyPost_ret (v := _) ?_ rfl (RetME.no 14 (by repeat (first | (with_reducible exact Below.refl _ _) | (with_reducible refine balloc ?_ _) | (with_reducible refine Below.drew ?_) | (with_reducible refine bdrewN ?_ _) | ((with_reducible refine bset ?_ ?_ _); rotate_left; focus (first | (with_reducible exact Nat.le_refl _) | (simp; done) | (simp; omega) | omega)) | (with_reducible refine bstep (by with_reducible assumption) ?_))))
    simp [results, Try.results23, go_sem, kcO2]
  · have Hva := Lib.hid va
    have Hvb := Lib.hid vb
    have e0 : unB a b = false := by unfold unB; rw [va, vb]; rfl
    have e1 : unMR a b = ⟨0, 0, 0, 0⟩ := by unfold unMR; rw [e0]; rfl
    have e2 : unML a b = [] := by unfold unML; rw [e0]; rfl
    have e3 : unME a b = 14 := by unfold unME; rw [e0]; rfl
    rw [e1, e2, e3]
    clear e0 e1 e2 e3 va vb
    have Hall : Hid ([a, b].all vMk = false) := by unfold Hid; simp [Hva.out, Hvb.out]
    go_enter Try.func23, Try.ntmps23
    go_wp2_with fail
    refine (union_q _ _ _ _ _ _ _ _ U HU' _).mono ?_
    rintro e w1 ⟨rfl, hb1⟩
    have kC1 : Bk w1 (w.heap.size) 29 #[.int .i64 a.r.x0, .int .i64 a.r.y0, .int .i64 a.r.x1, .int .i64 a.r.y1, .slice a.A a.n a.c] := (by repeat (first | (with_reducible assumption) | ((with_reducible refine Bk.new _ _ _ ?_); first | (with_reducible rfl) | (simp; done)) | (with_reducible refine Bk.alloc ?_ _) | (with_reducible refine Bk.drew ?_) | (with_reducible refine Bk.drewN ?_ _) | ((with_reducible refine Bk.far ?_ ?_ _); rotate_left; focus (first | (simp; done) | (simp; omega))) | (with_reducible refine Bk.below ?_ (by with_reducible assumption)))); obtain ⟨kcC1, kfC1, kaC1, kgC1, klC1⟩ := kC1.rules; have kD1 : Bk w1 (w.heap.size + 1) 29 #[.int .i64 b.r.x0, .int .i64 b.r.y0, .int .i64 b.r.x1, .int .i64 b.r.y1, .slice b.A b.n b.c] := (by repeat (first | (with_reducible assumption) | ((with_reducible refine Bk.new _ _ _ ?_); first | (with_reducible rfl) | (simp; done)) | (with_reducible refine Bk.alloc ?_ _) | (with_reducible refine Bk.drew ?_) | (with_reducible refine Bk.drewN ?_ _) | ((with_reducible refine Bk.far ?_ ?_ _); rotate_left; focus (first | (simp; done) | (simp; omega))) | (with_reducible refine Bk.below ?_ (by with_reducible assumption)))); obtain ⟨kcD1, kfD1, kaD1, kgD1, klD1⟩ := kD1.rules; have kO1 : Bk w1 (w.heap.size + 1 + 1) 29 #[.int .i64 0, .int .i64 0, .int .i64 0, .int .i64 0, .slice none 0 0] := (by repeat (first | (with_reducible assumption) | ((with_reducible refine Bk.new _ _ _ ?_); first | (with_reducible rfl) | (simp; done)) | (with_reducible refine Bk.alloc ?_ _) | (with_reducible refine Bk.drew ?_) | (with_reducible refine Bk.drewN ?_ _) | ((with_reducible refine Bk.far ?_ ?_ _); rotate_left; focus (first | (simp; done) | (simp; omega))) | (with_reducible refine Bk.below ?_ (by with_reducible assumption)))); obtain ⟨kcO1, kfO1, kaO1, kgO1, klO1⟩ := kO1.rules
    go_wp2_with fail
    refine (mall_any _ 2 _ [a, b] _ (rd_of_bk (e := 29) encMk_len (Bk.new _ _ _ (by first | rfl | simp)) rfl) rfl (by omega) (fun x hx => (HAB.out x hx).below (by repeat (first | (with_reducible exact Below.refl _ _) | (with_reducible refine balloc ?_ _) | (with_reducible refine Below.drew ?_) | (with_reducible refine bdrewN ?_ _) | ((with_reducible refine bset ?_ ?_ _); rotate_left; focus (first | (with_reducible exact Nat.le_refl _) | (simp; done) | (simp; omega) | omega)) | (with_reducible refine bstep (by with_reducible assumption) ?_)))) HSZ.out false Hall).mono ?_
    rintro e w2 ⟨rfl, hb2⟩
    clear kcC1 kfC1 kaC1 kgC1 kcD1 kfD1 kaD1 kgD1 kcO1 kfO1 kaO1 kgO1
    have kO2 : Bk w2 (w.heap.size + 1 + 1) 29 #[.int .i64 0, .int .i64 0, .int .i64 0, .int .i64 0, .slice none 0 0] := (by repeat (first | (with_reducible assumption) | ((with_reducible refine Bk.new _ _ _ ?_); first | (with_reducible rfl) | (simp; done)) | (with_reducible refine Bk.alloc ?_ _) | (with_reducible refine Bk.drew ?_) | (with_reducible refine Bk.drewN ?_ _) | ((with_reducible refine Bk.far ?_ ?_ _); rotate_left; focus (first | (simp; done) | (simp; omega))) | (with_reducible refine Bk.below ?_ (by with_reducible assumption)))); obtain ⟨kcO2, kfO2, kaO2, kgO2, klO2⟩ := kO2.rules
    go_wp2
    refine bodyPost_ret (v := _) ?_ rfl (RetME.no 14 (by repeat (first | (with_reducible exact Below.refl _ _) | (with_reducible refine balloc ?_ _) | (with_reducible refine Below.drew ?_) | (with_reducible refine bdrewN ?_ _) | ((with_reducible refine bset ?_ ?_ _); rotate_left; focus (first | (with_reducible exact Nat.le_refl _) | (simp; done) | (simp; omega) | omega)) | (with_reducible refine bstep (by with_reducible assumption) ?_))))
    simp [results, Try.results23, go_sem, kcO2]
  · have Hva := Lib.hid va
    have Hvb := Lib.hid vb
    have e0 : unB a b = true := by unfold unB; rw [va, vb]; rfl
    have Hna : Hid ((a.n : Int) = areaR a.r) := by unfold Hid; rw [← HA.out.ln]; exact (mk_cn va).2.1
    have Hnb : Hid ((b.n : Int) = areaR b.r) := by unfold Hid; rw [← HB.out.ln]; exact (mk_cn vb).2.1
    clear va vb
    have Hall : Hid ([a, b].all vMk = true) := by unfold Hid; simp [Hva.out, Hvb.out]
    cases h2 : decide ((65536 : Int) < ar) with
    | true =>
      have h2' : decide (areaR (unionR a.r b.r) ≤ 65536) = false := by have := of_decide_eq_true h2; rw [HU.out, Har.out]; simp; omega
      have e1 : unMR a b = ⟨0, 0, 0, 0⟩ := by unfold unMR; rw [e0, h2']; rfl
      have e2 : unML a b = [] := by unfold unML; rw [e0, h2']; rfl
      have e3 : unME a b = 5 := by unfold unME; rw [e0, h2']; rfl
      rw [e1, e2, e3]
      clear e0 e1 e2 e3 h2'
      go_enter Try.func23, Try.ntmps23
      go_wp2_with fail
      refine (union_q _ _ _ _ _ _ _ _ U HU' _).mono ?_
      rintro e w1 ⟨rfl, hb1⟩
      have kC1 : Bk w1 (w.heap.size) 29 #[.int .i64 a.r.x0, .int .i64 a.r.y0, .int .i64 a.r.x1, .int .i64 a.r.y1, .slice a.A a.n a.c] := (by repeat (first | (with_reducible assumption) | ((with_reducible refine Bk.new _ _ _ ?_); first | (with_reducible rfl) | (simp; done)) | (with_reducible refine Bk.alloc ?_ _) | (with_reducible refine Bk.drew ?_) | (with_reducible refine Bk.drewN ?_ _) | ((with_reducible refine Bk.far ?_ ?_ _); rotate_left; focus (first | (simp; done) | (simp; omega))) | (with_reducible refine Bk.below ?_ (by with_reducible assumption)))); obtain ⟨kcC1, kfC1, kaC1, kgC1, klC1⟩ := kC1.rules; have kD1 : Bk w1 (w.heap.size + 1) 29 #[.int .i64 b.r.x0, .int .i64 b.r.y0, .int .i64 b.r.x1, .int .i64 b.r.y1, .slice b.A b.n b.c] := (by repeat (first | (with_reducible assumption) | ((with_reducible refine Bk.new _ _ _ ?_); first | (with_reducible rfl) | (simp; done)) | (with_reducible refine Bk.alloc ?_ _) | (with_reducible refine Bk.drew ?_) | (with_reducible refine Bk.drewN ?_ _) | ((with_reducible refine Bk.far ?_ ?_ _); rotate_left; focus (first | (simp; done) | (simp; omega))) | (with_reducible refine Bk.below ?_ (by with_reducible assumption)))); obtain ⟨kcD1, kfD1, kaD1, kgD1, klD1⟩ := kD1.rules; have kO1 : Bk w1 (w.heap.size + 1 + 1) 29 #[.int .i64 0, .int .i64 0, .int .i64 0, .int .i64 0, .slice none 0 0] := (by repeat (first | (with_reducible assumption) | ((with_reducible refine Bk.new _ _ _ ?_); first | (with_reducible rfl) | (simp; done)) | (with_reducible refine Bk.alloc ?_ _) | (with_reducible refine Bk.drew ?_) | (with_reducible refine Bk.drewN ?_ _) | ((with_reducible refine Bk.far ?_ ?_ _); rotate_left; focus (first | (simp; done) | (simp; omega))) | (with_reducible refine Bk.below ?_ (by with_reducible assumption)))); obtain ⟨kcO1, kfO1, kaO1, kgO1, klO1⟩ := kO1.rules
      have sz1 := kO1.lt
      
      go_wp2_with fail
      refine (mall_any _ 2 _ [a, b] _ (rd_of_bk (e := 29) encMk_len (Bk.new _ _ _ (by first | rfl | simp)) rfl) rfl (by omega) (fun x hx => (HAB.out x hx).below (by repeat (first | (with_reducible exact Below.refl _ _) | (with_reducible refine balloc ?_ _) | (with_reducible refine Below.drew ?_) | (with_reducible refine bdrewN ?_ _) | ((with_reducible refine bset ?_ ?_ _); rotate_left; focus (first | (with_reducible exact Nat.le_refl _) | (simp; done) | (simp; omega) | omega)) | (with_reducible refine bstep (by with_reducible assumption) ?_)))) HSZ.out true Hall).mono ?_
      rintro e w2 ⟨rfl, hb2⟩
      clear kcC1 kfC1 kaC1 kgC1 kcD1 kfD1 kaD1 kgD1 kcO1 kfO1 kaO1 kgO1
      have kU2 : Bk w2 (w1.heap.size) 26 #[.int .i64 U.x0, .int .i64 U.y0, .int .i64 U.x1, .int .i64 U.y1] := (by repeat (first | (with_reducible assumption) | ((with_reducible refine Bk.new _ _ _ ?_); first | (with_reducible rfl) | (simp; done)) | (with_reducible refine Bk.alloc ?_ _) | (with_reducible refine Bk.drew ?_) | (with_reducible refine Bk.drewN ?_ _) | ((with_reducible refine Bk.far ?_ ?_ _); rotate_left; focus (first | (simp; done) | (simp; omega))) | (with_reducible refine Bk.below ?_ (by with_reducible assumption)))); obtain ⟨kcU2, kfU2, kaU2, kgU2, klU2⟩ := kU2.rules
      have kO2 : Bk w2 (w.heap.size + 1 + 1) 29 #[.int .i64 0, .int .i64 0, .int .i64 0, .int .i64 0, .slice none 0 0] := (by repeat (first | (with_reducible assumption) | ((with_reducible refine Bk.new _ _ _ ?_); first | (with_reducible rfl) | (simp; done)) | (with_reducible refine Bk.alloc ?_ _) | (with_reducible refine Bk.drew ?_) | (with_reducible refine Bk.drewN ?_ _) | ((with_reducible refine Bk.far ?_ ?_ _); rotate_left; focus (first | (simp; done) | (simp; omega))) | (with_reducible refine Bk.below ?_ (by with_reducible assumption))))
      have kC2 : Bk w2 (w.heap.size) 29 #[.int .i64 a.r.x0, .int .i64 a.r.y0, .int .i64 a.r.x1, .int .i64 a.r.y1, .slice a.A a.n a.c] := (by repeat (first | (with_reducible assumption) | ((with_reducible refine Bk.new _ _ _ ?_); first | (with_reducible rfl) | (simp; done)) | (with_reducible refine Bk.alloc ?_ _) | (with_reducible refine Bk.drew ?_) | (with_reducible refine Bk.drewN ?_ _) | ((with_reducible refine Bk.far ?_ ?_ _); rotate_left; focus (first | (simp; done) | (simp; omega))) | (with_reducible refine Bk.below ?_ (by with_reducible assumption))))
      have kD2 : Bk w2 (w.heap.size + 1) 29 #[.int .i64 b.r.x0, .int .i64 b.r.y0, .int .i64 b.r.x1, .int .i64 b.r.y1, .slice b.A b.n b.c] := (by repeat (first | (with_reducible assumption) | ((with_reducible refine Bk.new _ _ _ ?_); first | (with_reducible rfl) | (simp; done)) | (with_reducible refine Bk.alloc ?_ _) | (with_reducible refine Bk.drew ?_) | (with_reducible refine Bk.drewN ?_ _) | ((with_reducible refine Bk.far ?_ ?_ _); rotate_left; focus (first | (simp; done) | (simp; omega))) | (with_reducible refine Bk.below ?_ (by with_reducible assumption))))
      go_wp2_with fail
      refine (HAr.out _).mono ?_
      rintro e w3 ⟨rfl, hb3⟩
      clear kcU2 kfU2 kaU2 kgU2
      have kO3 : Bk w3 (w.heap.size + 1 + 1) 29 #[.int .i64 0, .int .i64 0, .int .i64 0, .int .i64 0, .slice none 0 0] := (by repeat (first | (with_reducible assumption) | ((with_reducible refine Bk.new _ _ _ ?_); first | (with_reducible rfl) | (simp; done)) | (with_reducible refine Bk.alloc ?_ _) | (with_reducible refine Bk.drew ?_) | (with_reducible refine Bk.drewN ?_ _) | ((with_reducible refine Bk.far ?_ ?_ _); rotate_left; focus (first | (simp; done) | (simp; omega))) | (with_reducible refine Bk.below ?_ (by with_reducible assumption)))); obtain ⟨kcO3, kfO3, kaO3, kgO3, klO3⟩ := kO3.rules
      go_wp2
      refine bodyPost_ret (v := _) ?_ rfl (RetME.no 5 (by repeat (first | (with_reducible exact Below.refl _ _) | (with_reducible refine balloc ?_ _) | (with_reducible refine Below.drew ?_) | (with_reducible refine bdrewN ?_ _) | ((with_reducible refine bset ?_ ?_ _); rotate_left; focus (first | (with_reducible exact Nat.le_refl _) | (simp; done) | (simp; omega) | omega)) | (with_reducible refine bstep (by with_reducible assumption) ?_))))
      simp [results, Try.results23, go_sem, kcO3]
    | false =>
      have h2' : decide (areaR (unionR a.r b.r) ≤ 65536) = true := by have := of_decide_eq_false h2; rw [HU.out, Har.out]; simp; omega
      have e1 : unMR a b = U := by unfold unMR; rw [e0, h2']; exact HU.out
      obtain ⟨g, Hg⟩ : ∃ g, Hid (unG a b = g) := ⟨_, rfl⟩
      have e2 : unML a b = pixL g U := by unfold unML; rw [e0, h2', Hg.out, HU.out]; rfl
      have e3 : unME a b = 0 := by unfold unME; rw [e0, h2']; rfl
      rw [e1, e2, e3]
      clear e0 e1 e2 e3 h2'
      go_enter Try.func23, Try.ntmps23
      go_wp2_with fail
      refine (union_q _ _ _ _ _ _ _ _ U HU' _).mono ?_
      rintro e w1 ⟨rfl, hb1⟩
      have kC1 : Bk w1 (w.heap.size) 29 #[.int .i64 a.r.x0, .int .i64 a.r.y0, .int .i64 a.r.x1, .int .i64 a.r.y1, .slice a.A a.n a.c] := (by repeat (first | (with_reducible assumption) | ((with_reducible refine Bk.new _ _ _ ?_); first | (with_reducible rfl) | (simp; done)) | (with_reducible refine Bk.alloc ?_ _) | (with_reducible refine Bk.drew ?_) | (with_reducible refine Bk.drewN ?_ _) | ((with_reducible refine Bk.far ?_ ?_ _); rotate_left; focus (first | (simp; done) | (simp; omega))) | (with_reducible refine Bk.below ?_ (by with_reducible assumption)))); obtain ⟨kcC1, kfC1, kaC1, kgC1, klC1⟩ := kC1.rules; have kD1 : Bk w1 (w.heap.size + 1) 29 #[.int .i64 b.r.x0, .int .i64 b.r.y0, .int .i64 b.r.x1, .int .i64 b.r.y1, .slice b.A b.n b.c] := (by repeat (first | (with_reducible assumption) | ((with_reducible refine Bk.new _ _ _ ?_); first | (with_reducible rfl) | (simp; done)) | (with_reducible refine Bk.alloc ?_ _) | (with_reducible refine Bk.drew ?_) | (with_reducible refine Bk.drewN ?_ _) | ((with_reducible refine Bk.far ?_ ?_ _); rotate_left; focus (first | (simp; done) | (simp; omega))) | (with_reducible refine Bk.below ?_ (by with_reducible assumption)))); obtain ⟨kcD1, kfD1, kaD1, kgD1, klD1⟩ := kD1.rules; have kO1 : Bk w1 (w.heap.size + 1 + 1) 29 #[.int .i64 0, .int .i64 0, .int .i64 0, .int .i64 0, .slice none 0 0] := (by repeat (first | (with_reducible assumption) | ((with_reducible refine Bk.new _ _ _ ?_); first | (with_reducible rfl) | (simp; done)) | (with_reducible refine Bk.alloc ?_ _) | (with_reducible refine Bk.drew ?_) | (with_reducible refine Bk.drewN ?_ _) | ((with_reducible refine Bk.far ?_ ?_ _); rotate_left; focus (first | (simp; done) | (simp; omega))) | (with_reducible refine Bk.below ?_ (by with_reducible assumption)))); obtain ⟨kcO1, kfO1, kaO1, kgO1, klO1⟩ := kO1.rules
      have sz1 := kO1.lt
      
      go_wp2_with fail
      refine (mall_any _ 2 _ [a, b] _ (rd_of_bk (e := 29) encMk_len (Bk.new _ _ _ (by first | rfl | simp)) rfl) rfl (by omega) (fun x hx => (HAB.out x hx).below (by repeat (first | (with_reducible exact Below.refl _ _) | (with_reducible refine balloc ?_ _) | (with_reducible refine Below.drew ?_) | (with_reducible refine bdrewN ?_ _) | ((with_reducible refine bset ?_ ?_ _); rotate_left; focus (first | (with_reducible exact Nat.le_refl _) | (simp; done) | (simp; omega) | omega)) | (with_reducible refine bstep (by with_reducible assumption) ?_)))) HSZ.out true Hall).mono ?_
      rintro e w2 ⟨rfl, hb2⟩
      clear kcC1 kfC1 kaC1 kgC1 kcD1 kfD1 kaD1 kgD1 kcO1 kfO1 kaO1 kgO1
      have kU2 : Bk w2 (w1.heap.size) 26 #[.int .i64 U.x0, .int .i64 U.y0, .int .i64 U.x1, .int .i64 U.y1] := (by repeat (first | (with_reducible assumption) | ((with_reducible refine Bk.new _ _ _ ?_); first | (with_reducible rfl) | (simp; done)) | (with_reducible refine Bk.alloc ?_ _) | (with_reducible refine Bk.drew ?_) | (with_reducible refine Bk.drewN ?_ _) | ((with_reducible refine Bk.far ?_ ?_ _); rotate_left; focus (first | (simp; done) | (simp; omega))) | (with_reducible refine Bk.below ?_ (by with_reducible assumption)))); obtain ⟨kcU2, kfU2, kaU2, kgU2, klU2⟩ := kU2.rules
      have kO2 : Bk w2 (w.heap.size + 1 + 1) 29 #[.int .i64 0, .int .i64 0, .int .i64 0, .int .i64 0, .slice none 0 0] := (by repeat (first | (with_reducible assumption) | ((with_reducible refine Bk.new _ _ _ ?_); first | (with_reducible rfl) | (simp; done)) | (with_reducible refine Bk.alloc ?_ _) | (with_reducible refine Bk.drew ?_) | (with_reducible refine Bk.drewN ?_ _) | ((with_reducible refine Bk.far ?_ ?_ _); rotate_left; focus (first | (simp; done) | (simp; omega))) | (with_reducible refine Bk.below ?_ (by with_reducible assumption))))
      have kC2 : Bk w2 (w.heap.size) 29 #[.int .i64 a.r.x0, .int .i64 a.r.y0, .int .i64 a.r.x1, .int .i64 a.r.y1, .slice a.A a.n a.c] := (by repeat (first | (with_reducible assumption) | ((with_reducible refine Bk.new _ _ _ ?_); first | (with_reducible rfl) | (simp; done)) | (with_reducible refine Bk.alloc ?_ _) | (with_reducible refine Bk.drew ?_) | (with_reducible refine Bk.drewN ?_ _) | ((with_reducible refine Bk.far ?_ ?_ _); rotate_left; focus (first | (simp; done) | (simp; omega))) | (with_reducible refine Bk.below ?_ (by with_reducible assumption))))
      have kD2 : Bk w2 (w.heap.size + 1) 29 #[.int .i64 b.r.x0, .int .i64 b.r.y0, .int .i64 b.r.x1, .int .i64 b.r.y1, .slice b.A b.n b.c] := (by repeat (first | (with_reducible assumption) | ((with_reducible refine Bk.new _ _ _ ?_); first | (with_reducible rfl) | (simp; done)) | (with_reducible refine Bk.alloc ?_ _) | (with_reducible refine Bk.drew ?_) | (with_reducible refine Bk.drewN ?_ _) | ((with_reducible refine Bk.far ?_ ?_ _); rotate_left; focus (first | (simp; done) | (simp; omega))) | (with_reducible refine Bk.below ?_ (by with_reducible assumption))))
      go_wp2_with fail
      refine (HAr.out _).mono ?_
      rintro e w3 ⟨rfl, hb3⟩
      clear kcU2 kfU2 kaU2 kgU2
      have kC3 : Bk w3 (w.heap.size) 29 #[.int .i64 a.r.x0, .int .i64 a.r.y0, .int .i64 a.r.x1, .int .i64 a.r.y1, .slice a.A a.n a.c] := (by repeat (first | (with_reducible assumption) | ((with_reducible refine Bk.new _ _ _ ?_); first | (with_reducible rfl) | (simp; done)) | (with_reducible refine Bk.alloc ?_ _) | (with_reducible refine Bk.drew ?_) | (with_reducible refine Bk.drewN ?_ _) | ((with_reducible refine Bk.far ?_ ?_ _); rotate_left; focus (first | (simp; done) | (simp; omega))) | (with_reducible refine Bk.below ?_ (by with_reducible assumption)))); obtain ⟨kcC3, kfC3, kaC3, kgC3, klC3⟩ := kC3.rules; have kD3 : Bk w3 (w.heap.size + 1) 29 #[.int .i64 b.r.x0, .int .i64 b.r.y0, .int .i64 b.r.x1, .int .i64 b.r.y1, .slice b.A b.n b.c] := (by repeat (first | (with_reducible assumption) | ((with_reducible refine Bk.new _ _ _ ?_); first | (with_reducible rfl) | (simp; done)) | (with_reducible refine Bk.alloc ?_ _) | (with_reducible refine Bk.drew ?_) | (with_reducible refine Bk.drewN ?_ _) | ((with_reducible refine Bk.far ?_ ?_ _); rotate_left; focus (first | (simp; done) | (simp; omega))) | (with_reducible refine Bk.below ?_ (by with_reducible assumption)))); obtain ⟨kcD3, kfD3, kaD3, kgD3, klD3⟩ := kD3.rules; have kO3 : Bk w3 (w.heap.size + 1 + 1) 29 #[.int .i64 0, .int .i64 0, .int .i64 0, .int .i64 0, .slice none 0 0] := (by repeat (first | (with_reducible assumption) | ((with_reducible refine Bk.new _ _ _ ?_); first | (with_reducible rfl) | (simp; done)) | (with_reducible refine Bk.alloc ?_ _) | (with_reducible refine Bk.drew ?_) | (with_reducible refine Bk.drewN ?_ _) | ((with_reducible refine Bk.far ?_ ?_ _); rotate_left; focus (first | (simp; done) | (simp; omega))) | (with_reducible refine Bk.below ?_ (by with_reducible assumption)))); obtain ⟨kcO3, kfO3, kaO3, kgO3, klO3⟩ := kO3.rules; have kU3 : Bk w3 (w1.heap.size) 26 #[.int .i64 U.x0, .int .i64 U.y0, .int .i64 U.x1, .int .i64 U.y1] := (by repeat (first | (with_reducible assumption) | ((with_reducible refine Bk.new _ _ _ ?_); first | (with_reducible rfl) | (simp; done)) | (with_reducible refine Bk.alloc ?_ _) | (with_reducible refine Bk.drew ?_) | (with_reducible refine Bk.drewN ?_ _) | ((with_reducible refine Bk.far ?_ ?_ _); rotate_left; focus (first | (simp; done) | (simp; omega))) | (with_reducible refine Bk.below ?_ (by with_reducible assumption)))); obtain ⟨kcU3, kfU3, kaU3, kgU3, klU3⟩ := kU3.rules
      have hB3 : Below w.heap.size w w3 := (by repeat (first | (with_reducible exact Below.refl _ _) | (with_reducible refine balloc ?_ _) | (with_reducible refine Below.drew ?_) | (with_reducible refine bdrewN ?_ _) | ((with_reducible refine bset ?_ ?_ _); rotate_left; focus (first | (with_reducible exact Nat.le_refl _) | (simp; done) | (simp; omega) | omega)) | (with_reducible refine bstep (by with_reducible assumption) ?_)))
      clear kcC3 kfC3 kaC3 kgC3 kcD3 kfD3 kaD3 kgD3 kcO3 kfO3 kaO3 kgO3
      go_wp2_with fail
      refine (mmade_N U (w.heap.size) (w.heap.size + 1) g _ U HUc (fun x y w' _ _ _ _ hb => un1_any x y _ _ a b w w' (bstep hb hB3) HA HB hna hnb Hna Hnb (kC3.below hb) (kD3.below hb) (g x y) (by unfold Hid; rw [Hg.out]))).mono ?_
      rintro e w4 ⟨v4, rfl, ho4, hb4⟩
      clear kcU3 kfU3 kaU3 kgU3
      have kO4 := kO3.below hb4
      have hB4 : Below w.heap.size w w4 := bstep hb4 hB3
      have ho := ho4.mono hB3.size
      obtain ⟨kc', kf', ka', kg', kl'⟩ := kO4.rules
      obtain ⟨A0, c0', hv0, _, _⟩ := ho.form encB_len
      generalize (pixL g U).length = n0 at hv0
      subst hv0
      have o1 := ho.setFar kO4 (by decide) 0 (.int .i64 U.x0)
      have m1 := kO4.set 0 (.int .i64 U.x0)
      have o2 := o1.setFar m1 (by decide) 1 (.int .i64 U.y0)
      have m2 := m1.set 1 (.int .i64 U.y0)
      have o3 := o2.setFar m2 (by decide) 2 (.int .i64 U.x1)
      have m3 := m2.set 2 (.int .i64 U.x1)
      have o4 := o3.setFar m3 (by decide) 3 (.int .i64 U.y1)
      have m4 := m3.set 3 (.int .i64 U.y1)
      have o5 := o4.setFar m4 (by decide) 4 (.slice A0 n0 c0')
      clear o1 o2 o3 o4 m1 m2 m3 m4
      go_wp2
      refine bodyPost_ret (v := _) ?_ rfl ⟨_, rfl, o5, (by repeat (first | (with_reducible exact Below.refl _ _) | (with_reducible refine balloc ?_ _) | (with_reducible refine Below.drew ?_) | (with_reducible refine bdrewN ?_ _) | ((with_reducible refine bset ?_ ?_ _); rotate_left; focus (first | (with_reducible exact Nat.le_refl _) | (simp; done) | (simp; omega) | omega)) | (with_reducible refine bstep (by with_reducible assumption) ?_)))⟩
      simp [results, Try.results23, go_sem, kc']
end Go.Proofs.Ytndablijjkchjaa
