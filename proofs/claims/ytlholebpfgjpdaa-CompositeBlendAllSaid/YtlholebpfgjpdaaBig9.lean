/-
  The walks of grisailleref02.New, FromInt, Mul and Sign.
-/
import Derived.Test.YtlholebpfgjpdaaBig8
namespace Go.Proofs.Ytlholebpfgjpdaa
open Go.RowKit
set_option linter.unusedSimpArgs false
set_option linter.unusedVariables false

/-- An integer that is not negative is handed back, in new memory. -/
def RetI (n : Nat) (w : World) (e : Ending) (w' : World) : Prop := ∃ d : Dg, e = .returned (.agg #[.bool false, .slice d.A d.n d.c]) ∧ d.ok w' ∧ d.l = dig n ∧ Frs w.heap.size d ∧ Below w.heap.size w w'
theorem Dg.ok.far {d : Dg} {w : World} (h : d.ok w) {b : Nat} (hf : Frs b d) {p : Addr} (hp : p.block < b) (u : Value) : d.ok (w.setCell p u) :=
  ⟨h.rd.far (fun g o e => by have := hf g o e; omega) u, h.ln, h.dg⟩
set_option maxHeartbeats 1600000 in
theorem new_any (a : Dg) (w : World) (ha : a.ok w) (hna : a.n ≤ 4000) :
    Calls Try.prog 85 #[.bool false, .slice a.A a.n a.c] w (RetI (valD a.l) w) := by
  have HA := Lib.hid ha
  clear ha
  go_enter Try.func85, Try.ntmps85
  go_wp2_with fail
  refine (norm_f a _ (HA.out.below (by repeat (first | (with_reducible exact Below.refl _ _) | (with_reducible refine balloc ?_ _) | (with_reducible refine Below.drew ?_) | (with_reducible refine bdrewN ?_ _) | ((with_reducible refine bset ?_ ?_ _); rotate_left; focus (first | (with_reducible exact Nat.le_refl _) | (simp; done) | (simp; omega) | omega)) | (with_reducible refine bstep (by with_reducible assumption) ?_)))) hna).mono ?_
  rintro e w1 ⟨d, rfl, do1, dl1, df1, hb1⟩
  have HD := Lib.hid do1
  have HL := Lib.hid dl1
  have HF := Lib.hid df1
  have kO1 : Bk w1 (w.heap.size) 96 #[.bool false, .slice none 0 0] := (by repeat (first | (with_reducible assumption) | ((with_reducible refine Bk.new _ _ _ ?_); first | (with_reducible rfl) | (simp; done)) | (with_reducible refine Bk.alloc ?_ _) | (with_reducible refine Bk.drew ?_) | (with_reducible refine Bk.drewN ?_ _) | ((with_reducible refine Bk.far ?_ ?_ _); rotate_left; focus (first | (simp; done) | (simp; omega))) | (with_reducible refine Bk.below ?_ (by with_reducible assumption)))); obtain ⟨kcO1, kfO1, kaO1, kgO1, klO1⟩ := kO1.rules
  have hB1 : Below w.heap.size w w1 := (by repeat (first | (with_reducible exact Below.refl _ _) | (with_reducible refine balloc ?_ _) | (with_reducible refine Below.drew ?_) | (with_reducible refine bdrewN ?_ _) | ((with_reducible refine bset ?_ ?_ _); rotate_left; focus (first | (with_reducible exact Nat.le_refl _) | (simp; done) | (simp; omega) | omega)) | (with_reducible refine bstep (by with_reducible assumption) ?_)))
  clear do1 dl1 df1
  have hs1 := (HD.out.far HF.out (p := ⟨w.heap.size, 0, none⟩) (by show w.heap.size < _; simp) (.bool false)).far HF.out (p := ⟨w.heap.size, 1, none⟩) (by show w.heap.size < _; simp) (.slice d.A d.n d.c)
  have HS1 := Lib.hid hs1
  clear hs1
  go_wp2
  refine bodyPost_ret (v := .agg #[.bool false, .slice d.A d.n d.c]) ?_ rfl ⟨d, rfl, HS1.out, HL.out, HF.out.mono (by simp), (by repeat (first | (with_reducible exact Below.refl _ _) | (with_reducible refine balloc ?_ _) | (with_reducible refine Below.drew ?_) | (with_reducible refine bdrewN ?_ _) | ((with_reducible refine bset ?_ ?_ _); rotate_left; focus (first | (with_reducible exact Nat.le_refl _) | (simp; done) | (simp; omega) | omega)) | (with_reducible refine bstep (by with_reducible assumption) ?_)))⟩
  simp [results, Try.results85, go_sem, kcO1]
set_option maxHeartbeats 1600000 in
theorem fromint_any (n : Nat) (w : World) (hn : n < 4611686018427387904) :
    Calls Try.prog 79 #[.int .i64 (n : Int)] w (RetI n w) := by
  obtain ⟨lo, hlo⟩ : ∃ x, n % 4294967296 = x := ⟨_, rfl⟩
  obtain ⟨hi, hhi⟩ : ∃ x, n / 4294967296 = x := ⟨_, rfl⟩
  have f1 : (n : Int) % 4294967296 = (lo : Int) := by omega
  have f2 : (n : Int) / 4294967296 = (hi : Int) := by omega
  have f3 : (hi : Int) % 4294967296 = (hi : Int) := by omega
  have HV : Hid (valD [lo, hi] = n) := by unfold Hid; simp only [valD]; omega
  have HO : Hid (okD [lo, hi]) := fun d hd => by
    simp at hd
    rcases hd with rfl | rfl <;> omega
  have h0 : ¬ ((n : Int) < 0) := by omega
  clear hlo hhi
  have kN : ∀ W : World, Bk (W.alloc (.cells #[.int .u32 (lo : Int), .int .u32 (hi : Int)] 108)) W.heap.size 108 #[.int .u32 (lo : Int), .int .u32 (hi : Int)] := fun W => Bk.new _ _ _ rfl
  have HK : Hid (∀ W : World, (Dg.mk (some ⟨W.heap.size, 0, none⟩) 2 2 [lo, hi]).ok (W.alloc (.cells #[.int .u32 (lo : Int), .int .u32 (hi : Int)] 108))) := fun W => ⟨rd_of_bk encD_len (kN W) rfl, rfl, HO.out⟩
  clear kN
  go_enter Try.func79, Try.ntmps79
  go_wp2_with fail
  refine (new_any ⟨some ⟨w.heap.size + 1, 0, none⟩, 2, 2, [lo, hi]⟩ _ (by have h := HK.out (w.alloc (.cells #[.bool false, .slice none 0 0] 96)); simpa using h) (by show 2 ≤ 4000; omega)).mono ?_
  rintro e w1 ⟨d, rfl, do1, dl1, df1, hb1⟩
  have HD := Lib.hid do1
  have HL := Lib.hid dl1
  have HF := Lib.hid df1
  have kO1 : Bk w1 (w.heap.size) 96 #[.bool false, .slice none 0 0] := (by repeat (first | (with_reducible assumption) | ((with_reducible refine Bk.new _ _ _ ?_); first | (with_reducible rfl) | (simp; done)) | (with_reducible refine Bk.alloc ?_ _) | (with_reducible refine Bk.drew ?_) | (with_reducible refine Bk.drewN ?_ _) | ((with_reducible refine Bk.far ?_ ?_ _); rotate_left; focus (first | (simp; done) | (simp; omega))) | (with_reducible refine Bk.below ?_ (by with_reducible assumption)))); obtain ⟨kcO1, kfO1, kaO1, kgO1, klO1⟩ := kO1.rules
  have hB1 : Below w.heap.size w w1 := (by repeat (first | (with_reducible exact Below.refl _ _) | (with_reducible refine balloc ?_ _) | (with_reducible refine Below.drew ?_) | (with_reducible refine bdrewN ?_ _) | ((with_reducible refine bset ?_ ?_ _); rotate_left; focus (first | (with_reducible exact Nat.le_refl _) | (simp; done) | (simp; omega) | omega)) | (with_reducible refine bstep (by with_reducible assumption) ?_)))
  clear do1 dl1 df1
  have hs1 := (HD.out.far HF.out (p := ⟨w.heap.size, 0, none⟩) (by show w.heap.size < _; simp; try omega) (.bool false)).far HF.out (p := ⟨w.heap.size, 1, none⟩) (by show w.heap.size < _; simp; try omega) (.slice d.A d.n d.c)
  have HS1 := Lib.hid hs1
  clear hs1
  go_wp2
  refine bodyPost_ret (v := .agg #[.bool false, .slice d.A d.n d.c]) ?_ rfl ⟨d, rfl, HS1.out, by rw [HL.out, HV.out], HF.out.mono (by simp; try omega), (by repeat (first | (with_reducible exact Below.refl _ _) | (with_reducible refine balloc ?_ _) | (with_reducible refine Below.drew ?_) | (with_reducible refine bdrewN ?_ _) | ((with_reducible refine bset ?_ ?_ _); rotate_left; focus (first | (with_reducible exact Nat.le_refl _) | (simp; done) | (simp; omega) | omega)) | (with_reducible refine bstep (by with_reducible assumption) ?_)))⟩
  simp [results, Try.results79, go_sem, kcO1]
set_option maxHeartbeats 1600000 in
theorem imul_any (a b : Dg) (w : World) (ha : a.ok w) (hb : b.ok w) (hna : a.n ≤ 100) (hnb : b.n ≤ 100) :
    Calls Try.prog 78 #[.agg #[.bool false, .slice a.A a.n a.c], .agg #[.bool false, .slice b.A b.n b.c]] w (RetI (valD a.l * valD b.l) w) := by
  have HA := Lib.hid ha
  have HB := Lib.hid hb
  have hpb : valD a.l * valD b.l < 4294967296 ^ (a.n + b.n) := by
    rw [Nat.pow_add, ← ha.ln, ← hb.ln]
    exact Nat.mul_lt_mul'' (val_lt ha.dg) (val_lt hb.dg)
  have HPB := Lib.hid hpb
  clear ha hb hpb
  go_enter Try.func78, Try.ntmps78
  go_wp2_with fail
  refine wp_region_gob 11 [(0, true), (1, true), (2, true), (3, true), (4, true), (5, true), (6, true), (7, true), (8, true), (9, false), (10, false)] (by kernel_rfl) (by kernel_rfl) (fun c a d v w h => by cases d <;> exact h) ?_
  repeat (first | (refine wpGo_pure (v := ?_) rfl rfl (fun w' hS => ?_) ?_; rotate_left; (· have kAp : Bk w' (w.heap.size) 96 #[.bool false, .slice a.A a.n a.c] := (by repeat (first | (with_reducible assumption) | ((with_reducible refine Bk.new _ _ _ ?_); first | (with_reducible rfl) | (simp; done)) | (with_reducible refine Bk.alloc ?_ _) | (with_reducible refine Bk.drew ?_) | (with_reducible refine Bk.drewN ?_ _) | ((with_reducible refine Bk.far ?_ ?_ _); rotate_left; focus (first | (simp; done) | (simp; omega))) | (with_reducible refine Bk.below ?_ (by with_reducible assumption)))); obtain ⟨kcAp, kfAp, kaAp, kgAp, klAp⟩ := kAp.rules; have kBp : Bk w' (w.heap.size + 1) 96 #[.bool false, .slice b.A b.n b.c] := (by repeat (first | (with_reducible assumption) | ((with_reducible refine Bk.new _ _ _ ?_); first | (with_reducible rfl) | (simp; done)) | (with_reducible refine Bk.alloc ?_ _) | (with_reducible refine Bk.drew ?_) | (with_reducible refine Bk.drewN ?_ _) | ((with_reducible refine Bk.far ?_ ?_ _); rotate_left; focus (first | (simp; done) | (simp; omega))) | (with_reducible refine Bk.below ?_ (by with_reducible assumption)))); obtain ⟨kcBp, kfBp, kaBp, kgBp, klBp⟩ := kBp.rules; go_simp; exact rfl); (try simp only [Act.put, List.setIfInBounds_toArray, List.set_cons_zero, List.set_cons_succ])) | ((refine wpGo_skip rfl rfl ?_); (try simp only [Act.put, List.setIfInBounds_toArray, List.set_cons_zero, List.set_cons_succ])))
  refine wpGo_eff rfl (fun K hK => ?_)
  go_simp
  refine (mul_any a b _ (HA.out.below (by repeat (first | (with_reducible exact Below.refl _ _) | (with_reducible refine balloc ?_ _) | (with_reducible refine Below.drew ?_) | (with_reducible refine bdrewN ?_ _) | ((with_reducible refine bset ?_ ?_ _); rotate_left; focus (first | (with_reducible exact Nat.le_refl _) | (simp; done) | (simp; omega) | omega)) | (with_reducible refine bstep (by with_reducible assumption) ?_)))) (HB.out.below (by repeat (first | (with_reducible exact Below.refl _ _) | (with_reducible refine balloc ?_ _) | (with_reducible refine Below.drew ?_) | (with_reducible refine bdrewN ?_ _) | ((with_reducible refine bset ?_ ?_ _); rotate_left; focus (first | (with_reducible exact Nat.le_refl _) | (simp; done) | (simp; omega) | omega)) | (with_reducible refine bstep (by with_reducible assumption) ?_)))) (by omega) (by omega)).mono ?_
  rintro e w1 ⟨d, rfl, do1, dl1, hb1⟩
  have HD := Lib.hid do1
  have HL := Lib.hid dl1
  have hd4 : d.n ≤ 4000 := by have h := do1.le dl1 HPB.out; omega
  clear do1 dl1
  refine hK.out _ _ (by repeat (first | (with_reducible exact Below.refl _ _) | (with_reducible refine balloc ?_ _) | (with_reducible refine Below.drew ?_) | (with_reducible refine bdrewN ?_ _) | ((with_reducible refine bset ?_ ?_ _); rotate_left; focus (first | (with_reducible exact Nat.le_refl _) | (simp; done) | (simp; omega) | omega)) | (with_reducible refine bstep (by with_reducible assumption) ?_))) (fun hS1 => ?_)
  clear hK K
  refine wpGo_eff rfl (fun K hK => ?_)
  go_simp
  refine (new_any d _ HD.out hd4).mono ?_
  rintro e w2 ⟨d2, rfl, do2, dl2, df2, hb2⟩
  have HD2 := Lib.hid do2
  have HL2 := Lib.hid dl2
  have HF2 := Lib.hid df2
  clear do2 dl2 df2
  refine hK.out _ _ (by repeat (first | (with_reducible exact Below.refl _ _) | (with_reducible refine balloc ?_ _) | (with_reducible refine Below.drew ?_) | (with_reducible refine bdrewN ?_ _) | ((with_reducible refine bset ?_ ?_ _); rotate_left; focus (first | (with_reducible exact Nat.le_refl _) | (simp; done) | (simp; omega) | omega)) | (with_reducible refine bstep (by with_reducible assumption) ?_))) (fun hS2 => ?_)
  clear hK K
  refine wpGo_nil ?_
  simp only [List.drop_succ_cons, List.drop_zero]
  have kO2 : Bk w2 (w.heap.size + 1 + 1) 96 #[.bool false, .slice none 0 0] := (by repeat (first | (with_reducible assumption) | ((with_reducible refine Bk.new _ _ _ ?_); first | (with_reducible rfl) | (simp; done)) | (with_reducible refine Bk.alloc ?_ _) | (with_reducible refine Bk.drew ?_) | (with_reducible refine Bk.drewN ?_ _) | ((with_reducible refine Bk.far ?_ ?_ _); rotate_left; focus (first | (simp; done) | (simp; omega))) | (with_reducible refine Bk.below ?_ (by with_reducible assumption)))); obtain ⟨kcO2, kfO2, kaO2, kgO2, klO2⟩ := kO2.rules
  have hB2 : Below w.heap.size w w2 := (by repeat (first | (with_reducible exact Below.refl _ _) | (with_reducible refine balloc ?_ _) | (with_reducible refine Below.drew ?_) | (with_reducible refine bdrewN ?_ _) | ((with_reducible refine bset ?_ ?_ _); rotate_left; focus (first | (with_reducible exact Nat.le_refl _) | (simp; done) | (simp; omega) | omega)) | (with_reducible refine bstep (by with_reducible assumption) ?_)))
  have hsz : w.heap.size + 1 + 1 < w1.heap.size := by have h := hb1.size; simp at h; omega
  have hs1 := (HD2.out.far HF2.out (p := ⟨w.heap.size + 1 + 1, 0, none⟩) hsz (.bool false)).far HF2.out (p := ⟨w.heap.size + 1 + 1, 1, none⟩) hsz (.slice d2.A d2.n d2.c)
  have HS1 := Lib.hid hs1
  clear hs1
  go_wp2
  refine bodyPost_ret (v := .agg #[.bool false, .slice d2.A d2.n d2.c]) ?_ rfl ⟨d2, rfl, HS1.out, by rw [HL2.out, HL.out, val_dig], HF2.out.mono (by omega), (by repeat (first | (with_reducible exact Below.refl _ _) | (with_reducible refine balloc ?_ _) | (with_reducible refine Below.drew ?_) | (with_reducible refine bdrewN ?_ _) | ((with_reducible refine bset ?_ ?_ _); rotate_left; focus (first | (with_reducible exact Nat.le_refl _) | (simp; done) | (simp; omega) | omega)) | (with_reducible refine bstep (by with_reducible assumption) ?_)))⟩
  simp [results, Try.results78, go_sem, kcO2]
set_option maxHeartbeats 1600000 in
theorem sign_any (a : Dg) (w : World) (ha : a.ok w) (hna : a.n ≤ 4000) (h0 : valD a.l ≠ 0) :
    Calls Try.prog 82 #[.agg #[.bool false, .slice a.A a.n a.c]] w fun e w' => e = .returned (.int .i64 1) ∧ Below w.heap.size w w' := by
  have HA := Lib.hid ha
  have HT := Lib.hid (dig_top h0).1
  clear ha h0
  go_enter Try.func82, Try.ntmps82
  have k0 : Bk (w.alloc (.cells #[.bool false, .slice a.A a.n a.c] 96)) w.heap.size 96 #[.bool false, .slice a.A a.n a.c] := Bk.new _ _ _ rfl
  obtain ⟨kc0, kf0, ka0, kg0, kl0⟩ := k0.rules
  go_wp2_with fail
  refine (new_any a _ (HA.out.below (by repeat (first | (with_reducible exact Below.refl _ _) | (with_reducible refine balloc ?_ _) | (with_reducible refine Below.drew ?_) | (with_reducible refine bdrewN ?_ _) | ((with_reducible refine bset ?_ ?_ _); rotate_left; focus (first | (with_reducible exact Nat.le_refl _) | (simp; done) | (simp; omega) | omega)) | (with_reducible refine bstep (by with_reducible assumption) ?_)))) hna).mono ?_
  rintro e w1 ⟨d, rfl, do1, dl1, df1, hb1⟩
  have hdn : ¬ (d.n = 0) := by
    intro h
    have h2 := do1.ln
    rw [h, dl1] at h2
    exact HT.out (List.eq_nil_of_length_eq_zero h2)
  clear kc0 kf0 ka0 kg0 do1 dl1 df1
  go_wp2
  go_ret
  exact ⟨rfl, (by repeat (first | (with_reducible exact Below.refl _ _) | (with_reducible refine balloc ?_ _) | (with_reducible refine Below.drew ?_) | (with_reducible refine bdrewN ?_ _) | ((with_reducible refine bset ?_ ?_ _); rotate_left; focus (first | (with_reducible exact Nat.le_refl _) | (simp; done) | (simp; omega) | omega)) | (with_reducible refine bstep (by with_reducible assumption) ?_)))⟩
end Go.Proofs.Ytlholebpfgjpdaa
