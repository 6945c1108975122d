/- MaskDuality: for every mask and radii the law grisaillelaw21.MaskDuality returns true. No conditions. -/
import Derived.Test.YtndablijjkchjaaMorD
import Derived.Test.YtndablijjkchjaaMorE
import Derived.Test.YtndablijjkchjaaMk9
import Derived.Test.YtndablijjkchjaaEx21
import Derived.Test.YtndablijjkchjaaOpenM
import Derived.Test.YtndablijjkchjaaPlB
import Derived.Test.YtndablijjkchjaaMk3
namespace Go.Proofs.Ytndablijjkchjaa
open Go.ChangeShapes Go.WideShapes Go.ChangeAt Go.RowKit
set_option linter.unusedSimpArgs false
set_option linter.unusedVariables false

set_option maxRecDepth 100000 in
set_option maxHeartbeats 6400000 in
theorem walk_MaskDuality (b : Mk) (x y : Int) (w : World) (hb : b.ok w) (hx : 0 ≤ x ∧ x ≤ 255) (hy : 0 ≤ y ∧ y ≤ 255) :
    Calls Try.prog 11 #[.agg #[.int .i64 b.r.x0, .int .i64 b.r.y0, .int .i64 b.r.x1, .int .i64 b.r.y1, .slice b.A b.n b.c], .agg #[.int .u8 x, .int .u8 y]] w fun e w' => e = .returned (.bool true) ∧ Below w.heap.size w w' := by
  have HB := Lib.hid hb
  clear hb
  cases h1 : decide ((300 : Int) < (b.n : Int)) with
  | true =>
    go_enter Try.func11, Try.ntmps11
    go_wp2_with fail
    refine (ex_any _).mono ?_
    rintro e w1 ⟨rfl, hb1⟩
    go_wp2
    go_ret
    exact ⟨rfl, (by repeat (first | (with_reducible exact Below.refl _ _) | (with_reducible refine balloc ?_ _) | (with_reducible refine Below.drew ?_) | (with_reducible refine bdrewN ?_ _) | ((with_reducible refine bset ?_ ?_ _); rotate_left; focus (first | (with_reducible exact Nat.le_refl _) | (simp; done) | (simp; omega) | omega)) | (with_reducible refine bstep (by with_reducible assumption) ?_)))⟩
  | false =>
    have l1 := of_decide_eq_false h1
    cases h2 : mkValid b.r b.l with
    | false =>
      have Hvb := Lib.hid h2
      clear h2
      go_enter Try.func11, Try.ntmps11
      go_wp2_with fail
      refine (rmvalid_any b.r b.A b.n b.c b.l _ (HB.out.rd.below (by repeat (first | (with_reducible exact Below.refl _ _) | (with_reducible refine balloc ?_ _) | (with_reducible refine Below.drew ?_) | (with_reducible refine bdrewN ?_ _) | ((with_reducible refine bset ?_ ?_ _); rotate_left; focus (first | (with_reducible exact Nat.le_refl _) | (simp; done) | (simp; omega) | omega)) | (with_reducible refine bstep (by with_reducible assumption) ?_)))) HB.out.ln (by omega) false Hvb).mono ?_
      rintro e w1 ⟨rfl, hb1⟩
      go_wp2_with fail
      refine (ex_any _).mono ?_
      rintro e w2 ⟨rfl, hb2⟩
      go_wp2
      go_ret
      exact ⟨rfl, (by repeat (first | (with_reducible exact Below.refl _ _) | (with_reducible refine balloc ?_ _) | (with_reducible refine Below.drew ?_) | (with_reducible refine bdrewN ?_ _) | ((with_reducible refine bset ?_ ?_ _); rotate_left; focus (first | (with_reducible exact Nat.le_refl _) | (simp; done) | (simp; omega) | omega)) | (with_reducible refine bstep (by with_reducible assumption) ?_)))⟩
    | true =>
      have Hvb := Lib.hid h2
      have hv : vMk b = true := h2
      obtain ⟨a, ha⟩ : ∃ k : Nat, x % 33 = (k : Int) := ⟨(x % 33).toNat, by omega⟩
      obtain ⟨c, hc⟩ : ∃ k : Nat, y % 32 = (k : Int) := ⟨(y % 32).toNat, by omega⟩
      have ha1 : a ≤ 32 := by omega
      have hc1 : c ≤ 31 := by omega
      have ha2 : x.tmod 33 = (a : Int) := by rw [Int.tmod_eq_emod_of_nonneg hx.1]; exact ha
      have hc2 : y.tmod 32 = (c : Int) := by rw [Int.tmod_eq_emod_of_nonneg hy.1]; exact hc
      have hw1 : IntKind.u8.wrap (a : Int) = (a : Int) := IntWalk.u8_in _ (by omega)
      have hw2 : IntKind.u8.wrap (c : Int) = (c : Int) := IntWalk.u8_in _ (by omega)
      have hw3 : IntKind.i64.wrap (a : Int) = (a : Int) := IntWalk.i64_in _ (by omega)
      have hw4 : IntKind.i64.wrap (c : Int) = (c : Int) := IntWalk.i64_in _ (by omega)
      clear ha hc
      obtain ⟨hlen, _, _, _, _⟩ := grid_dim hv
      obtain ⟨hcn, hln2, har⟩ := mk_cn h2
      obtain ⟨wd, hwd⟩ : ∃ u, wdB b = u := ⟨_, rfl⟩
      obtain ⟨ht, hht⟩ : ∃ u, htB b = u := ⟨_, rfl⟩
      rw [hwd, hht] at hlen
      have hlt2 : b.l.length = ht * wd := by rw [hlen, Nat.mul_comm]
      have HVM : Hid (∀ (A : Option Addr) (c0 : Nat) (L : List Int), L.length = b.n → vMk ⟨b.r, A, b.n, c0, L⟩ = true) := fun A c0 L h => mk_of hcn (by show ((L.length : Nat) : Int) = _; rw [h, ← HB.out.ln]; exact hln2) har
      have HDil : Hid (∀ (A : Option Addr) (c0 : Nat) (L : List Int) (k : Nat) (W : World), Mk.ok ⟨b.r, A, b.n, c0, L⟩ W → k ≤ 64 → Calls Try.prog 42 #[.agg #[.int .i64 b.r.x0, .int .i64 b.r.y0, .int .i64 b.r.x1, .int .i64 b.r.y1, .slice A b.n c0], .int .i64 (k : Int)] W (RetME b.r (exL 1 wd ht k L) 0 W)) := fun A c0 L k W h hk => by
        have hv2 := HVM.out A c0 L h.ln
        have hxv : exV ⟨b.r, A, b.n, c0, L⟩ (k : Int) = true := by unfold exV; rw [hv2, decide_eq_true (by omega), decide_eq_true (by omega)]; rfl
        have := dilate_any ⟨b.r, A, b.n, c0, L⟩ (k : Int) W h (by show b.n ≤ _; omega)
        rw [show exR ⟨b.r, A, b.n, c0, L⟩ (k : Int) = b.r by unfold exR; rw [hxv]; rfl, show exM 1 ⟨b.r, A, b.n, c0, L⟩ (k : Int) = exL 1 wd ht k L by unfold exM; rw [hxv, Int.toNat_natCast, ← hwd, ← hht]; rfl, show exE ⟨b.r, A, b.n, c0, L⟩ (k : Int) = 0 by unfold exE; rw [hv2, hxv]; rfl] at this
        exact this
      have HInv : Hid (∀ (A : Option Addr) (c0 : Nat) (L : List Int) (W : World), Mk.ok ⟨b.r, A, b.n, c0, L⟩ W → Calls Try.prog 31 #[.agg #[.int .i64 b.r.x0, .int .i64 b.r.y0, .int .i64 b.r.x1, .int .i64 b.r.y1, .slice A b.n c0]] W (RetME b.r (L.map fun v => 255 - v) 0 W)) := fun A c0 L W h => by
        have hv2 := HVM.out A c0 L h.ln
        have := minvert_any ⟨b.r, A, b.n, c0, L⟩ W h (by show b.n ≤ _; omega)
        rw [show mpR ⟨b.r, A, b.n, c0, L⟩ = b.r by unfold mpR; rw [hv2]; rfl, show mpL invF ⟨b.r, A, b.n, c0, L⟩ = L.map (fun v => 255 - v) by unfold mpL; rw [hv2]; rfl, show mpE ⟨b.r, A, b.n, c0, L⟩ = 0 by unfold mpE; rw [hv2]; rfl] at this
        exact this
      obtain ⟨DN, HDN⟩ : ∃ u, Hid (exL (-1) wd ht a b.l = u) := ⟨_, rfl⟩
      obtain ⟨UP, HUP⟩ : ∃ u, Hid (exL 1 wd ht a b.l = u) := ⟨_, rfl⟩
      obtain ⟨NT, HNT⟩ : ∃ u, Hid ((b.l.map fun v => 255 - v) = u) := ⟨_, Lib.hid rfl⟩
      obtain ⟨WD, HWD⟩ : ∃ u, Hid (exL 1 wd ht a NT = u) := ⟨_, rfl⟩
      obtain ⟨ON, HON⟩ : ∃ u, Hid (exL 1 wd ht (a + c) b.l = u) := ⟨_, rfl⟩
      have HBK : Hid ((WD.map fun v => 255 - v) = DN) := by unfold Hid; rw [← HWD.out, ← HNT.out, ← HDN.out]; exact ex_dual a hlt2
      have HTW : Hid (exL 1 wd ht c UP = ON) := by unfold Hid; rw [← HUP.out, ← HON.out]; exact ex_twice a c hlt2
      have hbn : ht * wd = b.n := by rw [← hlt2]; exact HB.out.ln
      have HnD : Hid (DN.length = b.n) := by unfold Hid; rw [← HDN.out, exL_len]; exact hbn
      have HnU : Hid (UP.length = b.n) := by unfold Hid; rw [← HUP.out, exL_len]; exact hbn
      have HnO : Hid (ON.length = b.n) := by unfold Hid; rw [← HON.out, exL_len]; exact hbn
      have HnW : Hid (WD.length = b.n) := by unfold Hid; rw [← HWD.out, exL_len]; exact hbn
      have HnN : Hid (NT.length = b.n) := by unfold Hid; rw [← HNT.out, List.length_map]; exact HB.out.ln
      have HbU : Hid (bytesB UP) := by unfold Hid; rw [← HUP.out]; exact exL_byte (.inl rfl) HB.out.byte
      have HbN : Hid (bytesB NT) := by
        unfold Hid; rw [← HNT.out]; intro z hz
        obtain ⟨u, hu, rfl⟩ := List.mem_map.1 hz
        have := HB.out.byte u hu
        omega
      have HbW : Hid (bytesB WD) := by unfold Hid; rw [← HWD.out]; exact exL_byte (.inl rfl) HbN.out
      have HBD : Hid (∀ i (h1 : i < UP.length) (h2 : i < DN.length) (h3 : i < b.l.length), DN[i] ≤ b.l[i] ∧ b.l[i] ≤ UP[i]) := by
        unfold Hid
        intro i h1 h2 h3
        obtain ⟨u, v, hu, hv', he⟩ := idx_of (wd := wd) (ht := ht) (k := i) (by rw [← hlt2]; exact h3)
        have h4 := ex_bd (wd := wd) (ht := ht) a b.l hu hv'
        rw [HDN.out, HUP.out] at h4
        unfold gF at h4
        rw [List.getD_eq_getElem?_getD, List.getD_eq_getElem?_getD, List.getD_eq_getElem?_getD, ← he, List.getElem?_eq_getElem h1, List.getElem?_eq_getElem h2, List.getElem?_eq_getElem h3] at h4
        exact h4
      have HEro : Hid (∀ (W : World), b.ok W → Calls Try.prog 43 #[.agg #[.int .i64 b.r.x0, .int .i64 b.r.y0, .int .i64 b.r.x1, .int .i64 b.r.y1, .slice b.A b.n b.c], .int .i64 (a : Int)] W (RetME b.r DN 0 W)) := fun W h => by
        have hxv : exV b (a : Int) = true := by unfold exV; rw [hv, decide_eq_true (by omega), decide_eq_true (by omega)]; rfl
        have := erode_any b (a : Int) W h (by omega)
        rw [show exR b (a : Int) = b.r by unfold exR; rw [hxv]; rfl, show exM (-1) b (a : Int) = DN by unfold exM; rw [hxv, Int.toNat_natCast, hwd, hht]; exact HDN.out, show exE b (a : Int) = 0 by unfold exE; rw [hv, hxv]; rfl] at this
        exact this
      clear h2 hv hlen hcn hln2 har hlt2 hbn HVM hwd hht
      go_enter Try.func11, Try.ntmps11
      go_wp2_with fail
      refine (rmvalid_any b.r b.A b.n b.c b.l _ (HB.out.rd.below (by repeat (first | (with_reducible exact Below.refl _ _) | (with_reducible refine balloc ?_ _) | (with_reducible refine Below.drew ?_) | (with_reducible refine bdrewN ?_ _) | ((with_reducible refine bset ?_ ?_ _); rotate_left; focus (first | (with_reducible exact Nat.le_refl _) | (simp; done) | (simp; omega) | omega)) | (with_reducible refine bstep (by with_reducible assumption) ?_)))) HB.out.ln (by omega) true Hvb).mono ?_
      rintro e w1 ⟨rfl, hb1⟩
      have kB1 : Bk w1 (w.heap.size + 1) 54 #[.int .u8 x, .int .u8 y] := (by repeat (first | (with_reducible assumption) | ((with_reducible refine Bk.new _ _ _ ?_); first | (with_reducible rfl) | (simp; done)) | (with_reducible refine Bk.alloc ?_ _) | (with_reducible refine Bk.drew ?_) | (with_reducible refine Bk.drewN ?_ _) | ((with_reducible refine Bk.far ?_ ?_ _); rotate_left; focus (first | (simp; done) | (simp; omega))) | (with_reducible refine Bk.below ?_ (by with_reducible assumption)))); obtain ⟨kcB1, kfB1, kaB1, kgB1, klB1⟩ := kB1.rules
      have kA1 : Bk w1 (w.heap.size) 29 #[.int .i64 b.r.x0, .int .i64 b.r.y0, .int .i64 b.r.x1, .int .i64 b.r.y1, .slice b.A b.n b.c] := (by repeat (first | (with_reducible assumption) | ((with_reducible refine Bk.new _ _ _ ?_); first | (with_reducible rfl) | (simp; done)) | (with_reducible refine Bk.alloc ?_ _) | (with_reducible refine Bk.drew ?_) | (with_reducible refine Bk.drewN ?_ _) | ((with_reducible refine Bk.far ?_ ?_ _); rotate_left; focus (first | (simp; done) | (simp; omega))) | (with_reducible refine Bk.below ?_ (by with_reducible assumption))))
      have hB1 : Below w.heap.size w w1 := (by repeat (first | (with_reducible exact Below.refl _ _) | (with_reducible refine balloc ?_ _) | (with_reducible refine Below.drew ?_) | (with_reducible refine bdrewN ?_ _) | ((with_reducible refine bset ?_ ?_ _); rotate_left; focus (first | (with_reducible exact Nat.le_refl _) | (simp; done) | (simp; omega) | omega)) | (with_reducible refine bstep (by with_reducible assumption) ?_)))
      go_wp2_with fail
      clear kcB1 kfB1 kaB1 kgB1
      refine wp_region_gob 10 [(0, true), (1, true), (2, true), (3, true), (4, true), (5, true), (6, true), (7, true), (8, true), (9, true)] (by kernel_rfl) (by kernel_rfl) (fun c a d v w h => by cases d <;> exact h) ?_
      repeat (first | (refine wpGo_pure (v := ?_) rfl rfl (fun w' hS => ?_) ?_; rotate_left; (· obtain ⟨kc0, kf0, ka0, kg0, kl0⟩ := (kB1.below hS).rules; go_simp; exact rfl); (try simp only [Act.put, List.setIfInBounds_toArray, List.set_cons_zero, List.set_cons_succ])) | ((refine wpGo_skip rfl rfl ?_); (try simp only [Act.put, List.setIfInBounds_toArray, List.set_cons_zero, List.set_cons_succ])))
      refine wpGo_nil ?_
      simp only [List.drop_succ_cons, List.drop_zero]
      have kA2 : Bk w1.drew w.heap.size 29 #[.int .i64 b.r.x0, .int .i64 b.r.y0, .int .i64 b.r.x1, .int .i64 b.r.y1, .slice b.A b.n b.c] := kA1.drew
      have hB2 : Below w.heap.size w w1.drew := hB1.drew
      have lA := kA1.lt
      clear kA1 kB1 hb1 hB1
      generalize w1.drew = w1 at *
      obtain ⟨kcA1, kfA1, kaA1, kgA1, klA1⟩ := kA2.rules
      go_wp2_with fail
      refine (HDil.out _ _ b.l a _ (HB.out.below (by repeat (first | (with_reducible exact Below.refl _ _) | (with_reducible refine balloc ?_ _) | (with_reducible refine Below.drew ?_) | (with_reducible refine bdrewN ?_ _) | ((with_reducible refine bset ?_ ?_ _); rotate_left; focus (first | (with_reducible exact Nat.le_refl _) | (simp; done) | (simp; omega) | omega)) | (with_reducible refine bstep (by with_reducible assumption) ?_)))) (by omega)).mono ?_
      rintro e w2 ⟨v2, rfl, ho2, hb2⟩
      clear kcA1 kfA1 kaA1 kgA1
      have kA2 : Bk w2 (w.heap.size) 29 #[.int .i64 b.r.x0, .int .i64 b.r.y0, .int .i64 b.r.x1, .int .i64 b.r.y1, .slice b.A b.n b.c] := (by repeat (first | (with_reducible assumption) | ((with_reducible refine Bk.new _ _ _ ?_); first | (with_reducible rfl) | (simp; done)) | (with_reducible refine Bk.alloc ?_ _) | (with_reducible refine Bk.drew ?_) | (with_reducible refine Bk.drewN ?_ _) | ((with_reducible refine Bk.far ?_ ?_ _); rotate_left; focus (first | (simp; done) | (simp; omega))) | (with_reducible refine Bk.below ?_ (by with_reducible assumption)))); obtain ⟨kcA2, kfA2, kaA2, kgA2, klA2⟩ := kA2.rules
      rw [HUP.out] at ho2
      obtain ⟨A2, c2, hv2, hr2, hle2, hmx2⟩ := ho2.form2 encB_len
      rw [HnU.out] at hv2 hle2
      subst hv2
      have HR2 := Lib.hid hr2
      have HC2 := Lib.hid (And.intro hle2 hmx2)
      clear hr2 hle2 hmx2
      clear ho2
      
      go_wp2_with fail
      refine (HEro.out _ (HB.out.below (by repeat (first | (with_reducible exact Below.refl _ _) | (with_reducible refine balloc ?_ _) | (with_reducible refine Below.drew ?_) | (with_reducible refine bdrewN ?_ _) | ((with_reducible refine bset ?_ ?_ _); rotate_left; focus (first | (with_reducible exact Nat.le_refl _) | (simp; done) | (simp; omega) | omega)) | (with_reducible refine bstep (by with_reducible assumption) ?_))))).mono ?_
      rintro e w3 ⟨v3, rfl, ho3, hb3⟩
      clear kcA2 kfA2 kaA2 kgA2
      have kA3 : Bk w3 (w.heap.size) 29 #[.int .i64 b.r.x0, .int .i64 b.r.y0, .int .i64 b.r.x1, .int .i64 b.r.y1, .slice b.A b.n b.c] := (by repeat (first | (with_reducible assumption) | ((with_reducible refine Bk.new _ _ _ ?_); first | (with_reducible rfl) | (simp; done)) | (with_reducible refine Bk.alloc ?_ _) | (with_reducible refine Bk.drew ?_) | (with_reducible refine Bk.drewN ?_ _) | ((with_reducible refine Bk.far ?_ ?_ _); rotate_left; focus (first | (simp; done) | (simp; omega))) | (with_reducible refine Bk.below ?_ (by with_reducible assumption)))); obtain ⟨kcA3, kfA3, kaA3, kgA3, klA3⟩ := kA3.rules
      obtain ⟨A3, c3, hv3, hr3, hle3, hmx3⟩ := ho3.form2 encB_len
      rw [HnD.out] at hv3 hle3
      subst hv3
      have HR3 := Lib.hid hr3
      have HC3 := Lib.hid (And.intro hle3 hmx3)
      clear hr3 hle3 hmx3
      clear ho3
      
      go_wp2_with fail
      refine (HInv.out _ _ b.l _ (HB.out.below (by repeat (first | (with_reducible exact Below.refl _ _) | (with_reducible refine balloc ?_ _) | (with_reducible refine Below.drew ?_) | (with_reducible refine bdrewN ?_ _) | ((with_reducible refine bset ?_ ?_ _); rotate_left; focus (first | (with_reducible exact Nat.le_refl _) | (simp; done) | (simp; omega) | omega)) | (with_reducible refine bstep (by with_reducible assumption) ?_))))).mono ?_
      rintro e w4 ⟨v4, rfl, ho4, hb4⟩
      clear kcA3 kfA3 kaA3 kgA3
      rw [HNT.out] at ho4
      obtain ⟨A4, c4, hv4, hr4, hle4, hmx4⟩ := ho4.form2 encB_len
      rw [HnN.out] at hv4 hle4
      subst hv4
      have HR4 := Lib.hid hr4
      have HC4 := Lib.hid (And.intro hle4 hmx4)
      clear hr4 hle4 hmx4
      clear ho4
      
      go_wp2_with fail
      refine (HDil.out _ _ NT a _ ⟨HR4.out.below (by repeat (first | (with_reducible exact Below.refl _ _) | (with_reducible refine balloc ?_ _) | (with_reducible refine Below.drew ?_) | (with_reducible refine bdrewN ?_ _) | ((with_reducible refine bset ?_ ?_ _); rotate_left; focus (first | (with_reducible exact Nat.le_refl _) | (simp; done) | (simp; omega) | omega)) | (with_reducible refine bstep (by with_reducible assumption) ?_))), HnN.out, HbN.out, HC4.out.1, HC4.out.2⟩ (by omega)).mono ?_
      rintro e w5 ⟨v5, rfl, ho5, hb5⟩
      rw [HWD.out] at ho5
      obtain ⟨A5, c5, hv5, hr5, hle5, hmx5⟩ := ho5.form2 encB_len
      rw [HnW.out] at hv5 hle5
      subst hv5
      have HR5 := Lib.hid hr5
      have HC5 := Lib.hid (And.intro hle5 hmx5)
      clear hr5 hle5 hmx5
      clear ho5
      
      go_wp2_with fail
      refine (HInv.out _ _ WD _ ⟨HR5.out.below (by repeat (first | (with_reducible exact Below.refl _ _) | (with_reducible refine balloc ?_ _) | (with_reducible refine Below.drew ?_) | (with_reducible refine bdrewN ?_ _) | ((with_reducible refine bset ?_ ?_ _); rotate_left; focus (first | (with_reducible exact Nat.le_refl _) | (simp; done) | (simp; omega) | omega)) | (with_reducible refine bstep (by with_reducible assumption) ?_))), HnW.out, HbW.out, HC5.out.1, HC5.out.2⟩).mono ?_
      rintro e w6 ⟨v6, rfl, ho6, hb6⟩
      have kU6 : Bk w6 (w2.heap.size) 29 #[.int .i64 b.r.x0, .int .i64 b.r.y0, .int .i64 b.r.x1, .int .i64 b.r.y1, .slice A2 b.n c2] := (by repeat (first | (with_reducible assumption) | ((with_reducible refine Bk.new _ _ _ ?_); first | (with_reducible rfl) | (simp; done)) | (with_reducible refine Bk.alloc ?_ _) | (with_reducible refine Bk.drew ?_) | (with_reducible refine Bk.drewN ?_ _) | ((with_reducible refine Bk.far ?_ ?_ _); rotate_left; focus (first | (simp; done) | (simp; omega))) | (with_reducible refine Bk.below ?_ (by with_reducible assumption)))); obtain ⟨kcU6, kfU6, kaU6, kgU6, klU6⟩ := kU6.rules
      rw [HBK.out] at ho6
      obtain ⟨A6, c6, hv6, hr6, hle6, hmx6⟩ := ho6.form2 encB_len
      rw [HnD.out] at hv6 hle6
      subst hv6
      have HR6 := Lib.hid hr6
      have HC6 := Lib.hid (And.intro hle6 hmx6)
      clear hr6 hle6 hmx6
      clear ho6
      
      go_wp2_with fail
      refine (HDil.out _ _ UP c _ ⟨HR2.out.below (by repeat (first | (with_reducible exact Below.refl _ _) | (with_reducible refine balloc ?_ _) | (with_reducible refine Below.drew ?_) | (with_reducible refine bdrewN ?_ _) | ((with_reducible refine bset ?_ ?_ _); rotate_left; focus (first | (with_reducible exact Nat.le_refl _) | (simp; done) | (simp; omega) | omega)) | (with_reducible refine bstep (by with_reducible assumption) ?_))), HnU.out, HbU.out, HC2.out.1, HC2.out.2⟩ (by omega)).mono ?_
      rintro e w7 ⟨v7, rfl, ho7, hb7⟩
      clear kcU6 kfU6 kaU6 kgU6
      have kA7 : Bk w7 (w.heap.size) 29 #[.int .i64 b.r.x0, .int .i64 b.r.y0, .int .i64 b.r.x1, .int .i64 b.r.y1, .slice b.A b.n b.c] := (by repeat (first | (with_reducible assumption) | ((with_reducible refine Bk.new _ _ _ ?_); first | (with_reducible rfl) | (simp; done)) | (with_reducible refine Bk.alloc ?_ _) | (with_reducible refine Bk.drew ?_) | (with_reducible refine Bk.drewN ?_ _) | ((with_reducible refine Bk.far ?_ ?_ _); rotate_left; focus (first | (simp; done) | (simp; omega))) | (with_reducible refine Bk.below ?_ (by with_reducible assumption)))); obtain ⟨kcA7, kfA7, kaA7, kgA7, klA7⟩ := kA7.rules
      rw [HTW.out] at ho7
      obtain ⟨A7, c7, hv7, hr7, hle7, hmx7⟩ := ho7.form2 encB_len
      rw [HnO.out] at hv7 hle7
      subst hv7
      have HR7 := Lib.hid hr7
      have HC7 := Lib.hid (And.intro hle7 hmx7)
      clear hr7 hle7 hmx7
      clear ho7
      
      go_wp2_with fail
      refine (HDil.out _ _ b.l (a + c) _ (HB.out.below (by repeat (first | (with_reducible exact Below.refl _ _) | (with_reducible refine balloc ?_ _) | (with_reducible refine Below.drew ?_) | (with_reducible refine bdrewN ?_ _) | ((with_reducible refine bset ?_ ?_ _); rotate_left; focus (first | (with_reducible exact Nat.le_refl _) | (simp; done) | (simp; omega) | omega)) | (with_reducible refine bstep (by with_reducible assumption) ?_)))) (by omega)).mono ?_
      rintro e w8 ⟨v8, rfl, ho8, hb8⟩
      clear kcA7 kfA7 kaA7 kgA7
      have kD8 : Bk w8 (w3.heap.size) 29 #[.int .i64 b.r.x0, .int .i64 b.r.y0, .int .i64 b.r.x1, .int .i64 b.r.y1, .slice A3 b.n c3] := (by repeat (first | (with_reducible assumption) | ((with_reducible refine Bk.new _ _ _ ?_); first | (with_reducible rfl) | (simp; done)) | (with_reducible refine Bk.alloc ?_ _) | (with_reducible refine Bk.drew ?_) | (with_reducible refine Bk.drewN ?_ _) | ((with_reducible refine Bk.far ?_ ?_ _); rotate_left; focus (first | (simp; done) | (simp; omega))) | (with_reducible refine Bk.below ?_ (by with_reducible assumption)))); obtain ⟨kcD8, kfD8, kaD8, kgD8, klD8⟩ := kD8.rules; have kK8 : Bk w8 (w6.heap.size) 29 #[.int .i64 b.r.x0, .int .i64 b.r.y0, .int .i64 b.r.x1, .int .i64 b.r.y1, .slice A6 b.n c6] := (by repeat (first | (with_reducible assumption) | ((with_reducible refine Bk.new _ _ _ ?_); first | (with_reducible rfl) | (simp; done)) | (with_reducible refine Bk.alloc ?_ _) | (with_reducible refine Bk.drew ?_) | (with_reducible refine Bk.drewN ?_ _) | ((with_reducible refine Bk.far ?_ ?_ _); rotate_left; focus (first | (simp; done) | (simp; omega))) | (with_reducible refine Bk.below ?_ (by with_reducible assumption)))); obtain ⟨kcK8, kfK8, kaK8, kgK8, klK8⟩ := kK8.rules
      rw [HON.out] at ho8
      obtain ⟨A8, c8, hv8, hr8, hle8, hmx8⟩ := ho8.form2 encB_len
      rw [HnO.out] at hv8 hle8
      subst hv8
      have HR8 := Lib.hid hr8
      have HC8 := Lib.hid (And.intro hle8 hmx8)
      clear hr8 hle8 hmx8
      clear ho8
      
      go_wp2_with fail
      refine (rmequal_any b.r b.r A3 A6 b.n b.n c3 c6 DN DN _ (HR3.out.below (by repeat (first | (with_reducible exact Below.refl _ _) | (with_reducible refine balloc ?_ _) | (with_reducible refine Below.drew ?_) | (with_reducible refine bdrewN ?_ _) | ((with_reducible refine bset ?_ ?_ _); rotate_left; focus (first | (with_reducible exact Nat.le_refl _) | (simp; done) | (simp; omega) | omega)) | (with_reducible refine bstep (by with_reducible assumption) ?_)))) (HR6.out.below (by repeat (first | (with_reducible exact Below.refl _ _) | (with_reducible refine balloc ?_ _) | (with_reducible refine Below.drew ?_) | (with_reducible refine bdrewN ?_ _) | ((with_reducible refine bset ?_ ?_ _); rotate_left; focus (first | (with_reducible exact Nat.le_refl _) | (simp; done) | (simp; omega) | omega)) | (with_reducible refine bstep (by with_reducible assumption) ?_)))) HnD.out HnD.out (by omega) (by omega) true ⟨fun _ => ⟨rfl, rfl⟩, fun _ => rfl⟩).mono ?_
      rintro e w9 ⟨rfl, hb9⟩
      clear kcD8 kfD8 kaD8 kgD8 kcK8 kfK8 kaK8 kgK8
      have kT9 : Bk w9 (w7.heap.size) 29 #[.int .i64 b.r.x0, .int .i64 b.r.y0, .int .i64 b.r.x1, .int .i64 b.r.y1, .slice A7 b.n c7] := (by repeat (first | (with_reducible assumption) | ((with_reducible refine Bk.new _ _ _ ?_); first | (with_reducible rfl) | (simp; done)) | (with_reducible refine Bk.alloc ?_ _) | (with_reducible refine Bk.drew ?_) | (with_reducible refine Bk.drewN ?_ _) | ((with_reducible refine Bk.far ?_ ?_ _); rotate_left; focus (first | (simp; done) | (simp; omega))) | (with_reducible refine Bk.below ?_ (by with_reducible assumption)))); obtain ⟨kcT9, kfT9, kaT9, kgT9, klT9⟩ := kT9.rules; have kO9 : Bk w9 (w8.heap.size) 29 #[.int .i64 b.r.x0, .int .i64 b.r.y0, .int .i64 b.r.x1, .int .i64 b.r.y1, .slice A8 b.n c8] := (by repeat (first | (with_reducible assumption) | ((with_reducible refine Bk.new _ _ _ ?_); first | (with_reducible rfl) | (simp; done)) | (with_reducible refine Bk.alloc ?_ _) | (with_reducible refine Bk.drew ?_) | (with_reducible refine Bk.drewN ?_ _) | ((with_reducible refine Bk.far ?_ ?_ _); rotate_left; focus (first | (simp; done) | (simp; omega))) | (with_reducible refine Bk.below ?_ (by with_reducible assumption)))); obtain ⟨kcO9, kfO9, kaO9, kgO9, klO9⟩ := kO9.rules
      go_wp2_with fail
      refine (rmequal_any b.r b.r A7 A8 b.n b.n c7 c8 ON ON _ (HR7.out.below (by repeat (first | (with_reducible exact Below.refl _ _) | (with_reducible refine balloc ?_ _) | (with_reducible refine Below.drew ?_) | (with_reducible refine bdrewN ?_ _) | ((with_reducible refine bset ?_ ?_ _); rotate_left; focus (first | (with_reducible exact Nat.le_refl _) | (simp; done) | (simp; omega) | omega)) | (with_reducible refine bstep (by with_reducible assumption) ?_)))) (HR8.out.below (by repeat (first | (with_reducible exact Below.refl _ _) | (with_reducible refine balloc ?_ _) | (with_reducible refine Below.drew ?_) | (with_reducible refine bdrewN ?_ _) | ((with_reducible refine bset ?_ ?_ _); rotate_left; focus (first | (with_reducible exact Nat.le_refl _) | (simp; done) | (simp; omega) | omega)) | (with_reducible refine bstep (by with_reducible assumption) ?_)))) HnO.out HnO.out (by omega) (by omega) true ⟨fun _ => ⟨rfl, rfl⟩, fun _ => rfl⟩).mono ?_
      rintro e w10 ⟨rfl, hb10⟩
      clear kcT9 kfT9 kaT9 kgT9 kcO9 kfO9 kaO9 kgO9
      have kA10 : Bk w10 (w.heap.size) 29 #[.int .i64 b.r.x0, .int .i64 b.r.y0, .int .i64 b.r.x1, .int .i64 b.r.y1, .slice b.A b.n b.c] := (by repeat (first | (with_reducible assumption) | ((with_reducible refine Bk.new _ _ _ ?_); first | (with_reducible rfl) | (simp; done)) | (with_reducible refine Bk.alloc ?_ _) | (with_reducible refine Bk.drew ?_) | (with_reducible refine Bk.drewN ?_ _) | ((with_reducible refine Bk.far ?_ ?_ _); rotate_left; focus (first | (simp; done) | (simp; omega))) | (with_reducible refine Bk.below ?_ (by with_reducible assumption)))); obtain ⟨kcA10, kfA10, kaA10, kgA10, klA10⟩ := kA10.rules; have kU10 : Bk w10 (w2.heap.size) 29 #[.int .i64 b.r.x0, .int .i64 b.r.y0, .int .i64 b.r.x1, .int .i64 b.r.y1, .slice A2 b.n c2] := (by repeat (first | (with_reducible assumption) | ((with_reducible refine Bk.new _ _ _ ?_); first | (with_reducible rfl) | (simp; done)) | (with_reducible refine Bk.alloc ?_ _) | (with_reducible refine Bk.drew ?_) | (with_reducible refine Bk.drewN ?_ _) | ((with_reducible refine Bk.far ?_ ?_ _); rotate_left; focus (first | (simp; done) | (simp; omega))) | (with_reducible refine Bk.below ?_ (by with_reducible assumption)))); obtain ⟨kcU10, kfU10, kaU10, kgU10, klU10⟩ := kU10.rules; have kD10 : Bk w10 (w3.heap.size) 29 #[.int .i64 b.r.x0, .int .i64 b.r.y0, .int .i64 b.r.x1, .int .i64 b.r.y1, .slice A3 b.n c3] := (by repeat (first | (with_reducible assumption) | ((with_reducible refine Bk.new _ _ _ ?_); first | (with_reducible rfl) | (simp; done)) | (with_reducible refine Bk.alloc ?_ _) | (with_reducible refine Bk.drew ?_) | (with_reducible refine Bk.drewN ?_ _) | ((with_reducible refine Bk.far ?_ ?_ _); rotate_left; focus (first | (simp; done) | (simp; omega))) | (with_reducible refine Bk.below ?_ (by with_reducible assumption)))); obtain ⟨kcD10, kfD10, kaD10, kgD10, klD10⟩ := kD10.rules
      have hrU : RdL encB 1 w10 A2 UP := HR2.out.below (by repeat (first | (with_reducible exact Below.refl _ _) | (with_reducible refine balloc ?_ _) | (with_reducible refine Below.drew ?_) | (with_reducible refine bdrewN ?_ _) | ((with_reducible refine bset ?_ ?_ _); rotate_left; focus (first | (with_reducible exact Nat.le_refl _) | (simp; done) | (simp; omega) | omega)) | (with_reducible refine bstep (by with_reducible assumption) ?_)))
      have hrD : RdL encB 1 w10 A3 DN := HR3.out.below (by repeat (first | (with_reducible exact Below.refl _ _) | (with_reducible refine balloc ?_ _) | (with_reducible refine Below.drew ?_) | (with_reducible refine bdrewN ?_ _) | ((with_reducible refine bset ?_ ?_ _); rotate_left; focus (first | (with_reducible exact Nat.le_refl _) | (simp; done) | (simp; omega) | omega)) | (with_reducible refine bstep (by with_reducible assumption) ?_)))
      have hrM : RdL encB 1 w10 b.A b.l := HB.out.rd.below (by repeat (first | (with_reducible exact Below.refl _ _) | (with_reducible refine balloc ?_ _) | (with_reducible refine Below.drew ?_) | (with_reducible refine bdrewN ?_ _) | ((with_reducible refine bset ?_ ?_ _); rotate_left; focus (first | (with_reducible exact Nat.le_refl _) | (simp; done) | (simp; omega) | omega)) | (with_reducible refine bstep (by with_reducible assumption) ?_)))
      have HXU := Lib.hid hrU
      have HXD := Lib.hid hrD
      have HXM := Lib.hid hrM
      have hBW : Below w.heap.size w w10 := (by repeat (first | (with_reducible exact Below.refl _ _) | (with_reducible refine balloc ?_ _) | (with_reducible refine Below.drew ?_) | (with_reducible refine bdrewN ?_ _) | ((with_reducible refine bset ?_ ?_ _); rotate_left; focus (first | (with_reducible exact Nat.le_refl _) | (simp; done) | (simp; omega) | omega)) | (with_reducible refine bstep (by with_reducible assumption) ?_)))
      clear hrU hrD hrM
      go_wp2_with fail
      clear kcA10 kfA10 kaA10 kgA10 kcU10 kfU10 kaU10 kgU10 kcD10 kfD10 kaD10 kgD10
      go_loopw [141] (fun i wr => ∃ (j : Nat), j ≤ b.n ∧ i = .int .i64 (j : Int) ∧ Below w10.heap.size w10 wr) (fun i _ => b.n - (intOf i).toNat)
      case atStart => exact ⟨0, Nat.zero_le _, rfl, Below.refl _ _⟩
      case round =>
        obtain ⟨j, hj, rfl, hbw⟩ := hrel
        by_cases hlt : j < b.n
        · have hjU : j < UP.length := by rw [HnU.out]; exact hlt
          have hjD : j < DN.length := by rw [HnD.out]; exact hlt
          have hjM : j < b.l.length := by rw [HB.out.ln]; exact hlt
          obtain ⟨gU, oU, hAU, hgU, hcU⟩ := rd1 (HXU.out.below hbw) hjU
          obtain ⟨gD, oD, hAD, hgD, hcD⟩ := rd1 (HXD.out.below hbw) hjD
          obtain ⟨gM, oM, hAM, hgM, hcM⟩ := rd1 (HXM.out.below hbw) hjM
          obtain ⟨p, Hp⟩ : ∃ p, Hid (UP[j] = p) := ⟨UP[j], rfl⟩
          obtain ⟨q, Hq⟩ : ∃ p, Hid (DN[j] = p) := ⟨DN[j], rfl⟩
          obtain ⟨v, Hv⟩ : ∃ p, Hid (b.l[j] = p) := ⟨b.l[j], rfl⟩
          have hbd := HBD.out j hjU hjD hjM
          rw [Hp.out] at hcU hbd
          rw [Hq.out] at hcD hbd
          rw [Hv.out] at hcM hbd
          have hd1 : decide (p < v) = false := decide_eq_false (by omega)
          have hd2 : decide (v < q) = false := decide_eq_false (by omega)
          have jU := kU10.below hbw
          have jD := kD10.below hbw
          have jM := kA10.below hbw
          rw [hAU] at jU
          rw [hAD] at jD
          rw [hAM] at jM
          have i0 : (0 : Int) ≤ (j : Int) := by omega
          have i1 : (j : Int) < (b.n : Int) := by omega
          clear Hp Hq Hv hAU hAD hAM hbd
          go_wp2_with fail
          refine wp_region_gob 24 [(0, true), (1, true), (2, true), (3, true), (4, true), (5, true), (6, true), (7, true), (8, true), (9, true), (10, true), (11, true), (12, true), (13, true), (14, true), (15, true), (16, true), (17, true), (18, true), (19, true), (20, true), (21, true), (22, true), (23, true)] (by kernel_rfl) (by kernel_rfl) (fun c a d v w h => by cases d <;> exact h) ?_
          repeat (first | (refine wpGo_pure (v := ?_) rfl rfl (fun w' hS => ?_) ?_; rotate_left; (· obtain ⟨kc0, kf0, ka0, kg0, kl0⟩ := (jU.below hS).rules; obtain ⟨kc1, kf1, ka1, kg1, kl1⟩ := (jD.below hS).rules; obtain ⟨kc2, kf2, ka2, kg2, kl2⟩ := (jM.below hS).rules; have hcU' := (hS.cell (p := ⟨gU, oU + j, none⟩) hgU).trans hcU; have hcD' := (hS.cell (p := ⟨gD, oD + j, none⟩) hgD).trans hcD; have hcM' := (hS.cell (p := ⟨gM, oM + j, none⟩) hgM).trans hcM; go_simp; exact rfl); (try simp only [Act.put, List.setIfInBounds_toArray, List.set_cons_zero, List.set_cons_succ])) | ((refine wpGo_skip rfl rfl ?_); (try simp only [Act.put, List.setIfInBounds_toArray, List.set_cons_zero, List.set_cons_succ])))
          refine wpGo_nil ?_
          simp only [List.drop_succ_cons, List.drop_zero]
          go_wp2
          go_roundw
          case rel => exact ⟨j + 1, by omega, by go_num, hbw.drew⟩
          case measure => simp [intOf]; omega
        · obtain rfl : j = b.n := by omega
          go_wp2_with fail
          refine (ex_any _).mono ?_
          rintro e wz ⟨rfl, hbz⟩
          have hBE : Below w.heap.size w wz := bstep hbz (bstep hbw hBW)
          go_wp2
          go_ret
          exact ⟨rfl, hBE⟩

set_option maxRecDepth 100000 in
theorem lifted_MaskDuality (os : Os) (started : os.Started) (H : Type) (enc : TypeId × Value → H) :
    ReturnsInHanded {} Try.checked os 11 .any (Rows.maskDualitySpec.pre6 enc Try.prog Try.f11 Rows.maskDualityRow.domain false) (Rows.maskDualitySpec.post enc Try.prog Try.f11 false true false false) := by
  refine returnsInHanded_of_change (C := Try.checked) Try.own started (by kernel_rfl) Try.func11
    (ChangeSpec.witness6 (enc := enc) (C := Try.checked) false ⟨#[], #[.agg #[.int .i64 0, .int .i64 0, .int .i64 0, .int .i64 0, .slice none 0 0], .agg #[.int .u8 0, .int .u8 0]], []⟩ 8 (by kernel_rfl) (by kernel_rfl) (by kernel_rfl) (by kernel_rfl)) ?_
  intro W base args ds gs before hval0 hW hcnd _
  have hval : ∀ (j : Nat) t v, Try.f11.params[j]? = some t → args[j]? = some v → Value.okWide Try.prog W .any base t v := hval0
  have hW' := hW
  obtain ⟨p, q, hA0, hV, rfl, hfz, hnd⟩ := hW
  have hA : DataW.TrodAll enc Try.prog W 0 (fun _ => true) true Try.f11.params.toList args.toList ds p := hA0
  rw [Try.params11] at hA hval
  obtain ⟨v0, vs0, d0, ds0, p0, q0, hargs, rfl, rfl, h0, r0⟩ := trodAll_cons hA
  obtain ⟨v1, vs1, d1, ds1, p1, q1, rfl, rfl, rfl, h1, r1⟩ := trodAll_cons r0
  obtain ⟨rfl, rfl, rfl⟩ := trodAll_nil r1
  obtain rfl : args = #[v0, v1] := by cases args; simp_all
  obtain ⟨b0, rfl, ho0⟩ := openMk (hval 0 29 v0 rfl rfl) h0
  obtain ⟨l1, hl1, rfl, hw1⟩ := open_arr Try.underlying54 Try.underlying5 (by kernel_rfl) (by kernel_rfl) (hval 1 54 v1 rfl rfl) h1
  obtain ⟨x10, x11, rfl⟩ := len2 hl1
  refine (walk_MaskDuality b0 x10 x11 W ho0 (bounds_u8 (hw1 x10 (by simp))) (bounds_u8 (hw1 x11 (by simp)))).mono fun e W' ⟨he, hb⟩ => ?_
  subst he
  exact ⟨_, rfl, law_post (tb := 4) Try.laidOut (by kernel_rfl) hW' rfl rfl Try.underlying4 rfl rfl rfl hb⟩

theorem MaskDuality_holds : Rows.MaskDualitySaid :=
  OpenClaim.holds_of_wide 11 Try.f11 rfl rfl rfl rfl rfl rfl rfl ⟨rfl, rfl, rfl, rfl, rfl⟩ rfl rfl rfl rfl rfl (by kernel_rfl) Try.func11 (by kernel_rfl)
    (of_decide_eq_true (by kernel_rfl)) (by unfold Func.isWrapper; first | (rw [if_pos (by decide +kernel)]; kernel_rfl) | (rw [if_neg (by decide +kernel)]; exact ⟨rfl, rfl⟩))
    (fun os started H enc _ => lifted_MaskDuality os started H enc)
#print axioms MaskDuality_holds
end Go.Proofs.Ytndablijjkchjaa
