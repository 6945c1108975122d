/- MaskDistance: for every mask and point the law grisaillelaw21.MaskDistance returns true. No conditions. -/
import Derived.Test.YtndablijjkchjaaDt4
import Derived.Test.YtndablijjkchjaaEx21
import Derived.Test.YtndablijjkchjaaOpenM
import Derived.Test.YtndablijjkchjaaList4
namespace Go.Proofs.Ytndablijjkchjaa
open Go.ChangeShapes Go.WideShapes Go.ChangeAt Go.RowKit
set_option linter.unusedSimpArgs false
set_option linter.unusedVariables false

set_option maxRecDepth 100000 in
set_option maxHeartbeats 6400000 in
theorem walk_MaskDistance (b : Mk) (x y : Int) (w : World) (hb : b.ok w) :
    Calls Try.prog 10 #[.agg #[.int .i64 b.r.x0, .int .i64 b.r.y0, .int .i64 b.r.x1, .int .i64 b.r.y1, .slice b.A b.n b.c], .int .i64 x, .int .i64 y] w fun e w' => e = .returned (.bool true) ∧ Below w.heap.size w w' := by
  have HB := Lib.hid hb
  clear hb
  cases h1 : decide ((300 : Int) < (b.n : Int)) with
  | true =>
    go_enter Try.func10, Try.ntmps10
    go_wp2_with fail
    refine (ex_any _).mono ?_
    rintro e w1 ⟨rfl, hb1⟩
    go_wp2
    go_ret
    exact ⟨rfl, (by repeat (first | (with_reducible exact Below.refl _ _) | (with_reducible refine balloc ?_ _) | (with_reducible refine Below.drew ?_) | (with_reducible refine bdrewN ?_ _) | ((with_reducible refine bset ?_ ?_ _); rotate_left; focus (first | (with_reducible exact Nat.le_refl _) | (simp; done) | (simp; omega) | omega)) | (with_reducible refine bstep (by with_reducible assumption) ?_)))⟩
  | false =>
    have l1 := of_decide_eq_false h1
    cases h2 : mkValid b.r b.l with
    | false =>
      have Hvb := Lib.hid h2
      clear h2
      go_enter Try.func10, Try.ntmps10
      go_wp2_with fail
      refine (rmvalid_any b.r b.A b.n b.c b.l _ (HB.out.rd.below (by repeat (first | (with_reducible exact Below.refl _ _) | (with_reducible refine balloc ?_ _) | (with_reducible refine Below.drew ?_) | (with_reducible refine bdrewN ?_ _) | ((with_reducible refine bset ?_ ?_ _); rotate_left; focus (first | (with_reducible exact Nat.le_refl _) | (simp; done) | (simp; omega) | omega)) | (with_reducible refine bstep (by with_reducible assumption) ?_)))) HB.out.ln (by omega) false Hvb).mono ?_
      rintro e w1 ⟨rfl, hb1⟩
      go_wp2_with fail
      refine (ex_any _).mono ?_
      rintro e w2 ⟨rfl, hb2⟩
      go_wp2
      go_ret
      exact ⟨rfl, (by repeat (first | (with_reducible exact Below.refl _ _) | (with_reducible refine balloc ?_ _) | (with_reducible refine Below.drew ?_) | (with_reducible refine bdrewN ?_ _) | ((with_reducible refine bset ?_ ?_ _); rotate_left; focus (first | (with_reducible exact Nat.le_refl _) | (simp; done) | (simp; omega) | omega)) | (with_reducible refine bstep (by with_reducible assumption) ?_)))⟩
    | true =>
      have Hvb := Lib.hid h2
      clear h2
      cases h3 : containsB b.r x y with
      | false =>
        have Hcc : Hid (containsB ⟨b.r.x0, b.r.y0, b.r.x1, b.r.y1⟩ x y = false) := h3
        clear h3
        go_enter Try.func10, Try.ntmps10
        go_wp2_with fail
        refine (rmvalid_any b.r b.A b.n b.c b.l _ (HB.out.rd.below (by repeat (first | (with_reducible exact Below.refl _ _) | (with_reducible refine balloc ?_ _) | (with_reducible refine Below.drew ?_) | (with_reducible refine bdrewN ?_ _) | ((with_reducible refine bset ?_ ?_ _); rotate_left; focus (first | (with_reducible exact Nat.le_refl _) | (simp; done) | (simp; omega) | omega)) | (with_reducible refine bstep (by with_reducible assumption) ?_)))) HB.out.ln (by omega) true Hvb).mono ?_
        rintro e w1 ⟨rfl, hb1⟩
        have kA1 : Bk w1 (w.heap.size) 29 #[.int .i64 b.r.x0, .int .i64 b.r.y0, .int .i64 b.r.x1, .int .i64 b.r.y1, .slice b.A b.n b.c] := (by repeat (first | (with_reducible assumption) | ((with_reducible refine Bk.new _ _ _ ?_); first | (with_reducible rfl) | (simp; done)) | (with_reducible refine Bk.alloc ?_ _) | (with_reducible refine Bk.drew ?_) | (with_reducible refine Bk.drewN ?_ _) | ((with_reducible refine Bk.far ?_ ?_ _); rotate_left; focus (first | (simp; done) | (simp; omega))) | (with_reducible refine Bk.below ?_ (by with_reducible assumption)))); obtain ⟨kcA1, kfA1, kaA1, kgA1, klA1⟩ := kA1.rules
        go_wp2_with fail
        refine (rcontains_q _ _ _ _ _ _ false Hcc _).mono ?_
        rintro e w2 ⟨rfl, hb2⟩
        clear kcA1 kfA1 kaA1 kgA1
        go_wp2_with fail
        refine (ex_any _).mono ?_
        rintro e w3 ⟨rfl, hb3⟩
        go_wp2
        go_ret
        exact ⟨rfl, (by repeat (first | (with_reducible exact Below.refl _ _) | (with_reducible refine balloc ?_ _) | (with_reducible refine Below.drew ?_) | (with_reducible refine bdrewN ?_ _) | ((with_reducible refine bset ?_ ?_ _); rotate_left; focus (first | (with_reducible exact Nat.le_refl _) | (simp; done) | (simp; omega) | omega)) | (with_reducible refine bstep (by with_reducible assumption) ?_)))⟩
      | true =>
        have Hcc : Hid (containsB ⟨b.r.x0, b.r.y0, b.r.x1, b.r.y1⟩ x y = true) := h3
        have hv : vMk b = true := Hvb.out
        obtain ⟨hcf, hcx0, hcx1, hcy0, hcy1⟩ := contains_true h3
        have hcfb := (emptyB_iff _).1 hcf
        have hx : -4096 ≤ x ∧ x < 4096 := by omega
        have hy : -4096 ≤ y ∧ y < 4096 := by omega
        obtain ⟨D, HDD⟩ : ∃ u, Hid (dtL b = u) := ⟨_, rfl⟩
        have HnD : Hid (D.length = b.n) := by unfold Hid; rw [← HDD.out, (dtL_ok hv HB.out.byte).len, ← (grid_dim hv).1]; exact HB.out.ln
        have HDB : Hid (∀ i j, 0 ≤ atV b.r D i j ∧ atV b.r D i j ≤ 255) := by unfold Hid; intro i j; rw [← HDD.out]; exact atV_byte (dtL_ok hv HB.out.byte).byte i j
        obtain ⟨p, Hp⟩ : ∃ p, Hid (atV b.r D x y = p) := ⟨_, rfl⟩
        obtain ⟨q, Hq⟩ : ∃ p, Hid (atV b.r b.l x y = p) := ⟨_, rfl⟩
        have hpb := HDB.out x y
        rw [Hp.out] at hpb
        have hz : (p = 0 ↔ q = 0) := by rw [← Hp.out, ← Hq.out, ← HDD.out]; exact dtL_zero hv HB.out.byte h3
        have HLIP : Hid (∀ i j, containsB b.r i j = true → (-1 ≤ i - x ∧ i - x ≤ 1 ∧ -1 ≤ j - y ∧ j - y ≤ 1) → atV b.r D i j - p ≤ 1 ∧ p - atV b.r D i j ≤ 1) := by
          unfold Hid; intro i j hc hd
          have g1 := dtL_lip hv HB.out.byte h3 hc hd
          have g2 := dtL_lip hv HB.out.byte hc h3 (by omega)
          rw [HDD.out, Hp.out] at g1 g2
          omega
        have HD : Hid (∀ (W : World), b.ok W → Calls Try.prog 41 #[.agg #[.int .i64 b.r.x0, .int .i64 b.r.y0, .int .i64 b.r.x1, .int .i64 b.r.y1, .slice b.A b.n b.c]] W (RetME b.r D 0 W)) := fun W h => by
          have := dt_any b W h (by omega)
          rw [HDD.out, show mpR b = b.r by unfold mpR; rw [hv]; rfl, show mpE b = 0 by unfold mpE; rw [hv]; rfl] at this
          exact this
        obtain ⟨z, Hz1⟩ : ∃ z, (p == 0) = z := ⟨_, rfl⟩
        have Hz2 : (q == 0) = z := by rw [← Hz1, Bool.eq_iff_iff]; simp only [beq_iff_eq]; exact hz.symm
        have Hz3 : (z != z) = false := by simp
        have hneq := fun w => (neq_rect b.r.x0 b.r.y0 b.r.x1 b.r.y1 b.r.x0 b.r.y0 b.r.x1 b.r.y1 w).trans (by rw [show eqB ⟨b.r.x0, b.r.y0, b.r.x1, b.r.y1⟩ ⟨b.r.x0, b.r.y0, b.r.x1, b.r.y1⟩ = true from eqB_refl b.r])
        clear h3 hv hz hcfb hcf hcx0 hcx1 hcy0 hcy1
        go_enter Try.func10, Try.ntmps10
        go_wp2_with fail
        refine (rmvalid_any b.r b.A b.n b.c b.l _ (HB.out.rd.below (by repeat (first | (with_reducible exact Below.refl _ _) | (with_reducible refine balloc ?_ _) | (with_reducible refine Below.drew ?_) | (with_reducible refine bdrewN ?_ _) | ((with_reducible refine bset ?_ ?_ _); rotate_left; focus (first | (with_reducible exact Nat.le_refl _) | (simp; done) | (simp; omega) | omega)) | (with_reducible refine bstep (by with_reducible assumption) ?_)))) HB.out.ln (by omega) true Hvb).mono ?_
        rintro e w1 ⟨rfl, hb1⟩
        have kA1 : Bk w1 (w.heap.size) 29 #[.int .i64 b.r.x0, .int .i64 b.r.y0, .int .i64 b.r.x1, .int .i64 b.r.y1, .slice b.A b.n b.c] := (by repeat (first | (with_reducible assumption) | ((with_reducible refine Bk.new _ _ _ ?_); first | (with_reducible rfl) | (simp; done)) | (with_reducible refine Bk.alloc ?_ _) | (with_reducible refine Bk.drew ?_) | (with_reducible refine Bk.drewN ?_ _) | ((with_reducible refine Bk.far ?_ ?_ _); rotate_left; focus (first | (simp; done) | (simp; omega))) | (with_reducible refine Bk.below ?_ (by with_reducible assumption)))); obtain ⟨kcA1, kfA1, kaA1, kgA1, klA1⟩ := kA1.rules
        go_wp2_with fail
        refine (rcontains_q _ _ _ _ _ _ true Hcc _).mono ?_
        rintro e w2 ⟨rfl, hb2⟩
        clear kcA1 kfA1 kaA1 kgA1
        have kA2 : Bk w2 (w.heap.size) 29 #[.int .i64 b.r.x0, .int .i64 b.r.y0, .int .i64 b.r.x1, .int .i64 b.r.y1, .slice b.A b.n b.c] := (by repeat (first | (with_reducible assumption) | ((with_reducible refine Bk.new _ _ _ ?_); first | (with_reducible rfl) | (simp; done)) | (with_reducible refine Bk.alloc ?_ _) | (with_reducible refine Bk.drew ?_) | (with_reducible refine Bk.drewN ?_ _) | ((with_reducible refine Bk.far ?_ ?_ _); rotate_left; focus (first | (simp; done) | (simp; omega))) | (with_reducible refine Bk.below ?_ (by with_reducible assumption)))); obtain ⟨kcA2, kfA2, kaA2, kgA2, klA2⟩ := kA2.rules
        go_wp2_with fail
        refine (HD.out _ (HB.out.below (by repeat (first | (with_reducible exact Below.refl _ _) | (with_reducible refine balloc ?_ _) | (with_reducible refine Below.drew ?_) | (with_reducible refine bdrewN ?_ _) | ((with_reducible refine bset ?_ ?_ _); rotate_left; focus (first | (with_reducible exact Nat.le_refl _) | (simp; done) | (simp; omega) | omega)) | (with_reducible refine bstep (by with_reducible assumption) ?_))))).mono ?_
        rintro e w3 ⟨v3, rfl, ho3, hb3⟩
        clear kcA2 kfA2 kaA2 kgA2
        have kA3 : Bk w3 (w.heap.size) 29 #[.int .i64 b.r.x0, .int .i64 b.r.y0, .int .i64 b.r.x1, .int .i64 b.r.y1, .slice b.A b.n b.c] := (by repeat (first | (with_reducible assumption) | ((with_reducible refine Bk.new _ _ _ ?_); first | (with_reducible rfl) | (simp; done)) | (with_reducible refine Bk.alloc ?_ _) | (with_reducible refine Bk.drew ?_) | (with_reducible refine Bk.drewN ?_ _) | ((with_reducible refine Bk.far ?_ ?_ _); rotate_left; focus (first | (simp; done) | (simp; omega))) | (with_reducible refine Bk.below ?_ (by with_reducible assumption)))); obtain ⟨kcA3, kfA3, kaA3, kgA3, klA3⟩ := kA3.rules
        obtain ⟨A3, c3, hv3, hr3, _⟩ := ho3.form encB_len
        rw [HnD.out] at hv3
        subst hv3
        have HR3 := Lib.hid hr3
        clear hr3
        clear ho3
        
        go_wp2_with fail
        refine (rmAt_any b.r A3 b.n c3 D _ _ _ (HR3.out.below (by repeat (first | (with_reducible exact Below.refl _ _) | (with_reducible refine balloc ?_ _) | (with_reducible refine Below.drew ?_) | (with_reducible refine bdrewN ?_ _) | ((with_reducible refine bset ?_ ?_ _); rotate_left; focus (first | (with_reducible exact Nat.le_refl _) | (simp; done) | (simp; omega) | omega)) | (with_reducible refine bstep (by with_reducible assumption) ?_)))) HnD.out (by omega) p Hp).mono ?_
        rintro e w4 ⟨rfl, hb4⟩
        clear kcA3 kfA3 kaA3 kgA3
        have kA4 : Bk w4 (w.heap.size) 29 #[.int .i64 b.r.x0, .int .i64 b.r.y0, .int .i64 b.r.x1, .int .i64 b.r.y1, .slice b.A b.n b.c] := (by repeat (first | (with_reducible assumption) | ((with_reducible refine Bk.new _ _ _ ?_); first | (with_reducible rfl) | (simp; done)) | (with_reducible refine Bk.alloc ?_ _) | (with_reducible refine Bk.drew ?_) | (with_reducible refine Bk.drewN ?_ _) | ((with_reducible refine Bk.far ?_ ?_ _); rotate_left; focus (first | (simp; done) | (simp; omega))) | (with_reducible refine Bk.below ?_ (by with_reducible assumption)))); obtain ⟨kcA4, kfA4, kaA4, kgA4, klA4⟩ := kA4.rules
        go_wp2_with fail
        refine (rmAt_any b.r b.A b.n b.c b.l _ _ _ (HB.out.rd.below (by repeat (first | (with_reducible exact Below.refl _ _) | (with_reducible refine balloc ?_ _) | (with_reducible refine Below.drew ?_) | (with_reducible refine bdrewN ?_ _) | ((with_reducible refine bset ?_ ?_ _); rotate_left; focus (first | (with_reducible exact Nat.le_refl _) | (simp; done) | (simp; omega) | omega)) | (with_reducible refine bstep (by with_reducible assumption) ?_)))) HB.out.ln (by omega) q Hq).mono ?_
        rintro e w5 ⟨rfl, hb5⟩
        clear kcA4 kfA4 kaA4 kgA4
        have kA : Bk w5 (w.heap.size) 29 #[.int .i64 b.r.x0, .int .i64 b.r.y0, .int .i64 b.r.x1, .int .i64 b.r.y1, .slice b.A b.n b.c] := (by repeat (first | (with_reducible assumption) | ((with_reducible refine Bk.new _ _ _ ?_); first | (with_reducible rfl) | (simp; done)) | (with_reducible refine Bk.alloc ?_ _) | (with_reducible refine Bk.drew ?_) | (with_reducible refine Bk.drewN ?_ _) | ((with_reducible refine Bk.far ?_ ?_ _); rotate_left; focus (first | (simp; done) | (simp; omega))) | (with_reducible refine Bk.below ?_ (by with_reducible assumption))))
        have kE : Bk w5 (w3.heap.size) 29 #[.int .i64 b.r.x0, .int .i64 b.r.y0, .int .i64 b.r.x1, .int .i64 b.r.y1, .slice A3 b.n c3] := (by repeat (first | (with_reducible assumption) | ((with_reducible refine Bk.new _ _ _ ?_); first | (with_reducible rfl) | (simp; done)) | (with_reducible refine Bk.alloc ?_ _) | (with_reducible refine Bk.drew ?_) | (with_reducible refine Bk.drewN ?_ _) | ((with_reducible refine Bk.far ?_ ?_ _); rotate_left; focus (first | (simp; done) | (simp; omega))) | (with_reducible refine Bk.below ?_ (by with_reducible assumption))))
        have hrE : RdL encB 1 w5 A3 D := HR3.out.below (by repeat (first | (with_reducible exact Below.refl _ _) | (with_reducible refine balloc ?_ _) | (with_reducible refine Below.drew ?_) | (with_reducible refine bdrewN ?_ _) | ((with_reducible refine bset ?_ ?_ _); rotate_left; focus (first | (with_reducible exact Nat.le_refl _) | (simp; done) | (simp; omega) | omega)) | (with_reducible refine bstep (by with_reducible assumption) ?_)))
        have HXE := Lib.hid hrE
        have hBW : Below w.heap.size w w5 := (by repeat (first | (with_reducible exact Below.refl _ _) | (with_reducible refine balloc ?_ _) | (with_reducible refine Below.drew ?_) | (with_reducible refine bdrewN ?_ _) | ((with_reducible refine bset ?_ ?_ _); rotate_left; focus (first | (with_reducible exact Nat.le_refl _) | (simp; done) | (simp; omega) | omega)) | (with_reducible refine bstep (by with_reducible assumption) ?_)))
        go_wp2_with fail
        go_loopw [10] (fun i wr => ∃ (j : Nat), j ≤ 3 ∧ i = .int .i64 (y - 1 + j) ∧ Below w5.heap.size w5 wr) (fun i _ => (y + 2 - intOf i).toNat)
        case atStart => exact ⟨0, by omega, by simp, Below.refl _ _⟩
        case round =>
          obtain ⟨j, hj, rfl, hbw⟩ := hrel
          have jA := kA.below hbw
          obtain ⟨kcA, kfA, kaA, kgA, klA⟩ := jA.rules
          have jE := kE.below hbw
          obtain ⟨kcE, kfE, kaE, kgE, klE⟩ := jE.rules
          by_cases hlt : j < 3
          · have c0 : y - 1 + (j : Int) ≤ y + 1 := by omega
            go_wp2_with fail
            clear kcA kfA kaA kgA kcE kfE kaE kgE
            go_loopw [11] (fun i wr => ∃ (k : Nat), k ≤ 3 ∧ i = .int .i64 (x - 1 + k) ∧ Below w5.heap.size w5 wr) (fun i _ => (x + 2 - intOf i).toNat)
            case atStart => exact ⟨0, by omega, by simp, hbw⟩
            case round =>
              obtain ⟨k, hk, rfl, hbw⟩ := hrel
              have jA := kA.below hbw
              obtain ⟨kcA, kfA, kaA, kgA, klA⟩ := jA.rules
              have jE := kE.below hbw
              obtain ⟨kcE, kfE, kaE, kgE, klE⟩ := jE.rules
              by_cases hlx : k < 3
              · have c1 : x - 1 + (k : Int) ≤ x + 1 := by omega
                cases hc2 : containsB b.r (x - 1 + (k : Int)) (y - 1 + (j : Int)) with
                | false =>
                  have Hc2 : Hid (containsB ⟨b.r.x0, b.r.y0, b.r.x1, b.r.y1⟩ (x - 1 + (k : Int)) (y - 1 + (j : Int)) = false) := hc2
                  obtain ⟨t, Ht⟩ : ∃ p, Hid (atV b.r D (x - 1 + (k : Int)) (y - 1 + (j : Int)) = p) := ⟨_, rfl⟩
                  have htb := HDB.out (x - 1 + (k : Int)) (y - 1 + (j : Int))
                  rw [Ht.out] at htb
                  clear hc2
                  go_wp2_with fail
                  refine (rmAt_any b.r A3 b.n c3 D _ _ _ (HXE.out.below (by repeat (first | (with_reducible exact Below.refl _ _) | (with_reducible refine balloc ?_ _) | (with_reducible refine Below.drew ?_) | (with_reducible refine bdrewN ?_ _) | ((with_reducible refine bset ?_ ?_ _); rotate_left; focus (first | (with_reducible exact Nat.le_refl _) | (simp; done) | (simp; omega) | omega)) | (with_reducible refine bstep (by with_reducible assumption) ?_)))) HnD.out (by omega) t Ht).mono ?_
                  rintro e w21 ⟨rfl, hb21⟩
                  clear kcA kfA kaA kgA kcE kfE kaE kgE
                  have kA21 : Bk w21 (w.heap.size) 29 #[.int .i64 b.r.x0, .int .i64 b.r.y0, .int .i64 b.r.x1, .int .i64 b.r.y1, .slice b.A b.n b.c] := (by repeat (first | (with_reducible assumption) | ((with_reducible refine Bk.new _ _ _ ?_); first | (with_reducible rfl) | (simp; done)) | (with_reducible refine Bk.alloc ?_ _) | (with_reducible refine Bk.drew ?_) | (with_reducible refine Bk.drewN ?_ _) | ((with_reducible refine Bk.far ?_ ?_ _); rotate_left; focus (first | (simp; done) | (simp; omega))) | (with_reducible refine Bk.below ?_ (by with_reducible assumption)))); obtain ⟨kcA21, kfA21, kaA21, kgA21, klA21⟩ := kA21.rules
                  go_wp2_with fail
                  refine (rcontains_q _ _ _ _ _ _ false Hc2 _).mono ?_
                  rintro e w22 ⟨rfl, hb22⟩
                  clear kcA21 kfA21 kaA21 kgA21
                  have hBE : Below w5.heap.size w5 w22 := (by repeat (first | (with_reducible exact Below.refl _ _) | (with_reducible refine balloc ?_ _) | (with_reducible refine Below.drew ?_) | (with_reducible refine bdrewN ?_ _) | ((with_reducible refine bset ?_ ?_ _); rotate_left; focus (first | (with_reducible exact Nat.le_refl _) | (simp; done) | (simp; omega) | omega)) | (with_reducible refine bstep (by with_reducible assumption) ?_)))
                  go_wp2
                  go_roundw
                  case rel => exact ⟨k + 1, by omega, by rw [show x - 1 + (k : Int) + 1 = x - 1 + ((k + 1 : Nat) : Int) by omega], hBE⟩
                  case measure => simp [intOf]; omega
                | true =>
                  have Hc2 : Hid (containsB ⟨b.r.x0, b.r.y0, b.r.x1, b.r.y1⟩ (x - 1 + (k : Int)) (y - 1 + (j : Int)) = true) := hc2
                  obtain ⟨t, Ht⟩ : ∃ p, Hid (atV b.r D (x - 1 + (k : Int)) (y - 1 + (j : Int)) = p) := ⟨_, rfl⟩
                  have htb := HDB.out (x - 1 + (k : Int)) (y - 1 + (j : Int))
                  rw [Ht.out] at htb
                  have hl := HLIP.out (x - 1 + (k : Int)) (y - 1 + (j : Int)) hc2 (by omega)
                  rw [Ht.out] at hl
                  obtain ⟨hl1, hl2⟩ := hl
                  clear hc2
                  go_wp2_with fail
                  refine (rmAt_any b.r A3 b.n c3 D _ _ _ (HXE.out.below (by repeat (first | (with_reducible exact Below.refl _ _) | (with_reducible refine balloc ?_ _) | (with_reducible refine Below.drew ?_) | (with_reducible refine bdrewN ?_ _) | ((with_reducible refine bset ?_ ?_ _); rotate_left; focus (first | (with_reducible exact Nat.le_refl _) | (simp; done) | (simp; omega) | omega)) | (with_reducible refine bstep (by with_reducible assumption) ?_)))) HnD.out (by omega) t Ht).mono ?_
                  rintro e w21 ⟨rfl, hb21⟩
                  clear kcA kfA kaA kgA kcE kfE kaE kgE
                  have kA21 : Bk w21 (w.heap.size) 29 #[.int .i64 b.r.x0, .int .i64 b.r.y0, .int .i64 b.r.x1, .int .i64 b.r.y1, .slice b.A b.n b.c] := (by repeat (first | (with_reducible assumption) | ((with_reducible refine Bk.new _ _ _ ?_); first | (with_reducible rfl) | (simp; done)) | (with_reducible refine Bk.alloc ?_ _) | (with_reducible refine Bk.drew ?_) | (with_reducible refine Bk.drewN ?_ _) | ((with_reducible refine Bk.far ?_ ?_ _); rotate_left; focus (first | (simp; done) | (simp; omega))) | (with_reducible refine Bk.below ?_ (by with_reducible assumption)))); obtain ⟨kcA21, kfA21, kaA21, kgA21, klA21⟩ := kA21.rules
                  go_wp2_with fail
                  refine (rcontains_q _ _ _ _ _ _ true Hc2 _).mono ?_
                  rintro e w22 ⟨rfl, hb22⟩
                  clear kcA21 kfA21 kaA21 kgA21
                  have hBE : Below w5.heap.size w5 w22 := (by repeat (first | (with_reducible exact Below.refl _ _) | (with_reducible refine balloc ?_ _) | (with_reducible refine Below.drew ?_) | (with_reducible refine bdrewN ?_ _) | ((with_reducible refine bset ?_ ?_ _); rotate_left; focus (first | (with_reducible exact Nat.le_refl _) | (simp; done) | (simp; omega) | omega)) | (with_reducible refine bstep (by with_reducible assumption) ?_)))
                  go_wp2
                  go_roundw
                  case rel => exact ⟨k + 1, by omega, by rw [show x - 1 + (k : Int) + 1 = x - 1 + ((k + 1 : Nat) : Int) by omega], hBE⟩
                  case measure => simp [intOf]; omega
              · obtain rfl : 3 = k := by omega
                have c1 : ¬ (x - 1 + ((3 : Nat) : Int) ≤ x + 1) := by omega
                go_wp2
                go_roundw
                case rel => exact ⟨j + 1, by omega, by rw [show y - 1 + (j : Int) + 1 = y - 1 + ((j + 1 : Nat) : Int) by omega], hbw⟩
                case measure => simp [intOf]; omega
          · obtain rfl : 3 = j := by omega
            have c0 : ¬ (y - 1 + ((3 : Nat) : Int) ≤ y + 1) := by omega
            clear kcA kfA kaA kgA kcE kfE kaE kgE
            go_wp2_with fail
            refine (ex_any _).mono ?_
            rintro e wz ⟨rfl, hbz⟩
            have hBE : Below w.heap.size w wz := bstep hbz (bstep hbw hBW)
            go_wp2
            go_ret
            exact ⟨rfl, hBE⟩

set_option maxRecDepth 100000 in
theorem lifted_MaskDistance (os : Os) (started : os.Started) (H : Type) (enc : TypeId × Value → H) :
    ReturnsInHanded {} Try.checked os 10 .any (Rows.maskDistanceSpec.pre6 enc Try.prog Try.f10 Rows.maskDistanceRow.domain false) (Rows.maskDistanceSpec.post enc Try.prog Try.f10 false true false false) := by
  refine returnsInHanded_of_change (C := Try.checked) Try.own started (by kernel_rfl) Try.func10
    (ChangeSpec.witness6 (enc := enc) (C := Try.checked) false ⟨#[], #[.agg #[.int .i64 0, .int .i64 0, .int .i64 0, .int .i64 0, .slice none 0 0], .int .i64 0, .int .i64 0], []⟩ 8 (by kernel_rfl) (by kernel_rfl) (by kernel_rfl) (by kernel_rfl)) ?_
  intro W base args ds gs before hval0 hW hcnd _
  have hval : ∀ (j : Nat) t v, Try.f10.params[j]? = some t → args[j]? = some v → Value.okWide Try.prog W .any base t v := hval0
  have hW' := hW
  obtain ⟨p, q, hA0, hV, rfl, hfz, hnd⟩ := hW
  have hA : DataW.TrodAll enc Try.prog W 0 (fun _ => true) true Try.f10.params.toList args.toList ds p := hA0
  rw [Try.params10] at hA hval
  obtain ⟨v0, vs0, d0, ds0, p0, q0, hargs, rfl, rfl, h0, r0⟩ := trodAll_cons hA
  obtain ⟨v1, vs1, d1, ds1, p1, q1, rfl, rfl, rfl, h1, r1⟩ := trodAll_cons r0
  obtain ⟨v2, vs2, d2, ds2, p2, q2, rfl, rfl, rfl, h2, r2⟩ := trodAll_cons r1
  obtain ⟨rfl, rfl, rfl⟩ := trodAll_nil r2
  obtain rfl : args = #[v0, v1, v2] := by cases args; simp_all
  obtain ⟨b0, rfl, ho0⟩ := openMk (hval 0 29 v0 rfl rfl) h0
  obtain ⟨x1, rfl, _, _, g1⟩ := open_int Try.underlying3 (hval 1 3 v1 rfl rfl) h1
  obtain ⟨x2, rfl, _, _, g2⟩ := open_int Try.underlying3 (hval 2 3 v2 rfl rfl) h2
  refine (walk_MaskDistance b0 x1 x2 W ho0).mono fun e W' ⟨he, hb⟩ => ?_
  subst he
  exact ⟨_, rfl, law_post (tb := 4) Try.laidOut (by kernel_rfl) hW' rfl rfl Try.underlying4 rfl rfl rfl hb⟩

theorem MaskDistance_holds : Rows.MaskDistanceSaid :=
  OpenClaim.holds_of_wide 10 Try.f10 rfl rfl rfl rfl rfl rfl rfl ⟨rfl, rfl, rfl, rfl, rfl⟩ rfl rfl rfl rfl rfl (by kernel_rfl) Try.func10 (by kernel_rfl)
    (of_decide_eq_true (by kernel_rfl)) (by unfold Func.isWrapper; first | (rw [if_pos (by decide +kernel)]; kernel_rfl) | (rw [if_neg (by decide +kernel)]; exact ⟨rfl, rfl⟩))
    (fun os started H enc _ => lifted_MaskDistance os started H enc)
#print axioms MaskDistance_holds
end Go.Proofs.Ytndablijjkchjaa
