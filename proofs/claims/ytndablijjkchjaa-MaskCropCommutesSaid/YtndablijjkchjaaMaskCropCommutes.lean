/- MaskCropCommutes: for all masks and every rectangle the law grisaillelaw21.MaskCropCommutes returns true. No conditions. -/
import Derived.Test.YtndablijjkchjaaMkQ
import Derived.Test.YtndablijjkchjaaEx21
import Derived.Test.YtndablijjkchjaaOpenM
import Derived.Test.YtndablijjkchjaaList4
namespace Go.Proofs.Ytndablijjkchjaa
open Go.ChangeShapes Go.WideShapes Go.ChangeAt Go.RowKit
set_option linter.unusedSimpArgs false
set_option linter.unusedVariables false

theorem mul_len (l : List Mk) : (mulL l).length ≤ 67108864 := by
  unfold mulL
  cases h : l.all vMk with
  | false => simp
  | true =>
    rw [if_pos rfl]
    have h3 := pix_len (mulG l) (mulR0 l)
    rw [mulR0_cn h] at h3
    have := (area_bd (mulR0 l)).2
    omega
theorem unl_len (a b : Mk) : (unML a b).length ≤ 67108864 := by
  unfold unML
  split
  · have h3 := pix_len (unG a b) (unionR a.r b.r)
    rw [union_cn] at h3
    have := (area_bd (unionR a.r b.r)).2
    omega
  · simp
theorem pix_bytes {g : Int → Int → Int} {r : Rc} (h : ∀ x y, 0 ≤ g x y ∧ g x y ≤ 255) : bytesB (pixL g r) := fun p hp => by
  obtain ⟨x, y, _, _, _, _, rfl⟩ := pix_mem hp
  exact h x y
theorem mul2_bytes {a b : Mk} (ha : bytesB a.l) (hb : bytesB b.l) : bytesB (mulL [a, b]) := by
  rw [mulL_two]
  split
  · exact pix_bytes fun x y => by
      have h1 := atL_byte (r := a.r) ha x y
      have h2 := atL_byte (r := b.r) hb x y
      exact ⟨(mn8_bd h1.1 h1.2 h2.1 h2.2).1, (mn8_bd h1.1 h1.2 h2.1 h2.2).2.1⟩
  · intro x hx; simp at hx
theorem cut_len (b : Mk) (r : Rc) : (pixL (atL 0 b.r b.l) (interR b.r r)).length ≤ 67108864 := by
  have h3 := pix_len (atL 0 b.r b.l) (interR b.r r)
  rw [inter_cn] at h3
  have := (area_bd (interR b.r r)).2
  omega
set_option maxRecDepth 100000 in
set_option maxHeartbeats 6400000 in
theorem walk_MaskCropCommutes (a b : Mk) (r : Rc) (w : World) (ha : a.ok w) (hb : b.ok w) :
    Calls Try.prog 6 #[.agg #[.int .i64 a.r.x0, .int .i64 a.r.y0, .int .i64 a.r.x1, .int .i64 a.r.y1, .slice a.A a.n a.c], .agg #[.int .i64 b.r.x0, .int .i64 b.r.y0, .int .i64 b.r.x1, .int .i64 b.r.y1, .slice b.A b.n b.c], .agg #[.int .i64 r.x0, .int .i64 r.y0, .int .i64 r.x1, .int .i64 r.y1]] w fun e w' => e = .returned (.bool true) ∧ Below w.heap.size w w' := by
  have HA := Lib.hid ha
  have HB := Lib.hid hb
  clear ha hb
  cases h1 : decide (a.n ≤ 3000) with
  | false =>
    have HSa := Lib.hid h1
    clear h1
    go_enter Try.func6, Try.ntmps6
    go_wp2_with fail
    refine (small_any a.r a.A a.n a.c _ false HSa).mono ?_
    rintro e w1 ⟨rfl, hb1⟩
    go_wp2_with fail
    refine (ex_any _).mono ?_
    rintro e w2 ⟨rfl, hb2⟩
    go_wp2
    go_ret
    exact ⟨rfl, (by repeat (first | (with_reducible exact Below.refl _ _) | (with_reducible refine balloc ?_ _) | (with_reducible refine Below.drew ?_) | (with_reducible refine bdrewN ?_ _) | ((with_reducible refine bset ?_ ?_ _); rotate_left; focus (first | (with_reducible exact Nat.le_refl _) | (simp; done) | (simp; omega) | omega)) | (with_reducible refine bstep (by with_reducible assumption) ?_)))⟩
  | true =>
    have HSa := Lib.hid h1
    cases h2 : decide (b.n ≤ 3000) with
    | false =>
      have HSb := Lib.hid h2
      clear h1 h2
      go_enter Try.func6, Try.ntmps6
      go_wp2_with fail
      refine (small_any a.r a.A a.n a.c _ true HSa).mono ?_
      rintro e w1 ⟨rfl, hb1⟩
      have kB1 : Bk w1 (w.heap.size + 1) 29 #[.int .i64 b.r.x0, .int .i64 b.r.y0, .int .i64 b.r.x1, .int .i64 b.r.y1, .slice b.A b.n b.c] := (by repeat (first | (with_reducible assumption) | ((with_reducible refine Bk.new _ _ _ ?_); first | (with_reducible rfl) | (simp; done)) | (with_reducible refine Bk.alloc ?_ _) | (with_reducible refine Bk.drew ?_) | (with_reducible refine Bk.drewN ?_ _) | ((with_reducible refine Bk.far ?_ ?_ _); rotate_left; focus (first | (simp; done) | (simp; omega))) | (with_reducible refine Bk.below ?_ (by with_reducible assumption)))); obtain ⟨kcB1, kfB1, kaB1, kgB1, klB1⟩ := kB1.rules
      go_wp2_with fail
      refine (small_any b.r b.A b.n b.c _ false HSb).mono ?_
      rintro e w2 ⟨rfl, hb2⟩
      clear kcB1 kfB1 kaB1 kgB1
      go_wp2_with fail
      refine (ex_any _).mono ?_
      rintro e w3 ⟨rfl, hb3⟩
      go_wp2
      go_ret
      exact ⟨rfl, (by repeat (first | (with_reducible exact Below.refl _ _) | (with_reducible refine balloc ?_ _) | (with_reducible refine Below.drew ?_) | (with_reducible refine bdrewN ?_ _) | ((with_reducible refine bset ?_ ?_ _); rotate_left; focus (first | (with_reducible exact Nat.le_refl _) | (simp; done) | (simp; omega) | omega)) | (with_reducible refine bstep (by with_reducible assumption) ?_)))⟩
    | true =>
      have HSb := Lib.hid h2
      have l1 := of_decide_eq_true h1
      have l2 := of_decide_eq_true h2
      clear h1 h2
      cases h3 : mkValid a.r a.l with
      | false =>
        have Hva := Lib.hid h3
        clear h3
        go_enter Try.func6, Try.ntmps6
        go_wp2_with fail
        refine (small_any a.r a.A a.n a.c _ true HSa).mono ?_
        rintro e w1 ⟨rfl, hb1⟩
        have kB1 : Bk w1 (w.heap.size + 1) 29 #[.int .i64 b.r.x0, .int .i64 b.r.y0, .int .i64 b.r.x1, .int .i64 b.r.y1, .slice b.A b.n b.c] := (by repeat (first | (with_reducible assumption) | ((with_reducible refine Bk.new _ _ _ ?_); first | (with_reducible rfl) | (simp; done)) | (with_reducible refine Bk.alloc ?_ _) | (with_reducible refine Bk.drew ?_) | (with_reducible refine Bk.drewN ?_ _) | ((with_reducible refine Bk.far ?_ ?_ _); rotate_left; focus (first | (simp; done) | (simp; omega))) | (with_reducible refine Bk.below ?_ (by with_reducible assumption)))); obtain ⟨kcB1, kfB1, kaB1, kgB1, klB1⟩ := kB1.rules
        go_wp2_with fail
        refine (small_any b.r b.A b.n b.c _ true HSb).mono ?_
        rintro e w2 ⟨rfl, hb2⟩
        clear kcB1 kfB1 kaB1 kgB1
        have kA2 : Bk w2 (w.heap.size) 29 #[.int .i64 a.r.x0, .int .i64 a.r.y0, .int .i64 a.r.x1, .int .i64 a.r.y1, .slice a.A a.n a.c] := (by repeat (first | (with_reducible assumption) | ((with_reducible refine Bk.new _ _ _ ?_); first | (with_reducible rfl) | (simp; done)) | (with_reducible refine Bk.alloc ?_ _) | (with_reducible refine Bk.drew ?_) | (with_reducible refine Bk.drewN ?_ _) | ((with_reducible refine Bk.far ?_ ?_ _); rotate_left; focus (first | (simp; done) | (simp; omega))) | (with_reducible refine Bk.below ?_ (by with_reducible assumption)))); obtain ⟨kcA2, kfA2, kaA2, kgA2, klA2⟩ := kA2.rules
        go_wp2_with fail
        refine (rmvalid_any a.r a.A a.n a.c a.l _ (HA.out.rd.below (by repeat (first | (with_reducible exact Below.refl _ _) | (with_reducible refine balloc ?_ _) | (with_reducible refine Below.drew ?_) | (with_reducible refine bdrewN ?_ _) | ((with_reducible refine bset ?_ ?_ _); rotate_left; focus (first | (with_reducible exact Nat.le_refl _) | (simp; done) | (simp; omega) | omega)) | (with_reducible refine bstep (by with_reducible assumption) ?_)))) HA.out.ln (by omega) false Hva).mono ?_
        rintro e w3 ⟨rfl, hb3⟩
        clear kcA2 kfA2 kaA2 kgA2
        go_wp2_with fail
        refine (ex_any _).mono ?_
        rintro e w4 ⟨rfl, hb4⟩
        go_wp2
        go_ret
        exact ⟨rfl, (by repeat (first | (with_reducible exact Below.refl _ _) | (with_reducible refine balloc ?_ _) | (with_reducible refine Below.drew ?_) | (with_reducible refine bdrewN ?_ _) | ((with_reducible refine bset ?_ ?_ _); rotate_left; focus (first | (with_reducible exact Nat.le_refl _) | (simp; done) | (simp; omega) | omega)) | (with_reducible refine bstep (by with_reducible assumption) ?_)))⟩
      | true =>
        have Hva := Lib.hid h3
        cases h4 : mkValid b.r b.l with
        | false =>
          have Hvb := Lib.hid h4
          clear h3 h4
          go_enter Try.func6, Try.ntmps6
          go_wp2_with fail
          refine (small_any a.r a.A a.n a.c _ true HSa).mono ?_
          rintro e w1 ⟨rfl, hb1⟩
          have kB1 : Bk w1 (w.heap.size + 1) 29 #[.int .i64 b.r.x0, .int .i64 b.r.y0, .int .i64 b.r.x1, .int .i64 b.r.y1, .slice b.A b.n b.c] := (by repeat (first | (with_reducible assumption) | ((with_reducible refine Bk.new _ _ _ ?_); first | (with_reducible rfl) | (simp; done)) | (with_reducible refine Bk.alloc ?_ _) | (with_reducible refine Bk.drew ?_) | (with_reducible refine Bk.drewN ?_ _) | ((with_reducible refine Bk.far ?_ ?_ _); rotate_left; focus (first | (simp; done) | (simp; omega))) | (with_reducible refine Bk.below ?_ (by with_reducible assumption)))); obtain ⟨kcB1, kfB1, kaB1, kgB1, klB1⟩ := kB1.rules
          go_wp2_with fail
          refine (small_any b.r b.A b.n b.c _ true HSb).mono ?_
          rintro e w2 ⟨rfl, hb2⟩
          clear kcB1 kfB1 kaB1 kgB1
          have kA2 : Bk w2 (w.heap.size) 29 #[.int .i64 a.r.x0, .int .i64 a.r.y0, .int .i64 a.r.x1, .int .i64 a.r.y1, .slice a.A a.n a.c] := (by repeat (first | (with_reducible assumption) | ((with_reducible refine Bk.new _ _ _ ?_); first | (with_reducible rfl) | (simp; done)) | (with_reducible refine Bk.alloc ?_ _) | (with_reducible refine Bk.drew ?_) | (with_reducible refine Bk.drewN ?_ _) | ((with_reducible refine Bk.far ?_ ?_ _); rotate_left; focus (first | (simp; done) | (simp; omega))) | (with_reducible refine Bk.below ?_ (by with_reducible assumption)))); obtain ⟨kcA2, kfA2, kaA2, kgA2, klA2⟩ := kA2.rules
          go_wp2_with fail
          refine (rmvalid_any a.r a.A a.n a.c a.l _ (HA.out.rd.below (by repeat (first | (with_reducible exact Below.refl _ _) | (with_reducible refine balloc ?_ _) | (with_reducible refine Below.drew ?_) | (with_reducible refine bdrewN ?_ _) | ((with_reducible refine bset ?_ ?_ _); rotate_left; focus (first | (with_reducible exact Nat.le_refl _) | (simp; done) | (simp; omega) | omega)) | (with_reducible refine bstep (by with_reducible assumption) ?_)))) HA.out.ln (by omega) true Hva).mono ?_
          rintro e w3 ⟨rfl, hb3⟩
          clear kcA2 kfA2 kaA2 kgA2
          have kB3 : Bk w3 (w.heap.size + 1) 29 #[.int .i64 b.r.x0, .int .i64 b.r.y0, .int .i64 b.r.x1, .int .i64 b.r.y1, .slice b.A b.n b.c] := (by repeat (first | (with_reducible assumption) | ((with_reducible refine Bk.new _ _ _ ?_); first | (with_reducible rfl) | (simp; done)) | (with_reducible refine Bk.alloc ?_ _) | (with_reducible refine Bk.drew ?_) | (with_reducible refine Bk.drewN ?_ _) | ((with_reducible refine Bk.far ?_ ?_ _); rotate_left; focus (first | (simp; done) | (simp; omega))) | (with_reducible refine Bk.below ?_ (by with_reducible assumption)))); obtain ⟨kcB3, kfB3, kaB3, kgB3, klB3⟩ := kB3.rules
          go_wp2_with fail
          refine (rmvalid_any b.r b.A b.n b.c b.l _ (HB.out.rd.below (by repeat (first | (with_reducible exact Below.refl _ _) | (with_reducible refine balloc ?_ _) | (with_reducible refine Below.drew ?_) | (with_reducible refine bdrewN ?_ _) | ((with_reducible refine bset ?_ ?_ _); rotate_left; focus (first | (with_reducible exact Nat.le_refl _) | (simp; done) | (simp; omega) | omega)) | (with_reducible refine bstep (by with_reducible assumption) ?_)))) HB.out.ln (by omega) false Hvb).mono ?_
          rintro e w4 ⟨rfl, hb4⟩
          clear kcB3 kfB3 kaB3 kgB3
          go_wp2_with fail
          refine (ex_any _).mono ?_
          rintro e w5 ⟨rfl, hb5⟩
          go_wp2
          go_ret
          exact ⟨rfl, (by repeat (first | (with_reducible exact Below.refl _ _) | (with_reducible refine balloc ?_ _) | (with_reducible refine Below.drew ?_) | (with_reducible refine bdrewN ?_ _) | ((with_reducible refine bset ?_ ?_ _); rotate_left; focus (first | (with_reducible exact Nat.le_refl _) | (simp; done) | (simp; omega) | omega)) | (with_reducible refine bstep (by with_reducible assumption) ?_)))⟩
        | true =>
          have Hvb := Lib.hid h4
          clear h3 h4
          obtain ⟨U, HU⟩ : ∃ u, Hid (unionR a.r b.r = u) := ⟨_, rfl⟩
          have HU' : Hid (unionR ⟨a.r.x0, a.r.y0, a.r.x1, a.r.y1⟩ ⟨b.r.x0, b.r.y0, b.r.x1, b.r.y1⟩ = U) := HU.out
          obtain ⟨ar, Har⟩ : ∃ u, Hid (areaR U = u) := ⟨_, rfl⟩
          have HAr := Lib.hid (rarea_any U.x0 U.y0 U.x1 U.y1)
          have HArv : Hid (areaR ⟨U.x0, U.y0, U.x1, U.y1⟩ = ar) := Har.out
          rw [HArv.out] at HAr
          cases c1 : decide ((6000 : Int) < ar) with
          | true =>
            go_enter Try.func6, Try.ntmps6
            go_wp2_with fail
            refine (small_any a.r a.A a.n a.c _ true HSa).mono ?_
            rintro e w1 ⟨rfl, hb1⟩
            have kB1 : Bk w1 (w.heap.size + 1) 29 #[.int .i64 b.r.x0, .int .i64 b.r.y0, .int .i64 b.r.x1, .int .i64 b.r.y1, .slice b.A b.n b.c] := (by repeat (first | (with_reducible assumption) | ((with_reducible refine Bk.new _ _ _ ?_); first | (with_reducible rfl) | (simp; done)) | (with_reducible refine Bk.alloc ?_ _) | (with_reducible refine Bk.drew ?_) | (with_reducible refine Bk.drewN ?_ _) | ((with_reducible refine Bk.far ?_ ?_ _); rotate_left; focus (first | (simp; done) | (simp; omega))) | (with_reducible refine Bk.below ?_ (by with_reducible assumption)))); obtain ⟨kcB1, kfB1, kaB1, kgB1, klB1⟩ := kB1.rules
            go_wp2_with fail
            refine (small_any b.r b.A b.n b.c _ true HSb).mono ?_
            rintro e w2 ⟨rfl, hb2⟩
            clear kcB1 kfB1 kaB1 kgB1
            have kA2 : Bk w2 (w.heap.size) 29 #[.int .i64 a.r.x0, .int .i64 a.r.y0, .int .i64 a.r.x1, .int .i64 a.r.y1, .slice a.A a.n a.c] := (by repeat (first | (with_reducible assumption) | ((with_reducible refine Bk.new _ _ _ ?_); first | (with_reducible rfl) | (simp; done)) | (with_reducible refine Bk.alloc ?_ _) | (with_reducible refine Bk.drew ?_) | (with_reducible refine Bk.drewN ?_ _) | ((with_reducible refine Bk.far ?_ ?_ _); rotate_left; focus (first | (simp; done) | (simp; omega))) | (with_reducible refine Bk.below ?_ (by with_reducible assumption)))); obtain ⟨kcA2, kfA2, kaA2, kgA2, klA2⟩ := kA2.rules
            go_wp2_with fail
            refine (rmvalid_any a.r a.A a.n a.c a.l _ (HA.out.rd.below (by repeat (first | (with_reducible exact Below.refl _ _) | (with_reducible refine balloc ?_ _) | (with_reducible refine Below.drew ?_) | (with_reducible refine bdrewN ?_ _) | ((with_reducible refine bset ?_ ?_ _); rotate_left; focus (first | (with_reducible exact Nat.le_refl _) | (simp; done) | (simp; omega) | omega)) | (with_reducible refine bstep (by with_reducible assumption) ?_)))) HA.out.ln (by omega) true Hva).mono ?_
            rintro e w3 ⟨rfl, hb3⟩
            clear kcA2 kfA2 kaA2 kgA2
            have kB3 : Bk w3 (w.heap.size + 1) 29 #[.int .i64 b.r.x0, .int .i64 b.r.y0, .int .i64 b.r.x1, .int .i64 b.r.y1, .slice b.A b.n b.c] := (by repeat (first | (with_reducible assumption) | ((with_reducible refine Bk.new _ _ _ ?_); first | (with_reducible rfl) | (simp; done)) | (with_reducible refine Bk.alloc ?_ _) | (with_reducible refine Bk.drew ?_) | (with_reducible refine Bk.drewN ?_ _) | ((with_reducible refine Bk.far ?_ ?_ _); rotate_left; focus (first | (simp; done) | (simp; omega))) | (with_reducible refine Bk.below ?_ (by with_reducible assumption)))); obtain ⟨kcB3, kfB3, kaB3, kgB3, klB3⟩ := kB3.rules
            go_wp2_with fail
            refine (rmvalid_any b.r b.A b.n b.c b.l _ (HB.out.rd.below (by repeat (first | (with_reducible exact Below.refl _ _) | (with_reducible refine balloc ?_ _) | (with_reducible refine Below.drew ?_) | (with_reducible refine bdrewN ?_ _) | ((with_reducible refine bset ?_ ?_ _); rotate_left; focus (first | (with_reducible exact Nat.le_refl _) | (simp; done) | (simp; omega) | omega)) | (with_reducible refine bstep (by with_reducible assumption) ?_)))) HB.out.ln (by omega) true Hvb).mono ?_
            rintro e w4 ⟨rfl, hb4⟩
            clear kcB3 kfB3 kaB3 kgB3
            have kA4 : Bk w4 (w.heap.size) 29 #[.int .i64 a.r.x0, .int .i64 a.r.y0, .int .i64 a.r.x1, .int .i64 a.r.y1, .slice a.A a.n a.c] := (by repeat (first | (with_reducible assumption) | ((with_reducible refine Bk.new _ _ _ ?_); first | (with_reducible rfl) | (simp; done)) | (with_reducible refine Bk.alloc ?_ _) | (with_reducible refine Bk.drew ?_) | (with_reducible refine Bk.drewN ?_ _) | ((with_reducible refine Bk.far ?_ ?_ _); rotate_left; focus (first | (simp; done) | (simp; omega))) | (with_reducible refine Bk.below ?_ (by with_reducible assumption)))); obtain ⟨kcA4, kfA4, kaA4, kgA4, klA4⟩ := kA4.rules; have kB4 : Bk w4 (w.heap.size + 1) 29 #[.int .i64 b.r.x0, .int .i64 b.r.y0, .int .i64 b.r.x1, .int .i64 b.r.y1, .slice b.A b.n b.c] := (by repeat (first | (with_reducible assumption) | ((with_reducible refine Bk.new _ _ _ ?_); first | (with_reducible rfl) | (simp; done)) | (with_reducible refine Bk.alloc ?_ _) | (with_reducible refine Bk.drew ?_) | (with_reducible refine Bk.drewN ?_ _) | ((with_reducible refine Bk.far ?_ ?_ _); rotate_left; focus (first | (simp; done) | (simp; omega))) | (with_reducible refine Bk.below ?_ (by with_reducible assumption)))); obtain ⟨kcB4, kfB4, kaB4, kgB4, klB4⟩ := kB4.rules
            go_wp2_with fail
            refine (runion_q _ _ _ _ _ _ _ _ U HU' _).mono ?_
            rintro e w5 ⟨rfl, hb5⟩
            clear kcA4 kfA4 kaA4 kgA4 kcB4 kfB4 kaB4 kgB4
            have kA5 : Bk w5 (w.heap.size) 29 #[.int .i64 a.r.x0, .int .i64 a.r.y0, .int .i64 a.r.x1, .int .i64 a.r.y1, .slice a.A a.n a.c] := (by repeat (first | (with_reducible assumption) | ((with_reducible refine Bk.new _ _ _ ?_); first | (with_reducible rfl) | (simp; done)) | (with_reducible refine Bk.alloc ?_ _) | (with_reducible refine Bk.drew ?_) | (with_reducible refine Bk.drewN ?_ _) | ((with_reducible refine Bk.far ?_ ?_ _); rotate_left; focus (first | (simp; done) | (simp; omega))) | (with_reducible refine Bk.below ?_ (by with_reducible assumption)))); obtain ⟨kcA5, kfA5, kaA5, kgA5, klA5⟩ := kA5.rules; have kB5 : Bk w5 (w.heap.size + 1) 29 #[.int .i64 b.r.x0, .int .i64 b.r.y0, .int .i64 b.r.x1, .int .i64 b.r.y1, .slice b.A b.n b.c] := (by repeat (first | (with_reducible assumption) | ((with_reducible refine Bk.new _ _ _ ?_); first | (with_reducible rfl) | (simp; done)) | (with_reducible refine Bk.alloc ?_ _) | (with_reducible refine Bk.drew ?_) | (with_reducible refine Bk.drewN ?_ _) | ((with_reducible refine Bk.far ?_ ?_ _); rotate_left; focus (first | (simp; done) | (simp; omega))) | (with_reducible refine Bk.below ?_ (by with_reducible assumption)))); obtain ⟨kcB5, kfB5, kaB5, kgB5, klB5⟩ := kB5.rules
            go_wp2_with fail
            refine (HAr.out _).mono ?_
            rintro e w6 ⟨rfl, hb6⟩
            clear kcA5 kfA5 kaA5 kgA5 kcB5 kfB5 kaB5 kgB5
            go_wp2_with fail
            refine (ex_any _).mono ?_
            rintro e w7 ⟨rfl, hb7⟩
            go_wp2
            go_ret
            exact ⟨rfl, (by repeat (first | (with_reducible exact Below.refl _ _) | (with_reducible refine balloc ?_ _) | (with_reducible refine Below.drew ?_) | (with_reducible refine bdrewN ?_ _) | ((with_reducible refine bset ?_ ?_ _); rotate_left; focus (first | (with_reducible exact Nat.le_refl _) | (simp; done) | (simp; omega) | omega)) | (with_reducible refine bstep (by with_reducible assumption) ?_)))⟩
          | false =>
            have l3 := of_decide_eq_false c1
            obtain ⟨R0, HR0⟩ : ∃ u, Hid (mulR [a, b] = u) := ⟨_, rfl⟩
            obtain ⟨L0, HL0⟩ : ∃ u, Hid (mulL [a, b] = u) := ⟨_, rfl⟩
            obtain ⟨R1, HR1⟩ : ∃ u, Hid (unMR a b = u) := ⟨_, rfl⟩
            obtain ⟨L1, HL1⟩ : ∃ u, Hid (unML a b = u) := ⟨_, rfl⟩
            obtain ⟨n0, Hn0⟩ : ∃ u, Hid (L0.length = u) := ⟨_, rfl⟩
            obtain ⟨n1, Hn1⟩ : ∃ u, Hid (L1.length = u) := ⟨_, rfl⟩
            obtain ⟨Ra, HRa⟩ : ∃ u, Hid (interR a.r r = u) := ⟨_, rfl⟩
            obtain ⟨La, HLa⟩ : ∃ u, Hid (pixL (atL 0 a.r a.l) (interR a.r r) = u) := ⟨_, rfl⟩
            obtain ⟨Rb, HRb⟩ : ∃ u, Hid (interR b.r r = u) := ⟨_, rfl⟩
            obtain ⟨Lb, HLb⟩ : ∃ u, Hid (pixL (atL 0 b.r b.l) (interR b.r r) = u) := ⟨_, rfl⟩
            obtain ⟨na, Hna⟩ : ∃ u, Hid (La.length = u) := ⟨_, rfl⟩
            obtain ⟨nb, Hnb⟩ : ∃ u, Hid (Lb.length = u) := ⟨_, rfl⟩
            obtain ⟨RC, HRC⟩ : ∃ u, Hid (mulR [cutM a r none na 0, cutM b r none nb 0] = u) := ⟨_, rfl⟩
            obtain ⟨LC, HLC⟩ : ∃ u, Hid (mulL [cutM a r none na 0, cutM b r none nb 0] = u) := ⟨_, rfl⟩
            obtain ⟨nC, HnC⟩ : ∃ u, Hid (LC.length = u) := ⟨_, rfl⟩
            obtain ⟨RV, HRV⟩ : ∃ u, Hid (unMR (cutM a r none na 0) (cutM b r none nb 0) = u) := ⟨_, rfl⟩
            obtain ⟨LV, HLV⟩ : ∃ u, Hid (unML (cutM a r none na 0) (cutM b r none nb 0) = u) := ⟨_, rfl⟩
            obtain ⟨nV, HnV⟩ : ∃ u, Hid (LV.length = u) := ⟨_, rfl⟩
            have hn0 : n0 ≤ 67108864 := by rw [← Hn0.out, ← HL0.out]; exact mul_len _
            have hn1 : n1 ≤ 67108864 := by rw [← Hn1.out, ← HL1.out]; exact unl_len a b
            have hna : na ≤ 67108864 := by rw [← Hna.out, ← HLa.out]; exact cut_len a r
            have hnb : nb ≤ 67108864 := by rw [← Hnb.out, ← HLb.out]; exact cut_len b r
            have hnC : nC ≤ 67108864 := by rw [← HnC.out, ← HLC.out]; exact mul_len _
            have hnV : nV ≤ 67108864 := by rw [← HnV.out, ← HLV.out]; exact unl_len _ _
            have hva : vMk a = true := Hva.out
            have hvb : vMk b = true := Hvb.out
            have hv : unB a b = true := by unfold unB; rw [hva, hvb]; rfl
            have harU : areaR (unionR a.r b.r) ≤ 65536 := by rw [HU.out, Har.out]; omega
            have e1 : mulE [a, b] = 0 := by rw [mulE_two, hv]; rfl
            have e3 : unME a b = 0 := (un_form hv harU).2.2
            have Hb0 : Hid (bytesB L0) := by unfold Hid; rw [← HL0.out]; exact mul2_bytes HA.out.byte HB.out.byte
            have Hba : Hid (bytesB La) := by unfold Hid; rw [← HLa.out]; exact pix_bytes fun x y => atL_byte HA.out.byte x y
            have Hbb : Hid (bytesB Lb) := by unfold Hid; rw [← HLb.out]; exact pix_bytes fun x y => atL_byte HB.out.byte x y
            have eA : ∀ (A : Option Addr) (n c : Nat), cutM a r A n c = ⟨Ra, A, n, c, La⟩ := fun A n c => by unfold cutM; rw [HLa.out, HRa.out]
            have eB : ∀ (A : Option Addr) (n c : Nat), cutM b r A n c = ⟨Rb, A, n, c, Lb⟩ := fun A n c => by unfold cutM; rw [HLb.out, HRb.out]
            have vA : ∀ (A : Option Addr) (n c : Nat), vMk ⟨Ra, A, n, c, La⟩ = true := fun A n c => by rw [← eA A n c]; exact cut_valid hva r
            have vB : ∀ (A : Option Addr) (n c : Nat), vMk ⟨Rb, A, n, c, Lb⟩ = true := fun A n c => by rw [← eB A n c]; exact cut_valid hvb r
            have HCa : Hid (∀ (W : World), a.ok W → Calls Try.prog 28 #[.agg #[.int .i64 a.r.x0, .int .i64 a.r.y0, .int .i64 a.r.x1, .int .i64 a.r.y1, .slice a.A a.n a.c], .agg #[.int .i64 r.x0, .int .i64 r.y0, .int .i64 r.x1, .int .i64 r.y1]] W (RetME Ra La 0 W)) := fun W h => by
              have := mcrop_any a r W h (by omega)
              obtain ⟨f1, f2, f3⟩ := cut_form hva r
              rw [f1, f2, f3, HLa.out, HRa.out] at this
              exact this
            have HCb : Hid (∀ (W : World), b.ok W → Calls Try.prog 28 #[.agg #[.int .i64 b.r.x0, .int .i64 b.r.y0, .int .i64 b.r.x1, .int .i64 b.r.y1, .slice b.A b.n b.c], .agg #[.int .i64 r.x0, .int .i64 r.y0, .int .i64 r.x1, .int .i64 r.y1]] W (RetME Rb Lb 0 W)) := fun W h => by
              have := mcrop_any b r W h (by omega)
              obtain ⟨f1, f2, f3⟩ := cut_form hvb r
              rw [f1, f2, f3, HLb.out, HRb.out] at this
              exact this
            have HCm : Hid (∀ (A : Option Addr) (c : Nat) (W : World), Mk.ok ⟨R0, A, n0, c, L0⟩ W → Calls Try.prog 28 #[.agg #[.int .i64 R0.x0, .int .i64 R0.y0, .int .i64 R0.x1, .int .i64 R0.y1, .slice A n0 c], .agg #[.int .i64 r.x0, .int .i64 r.y0, .int .i64 r.x1, .int .i64 r.y1]] W (RetME RC LC 0 W)) := fun A c W h => by
              have := mcrop_any ⟨R0, A, n0, c, L0⟩ r W h (by show n0 ≤ _; omega)
              obtain ⟨f1, f2⟩ := cut_mul hv r A none none n0 c na 0 nb 0
              rw [HR0.out, HL0.out] at f1 f2
              have hvm : mkValid (mulR [a, b]) (mulL [a, b]) = true := mul2_valid hv
              rw [HR0.out, HL0.out] at hvm
              obtain ⟨_, _, f3⟩ := cut_form (b := ⟨R0, A, n0, c, L0⟩) hvm r
              rw [f1, f2, f3, HRC.out, HLC.out] at this
              exact this
            have HMcd : Hid (∀ (A1 : Option Addr) (c1 : Nat) (A2 : Option Addr) (c2 : Nat) (A : Option Addr) (c : Nat) (W : World), RdL encMk 5 W A [⟨Ra, A1, na, c1, La⟩, ⟨Rb, A2, nb, c2, Lb⟩] → 2 ≤ c → c ≤ maxLen → (∀ x ∈ ([⟨Ra, A1, na, c1, La⟩, ⟨Rb, A2, nb, c2, Lb⟩] : List Mk), x.ok W) → Calls Try.prog 17 #[.slice A 2 c] W (RetME RC LC 0 W)) := fun A1 c1 A2 c2 A c W hr hnc hcm ho => by
              have := mmul_any A 2 c [⟨Ra, A1, na, c1, La⟩, ⟨Rb, A2, nb, c2, Lb⟩] W hr rfl (by omega) hnc hcm ho (fun x hx => by
                rcases List.mem_cons.1 hx with h | h
                · rw [h]; show na ≤ _; omega
                · rw [List.mem_singleton.1 h]; show nb ≤ _; omega)
              have u2 : unB ⟨Ra, A1, na, c1, La⟩ ⟨Rb, A2, nb, c2, Lb⟩ = true := by unfold unB; rw [vA, vB]; rfl
              have g1 : mulR [⟨Ra, A1, na, c1, La⟩, ⟨Rb, A2, nb, c2, Lb⟩] = RC := by
                rw [← HRC.out, eA, eB, mulR_two, mulR_two, u2]; unfold unB; rw [vA, vB]; rfl
              have g2 : mulL [⟨Ra, A1, na, c1, La⟩, ⟨Rb, A2, nb, c2, Lb⟩] = LC := by
                rw [← HLC.out, eA, eB, mulL_two, mulL_two, u2]; unfold unB; rw [vA, vB]; rfl
              have g3 : mulE [⟨Ra, A1, na, c1, La⟩, ⟨Rb, A2, nb, c2, Lb⟩] = 0 := by rw [mulE_two, u2]; rfl
              rw [g1, g2, g3] at this
              exact this
            have HUcd : Hid (∀ (A1 : Option Addr) (c1 : Nat) (A2 : Option Addr) (c2 : Nat) (W : World), Mk.ok ⟨Ra, A1, na, c1, La⟩ W → Mk.ok ⟨Rb, A2, nb, c2, Lb⟩ W → Calls Try.prog 23 #[.agg #[.int .i64 Ra.x0, .int .i64 Ra.y0, .int .i64 Ra.x1, .int .i64 Ra.y1, .slice A1 na c1], .agg #[.int .i64 Rb.x0, .int .i64 Rb.y0, .int .i64 Rb.x1, .int .i64 Rb.y1, .slice A2 nb c2]] W (RetME RV LV 0 W)) := fun A1 c1 A2 c2 W h1 h2 => by
              have := munion_any ⟨Ra, A1, na, c1, La⟩ ⟨Rb, A2, nb, c2, Lb⟩ W h1 h2 (by show na ≤ _; omega) (by show nb ≤ _; omega)
              obtain ⟨f1, _⟩ := cut_un hv harU r A1 A2 na c1 nb c2
              rw [eA, eB] at f1
              have u2 : ∀ (A1 : Option Addr) (c1 : Nat) (A2 : Option Addr) (c2 : Nat), unB ⟨Ra, A1, na, c1, La⟩ ⟨Rb, A2, nb, c2, Lb⟩ = true := fun A1 c1 A2 c2 => by unfold unB; rw [vA, vB]; rfl
              have g1 : unMR ⟨Ra, A1, na, c1, La⟩ ⟨Rb, A2, nb, c2, Lb⟩ = RV := by
                rw [← HRV.out, eA, eB]; unfold unMR; rw [u2, u2]
              have g2 : unML ⟨Ra, A1, na, c1, La⟩ ⟨Rb, A2, nb, c2, Lb⟩ = LV := by
                rw [← HLV.out, eA, eB]; unfold unML; rw [u2, u2]; rfl
              rw [g1, g2, f1] at this
              exact this
            have HOU : Hid (∀ x y, containsB U x y = true → containsB r x y = true → atV R1 L1 x y = atV RV LV x y) := by
              unfold Hid; intro x y hc hr
              have := (cut_un hv harU r none none na 0 nb 0).2 x y (by rw [HU.out]; exact hc) hr
              rw [HR1.out, HL1.out, HRV.out, HLV.out] at this
              exact this
            have hcn : Hid (canonR U = U) := by unfold Hid; rw [← HU.out]; exact union_cn
            have hcq := canon_bd U
            rw [hcn.out] at hcq
            have HOab : Hid (∀ x ∈ [a, b], x.ok w) := fun x hx => by
              rcases List.mem_cons.1 hx with h | h
              · rw [h]; exact HA.out
              · rw [List.mem_singleton.1 h]; exact HB.out
            have HMab : Hid (∀ (A : Option Addr) (c : Nat) (W : World), RdL encMk 5 W A [a, b] → 2 ≤ c → c ≤ maxLen → (∀ x ∈ [a, b], x.ok W) → Calls Try.prog 17 #[.slice A 2 c] W (RetME R0 L0 0 W)) := fun A c W hr hnc hcm ho => by
              have := mmul_any A 2 c [a, b] W hr rfl (by omega) hnc hcm ho (fun x hx => by
                rcases List.mem_cons.1 hx with h | h
                · rw [h]; omega
                · rw [List.mem_singleton.1 h]; omega)
              rw [HR0.out, HL0.out, e1] at this
              exact this
            have HUab : Hid (∀ (W : World), a.ok W → b.ok W → Calls Try.prog 23 #[.agg #[.int .i64 a.r.x0, .int .i64 a.r.y0, .int .i64 a.r.x1, .int .i64 a.r.y1, .slice a.A a.n a.c], .agg #[.int .i64 b.r.x0, .int .i64 b.r.y0, .int .i64 b.r.x1, .int .i64 b.r.y1, .slice b.A b.n b.c]] W (RetME R1 L1 0 W)) := fun W h1 h2 => by
              have := munion_any a b W h1 h2 (by omega) (by omega)
              rw [HR1.out, HL1.out, e3] at this
              exact this
            clear e1 e3 hv hva hvb harU eA eB vA vB
            go_enter Try.func6, Try.ntmps6
            go_wp2_with fail
            refine (small_any a.r a.A a.n a.c _ true HSa).mono ?_
            rintro e w1 ⟨rfl, hb1⟩
            have kB1 : Bk w1 (w.heap.size + 1) 29 #[.int .i64 b.r.x0, .int .i64 b.r.y0, .int .i64 b.r.x1, .int .i64 b.r.y1, .slice b.A b.n b.c] := (by repeat (first | (with_reducible assumption) | ((with_reducible refine Bk.new _ _ _ ?_); first | (with_reducible rfl) | (simp; done)) | (with_reducible refine Bk.alloc ?_ _) | (with_reducible refine Bk.drew ?_) | (with_reducible refine Bk.drewN ?_ _) | ((with_reducible refine Bk.far ?_ ?_ _); rotate_left; focus (first | (simp; done) | (simp; omega))) | (with_reducible refine Bk.below ?_ (by with_reducible assumption)))); obtain ⟨kcB1, kfB1, kaB1, kgB1, klB1⟩ := kB1.rules
            go_wp2_with fail
            refine (small_any b.r b.A b.n b.c _ true HSb).mono ?_
            rintro e w2 ⟨rfl, hb2⟩
            clear kcB1 kfB1 kaB1 kgB1
            have kA2 : Bk w2 (w.heap.size) 29 #[.int .i64 a.r.x0, .int .i64 a.r.y0, .int .i64 a.r.x1, .int .i64 a.r.y1, .slice a.A a.n a.c] := (by repeat (first | (with_reducible assumption) | ((with_reducible refine Bk.new _ _ _ ?_); first | (with_reducible rfl) | (simp; done)) | (with_reducible refine Bk.alloc ?_ _) | (with_reducible refine Bk.drew ?_) | (with_reducible refine Bk.drewN ?_ _) | ((with_reducible refine Bk.far ?_ ?_ _); rotate_left; focus (first | (simp; done) | (simp; omega))) | (with_reducible refine Bk.below ?_ (by with_reducible assumption)))); obtain ⟨kcA2, kfA2, kaA2, kgA2, klA2⟩ := kA2.rules
            go_wp2_with fail
            refine (rmvalid_any a.r a.A a.n a.c a.l _ (HA.out.rd.below (by repeat (first | (with_reducible exact Below.refl _ _) | (with_reducible refine balloc ?_ _) | (with_reducible refine Below.drew ?_) | (with_reducible refine bdrewN ?_ _) | ((with_reducible refine bset ?_ ?_ _); rotate_left; focus (first | (with_reducible exact Nat.le_refl _) | (simp; done) | (simp; omega) | omega)) | (with_reducible refine bstep (by with_reducible assumption) ?_)))) HA.out.ln (by omega) true Hva).mono ?_
            rintro e w3 ⟨rfl, hb3⟩
            clear kcA2 kfA2 kaA2 kgA2
            have kB3 : Bk w3 (w.heap.size + 1) 29 #[.int .i64 b.r.x0, .int .i64 b.r.y0, .int .i64 b.r.x1, .int .i64 b.r.y1, .slice b.A b.n b.c] := (by repeat (first | (with_reducible assumption) | ((with_reducible refine Bk.new _ _ _ ?_); first | (with_reducible rfl) | (simp; done)) | (with_reducible refine Bk.alloc ?_ _) | (with_reducible refine Bk.drew ?_) | (with_reducible refine Bk.drewN ?_ _) | ((with_reducible refine Bk.far ?_ ?_ _); rotate_left; focus (first | (simp; done) | (simp; omega))) | (with_reducible refine Bk.below ?_ (by with_reducible assumption)))); obtain ⟨kcB3, kfB3, kaB3, kgB3, klB3⟩ := kB3.rules
            go_wp2_with fail
            refine (rmvalid_any b.r b.A b.n b.c b.l _ (HB.out.rd.below (by repeat (first | (with_reducible exact Below.refl _ _) | (with_reducible refine balloc ?_ _) | (with_reducible refine Below.drew ?_) | (with_reducible refine bdrewN ?_ _) | ((with_reducible refine bset ?_ ?_ _); rotate_left; focus (first | (with_reducible exact Nat.le_refl _) | (simp; done) | (simp; omega) | omega)) | (with_reducible refine bstep (by with_reducible assumption) ?_)))) HB.out.ln (by omega) true Hvb).mono ?_
            rintro e w4 ⟨rfl, hb4⟩
            clear kcB3 kfB3 kaB3 kgB3
            have kA4 : Bk w4 (w.heap.size) 29 #[.int .i64 a.r.x0, .int .i64 a.r.y0, .int .i64 a.r.x1, .int .i64 a.r.y1, .slice a.A a.n a.c] := (by repeat (first | (with_reducible assumption) | ((with_reducible refine Bk.new _ _ _ ?_); first | (with_reducible rfl) | (simp; done)) | (with_reducible refine Bk.alloc ?_ _) | (with_reducible refine Bk.drew ?_) | (with_reducible refine Bk.drewN ?_ _) | ((with_reducible refine Bk.far ?_ ?_ _); rotate_left; focus (first | (simp; done) | (simp; omega))) | (with_reducible refine Bk.below ?_ (by with_reducible assumption)))); obtain ⟨kcA4, kfA4, kaA4, kgA4, klA4⟩ := kA4.rules; have kB4 : Bk w4 (w.heap.size + 1) 29 #[.int .i64 b.r.x0, .int .i64 b.r.y0, .int .i64 b.r.x1, .int .i64 b.r.y1, .slice b.A b.n b.c] := (by repeat (first | (with_reducible assumption) | ((with_reducible refine Bk.new _ _ _ ?_); first | (with_reducible rfl) | (simp; done)) | (with_reducible refine Bk.alloc ?_ _) | (with_reducible refine Bk.drew ?_) | (with_reducible refine Bk.drewN ?_ _) | ((with_reducible refine Bk.far ?_ ?_ _); rotate_left; focus (first | (simp; done) | (simp; omega))) | (with_reducible refine Bk.below ?_ (by with_reducible assumption)))); obtain ⟨kcB4, kfB4, kaB4, kgB4, klB4⟩ := kB4.rules
            go_wp2_with fail
            refine (runion_q _ _ _ _ _ _ _ _ U HU' _).mono ?_
            rintro e w5 ⟨rfl, hb5⟩
            clear kcA4 kfA4 kaA4 kgA4 kcB4 kfB4 kaB4 kgB4
            have kA5 : Bk w5 (w.heap.size) 29 #[.int .i64 a.r.x0, .int .i64 a.r.y0, .int .i64 a.r.x1, .int .i64 a.r.y1, .slice a.A a.n a.c] := (by repeat (first | (with_reducible assumption) | ((with_reducible refine Bk.new _ _ _ ?_); first | (with_reducible rfl) | (simp; done)) | (with_reducible refine Bk.alloc ?_ _) | (with_reducible refine Bk.drew ?_) | (with_reducible refine Bk.drewN ?_ _) | ((with_reducible refine Bk.far ?_ ?_ _); rotate_left; focus (first | (simp; done) | (simp; omega))) | (with_reducible refine Bk.below ?_ (by with_reducible assumption)))); obtain ⟨kcA5, kfA5, kaA5, kgA5, klA5⟩ := kA5.rules; have kB5 : Bk w5 (w.heap.size + 1) 29 #[.int .i64 b.r.x0, .int .i64 b.r.y0, .int .i64 b.r.x1, .int .i64 b.r.y1, .slice b.A b.n b.c] := (by repeat (first | (with_reducible assumption) | ((with_reducible refine Bk.new _ _ _ ?_); first | (with_reducible rfl) | (simp; done)) | (with_reducible refine Bk.alloc ?_ _) | (with_reducible refine Bk.drew ?_) | (with_reducible refine Bk.drewN ?_ _) | ((with_reducible refine Bk.far ?_ ?_ _); rotate_left; focus (first | (simp; done) | (simp; omega))) | (with_reducible refine Bk.below ?_ (by with_reducible assumption)))); obtain ⟨kcB5, kfB5, kaB5, kgB5, klB5⟩ := kB5.rules
            go_wp2_with fail
            refine (HAr.out _).mono ?_
            rintro e w6 ⟨rfl, hb6⟩
            clear kcA5 kfA5 kaA5 kgA5 kcB5 kfB5 kaB5 kgB5
            have kA6 : Bk w6 (w.heap.size) 29 #[.int .i64 a.r.x0, .int .i64 a.r.y0, .int .i64 a.r.x1, .int .i64 a.r.y1, .slice a.A a.n a.c] := (by repeat (first | (with_reducible assumption) | ((with_reducible refine Bk.new _ _ _ ?_); first | (with_reducible rfl) | (simp; done)) | (with_reducible refine Bk.alloc ?_ _) | (with_reducible refine Bk.drew ?_) | (with_reducible refine Bk.drewN ?_ _) | ((with_reducible refine Bk.far ?_ ?_ _); rotate_left; focus (first | (simp; done) | (simp; omega))) | (with_reducible refine Bk.below ?_ (by with_reducible assumption)))); obtain ⟨kcA6, kfA6, kaA6, kgA6, klA6⟩ := kA6.rules; have kB6 : Bk w6 (w.heap.size + 1) 29 #[.int .i64 b.r.x0, .int .i64 b.r.y0, .int .i64 b.r.x1, .int .i64 b.r.y1, .slice b.A b.n b.c] := (by repeat (first | (with_reducible assumption) | ((with_reducible refine Bk.new _ _ _ ?_); first | (with_reducible rfl) | (simp; done)) | (with_reducible refine Bk.alloc ?_ _) | (with_reducible refine Bk.drew ?_) | (with_reducible refine Bk.drewN ?_ _) | ((with_reducible refine Bk.far ?_ ?_ _); rotate_left; focus (first | (simp; done) | (simp; omega))) | (with_reducible refine Bk.below ?_ (by with_reducible assumption)))); obtain ⟨kcB6, kfB6, kaB6, kgB6, klB6⟩ := kB6.rules; have kQ6 : Bk w6 (w.heap.size + 1 + 1) 26 #[.int .i64 r.x0, .int .i64 r.y0, .int .i64 r.x1, .int .i64 r.y1] := (by repeat (first | (with_reducible assumption) | ((with_reducible refine Bk.new _ _ _ ?_); first | (with_reducible rfl) | (simp; done)) | (with_reducible refine Bk.alloc ?_ _) | (with_reducible refine Bk.drew ?_) | (with_reducible refine Bk.drewN ?_ _) | ((with_reducible refine Bk.far ?_ ?_ _); rotate_left; focus (first | (simp; done) | (simp; omega))) | (with_reducible refine Bk.below ?_ (by with_reducible assumption)))); obtain ⟨kcQ6, kfQ6, kaQ6, kgQ6, klQ6⟩ := kQ6.rules
            go_wp2_with fail
            refine (HMab.out _ _ _ (rd_of_bk (e := 29) encMk_len (Bk.new _ _ _ (by first | rfl | simp)) rfl) (by omega) (by unfold maxLen; omega) (fun x hx => (HOab.out x hx).below (by repeat (first | (with_reducible exact Below.refl _ _) | (with_reducible refine balloc ?_ _) | (with_reducible refine Below.drew ?_) | (with_reducible refine bdrewN ?_ _) | ((with_reducible refine bset ?_ ?_ _); rotate_left; focus (first | (with_reducible exact Nat.le_refl _) | (simp; done) | (simp; omega) | omega)) | (with_reducible refine bstep (by with_reducible assumption) ?_))))).mono ?_
            rintro e w7 ⟨v7, rfl, ho7, hb7⟩
            clear kcA6 kfA6 kaA6 kgA6 kcB6 kfB6 kaB6 kgB6 kcQ6 kfQ6 kaQ6 kgQ6
            have kA7 : Bk w7 (w.heap.size) 29 #[.int .i64 a.r.x0, .int .i64 a.r.y0, .int .i64 a.r.x1, .int .i64 a.r.y1, .slice a.A a.n a.c] := (by repeat (first | (with_reducible assumption) | ((with_reducible refine Bk.new _ _ _ ?_); first | (with_reducible rfl) | (simp; done)) | (with_reducible refine Bk.alloc ?_ _) | (with_reducible refine Bk.drew ?_) | (with_reducible refine Bk.drewN ?_ _) | ((with_reducible refine Bk.far ?_ ?_ _); rotate_left; focus (first | (simp; done) | (simp; omega))) | (with_reducible refine Bk.below ?_ (by with_reducible assumption)))); obtain ⟨kcA7, kfA7, kaA7, kgA7, klA7⟩ := kA7.rules; have kB7 : Bk w7 (w.heap.size + 1) 29 #[.int .i64 b.r.x0, .int .i64 b.r.y0, .int .i64 b.r.x1, .int .i64 b.r.y1, .slice b.A b.n b.c] := (by repeat (first | (with_reducible assumption) | ((with_reducible refine Bk.new _ _ _ ?_); first | (with_reducible rfl) | (simp; done)) | (with_reducible refine Bk.alloc ?_ _) | (with_reducible refine Bk.drew ?_) | (with_reducible refine Bk.drewN ?_ _) | ((with_reducible refine Bk.far ?_ ?_ _); rotate_left; focus (first | (simp; done) | (simp; omega))) | (with_reducible refine Bk.below ?_ (by with_reducible assumption)))); obtain ⟨kcB7, kfB7, kaB7, kgB7, klB7⟩ := kB7.rules; have kQ7 : Bk w7 (w.heap.size + 1 + 1) 26 #[.int .i64 r.x0, .int .i64 r.y0, .int .i64 r.x1, .int .i64 r.y1] := (by repeat (first | (with_reducible assumption) | ((with_reducible refine Bk.new _ _ _ ?_); first | (with_reducible rfl) | (simp; done)) | (with_reducible refine Bk.alloc ?_ _) | (with_reducible refine Bk.drew ?_) | (with_reducible refine Bk.drewN ?_ _) | ((with_reducible refine Bk.far ?_ ?_ _); rotate_left; focus (first | (simp; done) | (simp; omega))) | (with_reducible refine Bk.below ?_ (by with_reducible assumption)))); obtain ⟨kcQ7, kfQ7, kaQ7, kgQ7, klQ7⟩ := kQ7.rules
            obtain ⟨A7, c7, hv7, hr7, hle7, hmx7⟩ := ho7.form2 encB_len
            rw [Hn0.out] at hv7 hle7
            subst hv7
            have HR7 := Lib.hid hr7
            have HC7 := Lib.hid (And.intro hle7 hmx7)
            clear hr7 hle7 hmx7
            
            go_wp2_with fail
            refine (HUab.out _ (HA.out.below (by repeat (first | (with_reducible exact Below.refl _ _) | (with_reducible refine balloc ?_ _) | (with_reducible refine Below.drew ?_) | (with_reducible refine bdrewN ?_ _) | ((with_reducible refine bset ?_ ?_ _); rotate_left; focus (first | (with_reducible exact Nat.le_refl _) | (simp; done) | (simp; omega) | omega)) | (with_reducible refine bstep (by with_reducible assumption) ?_)))) (HB.out.below (by repeat (first | (with_reducible exact Below.refl _ _) | (with_reducible refine balloc ?_ _) | (with_reducible refine Below.drew ?_) | (with_reducible refine bdrewN ?_ _) | ((with_reducible refine bset ?_ ?_ _); rotate_left; focus (first | (with_reducible exact Nat.le_refl _) | (simp; done) | (simp; omega) | omega)) | (with_reducible refine bstep (by with_reducible assumption) ?_))))).mono ?_
            rintro e w8 ⟨v8, rfl, ho8, hb8⟩
            clear kcA7 kfA7 kaA7 kgA7 kcB7 kfB7 kaB7 kgB7 kcQ7 kfQ7 kaQ7 kgQ7
            have kA8 : Bk w8 (w.heap.size) 29 #[.int .i64 a.r.x0, .int .i64 a.r.y0, .int .i64 a.r.x1, .int .i64 a.r.y1, .slice a.A a.n a.c] := (by repeat (first | (with_reducible assumption) | ((with_reducible refine Bk.new _ _ _ ?_); first | (with_reducible rfl) | (simp; done)) | (with_reducible refine Bk.alloc ?_ _) | (with_reducible refine Bk.drew ?_) | (with_reducible refine Bk.drewN ?_ _) | ((with_reducible refine Bk.far ?_ ?_ _); rotate_left; focus (first | (simp; done) | (simp; omega))) | (with_reducible refine Bk.below ?_ (by with_reducible assumption)))); obtain ⟨kcA8, kfA8, kaA8, kgA8, klA8⟩ := kA8.rules; have kB8 : Bk w8 (w.heap.size + 1) 29 #[.int .i64 b.r.x0, .int .i64 b.r.y0, .int .i64 b.r.x1, .int .i64 b.r.y1, .slice b.A b.n b.c] := (by repeat (first | (with_reducible assumption) | ((with_reducible refine Bk.new _ _ _ ?_); first | (with_reducible rfl) | (simp; done)) | (with_reducible refine Bk.alloc ?_ _) | (with_reducible refine Bk.drew ?_) | (with_reducible refine Bk.drewN ?_ _) | ((with_reducible refine Bk.far ?_ ?_ _); rotate_left; focus (first | (simp; done) | (simp; omega))) | (with_reducible refine Bk.below ?_ (by with_reducible assumption)))); obtain ⟨kcB8, kfB8, kaB8, kgB8, klB8⟩ := kB8.rules; have kQ8 : Bk w8 (w.heap.size + 1 + 1) 26 #[.int .i64 r.x0, .int .i64 r.y0, .int .i64 r.x1, .int .i64 r.y1] := (by repeat (first | (with_reducible assumption) | ((with_reducible refine Bk.new _ _ _ ?_); first | (with_reducible rfl) | (simp; done)) | (with_reducible refine Bk.alloc ?_ _) | (with_reducible refine Bk.drew ?_) | (with_reducible refine Bk.drewN ?_ _) | ((with_reducible refine Bk.far ?_ ?_ _); rotate_left; focus (first | (simp; done) | (simp; omega))) | (with_reducible refine Bk.below ?_ (by with_reducible assumption)))); obtain ⟨kcQ8, kfQ8, kaQ8, kgQ8, klQ8⟩ := kQ8.rules; have kM8 : Bk w8 (w7.heap.size) 29 #[.int .i64 R0.x0, .int .i64 R0.y0, .int .i64 R0.x1, .int .i64 R0.y1, .slice A7 n0 c7] := (by repeat (first | (with_reducible assumption) | ((with_reducible refine Bk.new _ _ _ ?_); first | (with_reducible rfl) | (simp; done)) | (with_reducible refine Bk.alloc ?_ _) | (with_reducible refine Bk.drew ?_) | (with_reducible refine Bk.drewN ?_ _) | ((with_reducible refine Bk.far ?_ ?_ _); rotate_left; focus (first | (simp; done) | (simp; omega))) | (with_reducible refine Bk.below ?_ (by with_reducible assumption)))); obtain ⟨kcM8, kfM8, kaM8, kgM8, klM8⟩ := kM8.rules
            obtain ⟨A8, c8, hv8, hr8, hle8, hmx8⟩ := ho8.form2 encB_len
            rw [Hn1.out] at hv8 hle8
            subst hv8
            have HR8 := Lib.hid hr8
            have HC8 := Lib.hid (And.intro hle8 hmx8)
            clear hr8 hle8 hmx8
            
            go_wp2_with fail
            refine (HCm.out A7 c7 _ ⟨HR7.out.below (by repeat (first | (with_reducible exact Below.refl _ _) | (with_reducible refine balloc ?_ _) | (with_reducible refine Below.drew ?_) | (with_reducible refine bdrewN ?_ _) | ((with_reducible refine bset ?_ ?_ _); rotate_left; focus (first | (with_reducible exact Nat.le_refl _) | (simp; done) | (simp; omega) | omega)) | (with_reducible refine bstep (by with_reducible assumption) ?_))), Hn0.out, Hb0.out, HC7.out.1, HC7.out.2⟩).mono ?_
            rintro e w9 ⟨v9, rfl, ho9, hb9⟩
            clear kcA8 kfA8 kaA8 kgA8 kcB8 kfB8 kaB8 kgB8 kcQ8 kfQ8 kaQ8 kgQ8 kcM8 kfM8 kaM8 kgM8
            have kA9 : Bk w9 (w.heap.size) 29 #[.int .i64 a.r.x0, .int .i64 a.r.y0, .int .i64 a.r.x1, .int .i64 a.r.y1, .slice a.A a.n a.c] := (by repeat (first | (with_reducible assumption) | ((with_reducible refine Bk.new _ _ _ ?_); first | (with_reducible rfl) | (simp; done)) | (with_reducible refine Bk.alloc ?_ _) | (with_reducible refine Bk.drew ?_) | (with_reducible refine Bk.drewN ?_ _) | ((with_reducible refine Bk.far ?_ ?_ _); rotate_left; focus (first | (simp; done) | (simp; omega))) | (with_reducible refine Bk.below ?_ (by with_reducible assumption)))); obtain ⟨kcA9, kfA9, kaA9, kgA9, klA9⟩ := kA9.rules; have kB9 : Bk w9 (w.heap.size + 1) 29 #[.int .i64 b.r.x0, .int .i64 b.r.y0, .int .i64 b.r.x1, .int .i64 b.r.y1, .slice b.A b.n b.c] := (by repeat (first | (with_reducible assumption) | ((with_reducible refine Bk.new _ _ _ ?_); first | (with_reducible rfl) | (simp; done)) | (with_reducible refine Bk.alloc ?_ _) | (with_reducible refine Bk.drew ?_) | (with_reducible refine Bk.drewN ?_ _) | ((with_reducible refine Bk.far ?_ ?_ _); rotate_left; focus (first | (simp; done) | (simp; omega))) | (with_reducible refine Bk.below ?_ (by with_reducible assumption)))); obtain ⟨kcB9, kfB9, kaB9, kgB9, klB9⟩ := kB9.rules; have kQ9 : Bk w9 (w.heap.size + 1 + 1) 26 #[.int .i64 r.x0, .int .i64 r.y0, .int .i64 r.x1, .int .i64 r.y1] := (by repeat (first | (with_reducible assumption) | ((with_reducible refine Bk.new _ _ _ ?_); first | (with_reducible rfl) | (simp; done)) | (with_reducible refine Bk.alloc ?_ _) | (with_reducible refine Bk.drew ?_) | (with_reducible refine Bk.drewN ?_ _) | ((with_reducible refine Bk.far ?_ ?_ _); rotate_left; focus (first | (simp; done) | (simp; omega))) | (with_reducible refine Bk.below ?_ (by with_reducible assumption)))); obtain ⟨kcQ9, kfQ9, kaQ9, kgQ9, klQ9⟩ := kQ9.rules; have kM9 : Bk w9 (w7.heap.size) 29 #[.int .i64 R0.x0, .int .i64 R0.y0, .int .i64 R0.x1, .int .i64 R0.y1, .slice A7 n0 c7] := (by repeat (first | (with_reducible assumption) | ((with_reducible refine Bk.new _ _ _ ?_); first | (with_reducible rfl) | (simp; done)) | (with_reducible refine Bk.alloc ?_ _) | (with_reducible refine Bk.drew ?_) | (with_reducible refine Bk.drewN ?_ _) | ((with_reducible refine Bk.far ?_ ?_ _); rotate_left; focus (first | (simp; done) | (simp; omega))) | (with_reducible refine Bk.below ?_ (by with_reducible assumption)))); obtain ⟨kcM9, kfM9, kaM9, kgM9, klM9⟩ := kM9.rules; have kU9 : Bk w9 (w8.heap.size) 29 #[.int .i64 R1.x0, .int .i64 R1.y0, .int .i64 R1.x1, .int .i64 R1.y1, .slice A8 n1 c8] := (by repeat (first | (with_reducible assumption) | ((with_reducible refine Bk.new _ _ _ ?_); first | (with_reducible rfl) | (simp; done)) | (with_reducible refine Bk.alloc ?_ _) | (with_reducible refine Bk.drew ?_) | (with_reducible refine Bk.drewN ?_ _) | ((with_reducible refine Bk.far ?_ ?_ _); rotate_left; focus (first | (simp; done) | (simp; omega))) | (with_reducible refine Bk.below ?_ (by with_reducible assumption)))); obtain ⟨kcU9, kfU9, kaU9, kgU9, klU9⟩ := kU9.rules
            obtain ⟨A9, c9, hv9, hr9, hle9, hmx9⟩ := ho9.form2 encB_len
            rw [HnC.out] at hv9 hle9
            subst hv9
            have HR9 := Lib.hid hr9
            have HC9 := Lib.hid (And.intro hle9 hmx9)
            clear hr9 hle9 hmx9
            have hB9 : Below w.heap.size w w9 := (by repeat (first | (with_reducible exact Below.refl _ _) | (with_reducible refine balloc ?_ _) | (with_reducible refine Below.drew ?_) | (with_reducible refine bdrewN ?_ _) | ((with_reducible refine bset ?_ ?_ _); rotate_left; focus (first | (with_reducible exact Nat.le_refl _) | (simp; done) | (simp; omega) | omega)) | (with_reducible refine bstep (by with_reducible assumption) ?_)))
            have oU := ho8.below (show Below w8.heap.size w8 w9 from bstep hb9 (balloc (Below.refl _ _) _))
            have oM := ho9
            clear ho7 ho8 ho9
            go_wp2_with fail
            clear kcA9 kfA9 kaA9 kgA9 kcB9 kfB9 kaB9 kgB9 kcQ9 kfQ9 kaQ9 kgQ9 kcM9 kfM9 kaM9 kgM9 kcU9 kfU9 kaU9 kgU9
            have mA : Bk ((((((w9.setCell ⟨w7.heap.size, 0, none⟩ (.int .i64 RC.x0)).setCell ⟨w7.heap.size, 1, none⟩ (.int .i64 RC.y0)).setCell ⟨w7.heap.size, 2, none⟩ (.int .i64 RC.x1)).setCell ⟨w7.heap.size, 3, none⟩ (.int .i64 RC.y1)).setCell ⟨w7.heap.size, 4, none⟩ (.slice A9 nC c9))) (w.heap.size) 29 #[.int .i64 a.r.x0, .int .i64 a.r.y0, .int .i64 a.r.x1, .int .i64 a.r.y1, .slice a.A a.n a.c] := (((((kA9.far (p := ⟨w7.heap.size, 0, none⟩) (show w.heap.size ≠ w7.heap.size by omega) (.int .i64 RC.x0)).far (p := ⟨w7.heap.size, 1, none⟩) (show w.heap.size ≠ w7.heap.size by omega) (.int .i64 RC.y0)).far (p := ⟨w7.heap.size, 2, none⟩) (show w.heap.size ≠ w7.heap.size by omega) (.int .i64 RC.x1)).far (p := ⟨w7.heap.size, 3, none⟩) (show w.heap.size ≠ w7.heap.size by omega) (.int .i64 RC.y1)).far (p := ⟨w7.heap.size, 4, none⟩) (show w.heap.size ≠ w7.heap.size by omega) (.slice A9 nC c9))
            have mB : Bk ((((((w9.setCell ⟨w7.heap.size, 0, none⟩ (.int .i64 RC.x0)).setCell ⟨w7.heap.size, 1, none⟩ (.int .i64 RC.y0)).setCell ⟨w7.heap.size, 2, none⟩ (.int .i64 RC.x1)).setCell ⟨w7.heap.size, 3, none⟩ (.int .i64 RC.y1)).setCell ⟨w7.heap.size, 4, none⟩ (.slice A9 nC c9))) (w.heap.size + 1) 29 #[.int .i64 b.r.x0, .int .i64 b.r.y0, .int .i64 b.r.x1, .int .i64 b.r.y1, .slice b.A b.n b.c] := (((((kB9.far (p := ⟨w7.heap.size, 0, none⟩) (show w.heap.size + 1 ≠ w7.heap.size by omega) (.int .i64 RC.x0)).far (p := ⟨w7.heap.size, 1, none⟩) (show w.heap.size + 1 ≠ w7.heap.size by omega) (.int .i64 RC.y0)).far (p := ⟨w7.heap.size, 2, none⟩) (show w.heap.size + 1 ≠ w7.heap.size by omega) (.int .i64 RC.x1)).far (p := ⟨w7.heap.size, 3, none⟩) (show w.heap.size + 1 ≠ w7.heap.size by omega) (.int .i64 RC.y1)).far (p := ⟨w7.heap.size, 4, none⟩) (show w.heap.size + 1 ≠ w7.heap.size by omega) (.slice A9 nC c9))
            have mQ : Bk ((((((w9.setCell ⟨w7.heap.size, 0, none⟩ (.int .i64 RC.x0)).setCell ⟨w7.heap.size, 1, none⟩ (.int .i64 RC.y0)).setCell ⟨w7.heap.size, 2, none⟩ (.int .i64 RC.x1)).setCell ⟨w7.heap.size, 3, none⟩ (.int .i64 RC.y1)).setCell ⟨w7.heap.size, 4, none⟩ (.slice A9 nC c9))) (w.heap.size + 1 + 1) 26 #[.int .i64 r.x0, .int .i64 r.y0, .int .i64 r.x1, .int .i64 r.y1] := (((((kQ9.far (p := ⟨w7.heap.size, 0, none⟩) (show w.heap.size + 1 + 1 ≠ w7.heap.size by omega) (.int .i64 RC.x0)).far (p := ⟨w7.heap.size, 1, none⟩) (show w.heap.size + 1 + 1 ≠ w7.heap.size by omega) (.int .i64 RC.y0)).far (p := ⟨w7.heap.size, 2, none⟩) (show w.heap.size + 1 + 1 ≠ w7.heap.size by omega) (.int .i64 RC.x1)).far (p := ⟨w7.heap.size, 3, none⟩) (show w.heap.size + 1 + 1 ≠ w7.heap.size by omega) (.int .i64 RC.y1)).far (p := ⟨w7.heap.size, 4, none⟩) (show w.heap.size + 1 + 1 ≠ w7.heap.size by omega) (.slice A9 nC c9))
            have mU : Bk ((((((w9.setCell ⟨w7.heap.size, 0, none⟩ (.int .i64 RC.x0)).setCell ⟨w7.heap.size, 1, none⟩ (.int .i64 RC.y0)).setCell ⟨w7.heap.size, 2, none⟩ (.int .i64 RC.x1)).setCell ⟨w7.heap.size, 3, none⟩ (.int .i64 RC.y1)).setCell ⟨w7.heap.size, 4, none⟩ (.slice A9 nC c9))) (w8.heap.size) 29 #[.int .i64 R1.x0, .int .i64 R1.y0, .int .i64 R1.x1, .int .i64 R1.y1, .slice A8 n1 c8] := (((((kU9.far (p := ⟨w7.heap.size, 0, none⟩) (show w8.heap.size ≠ w7.heap.size by omega) (.int .i64 RC.x0)).far (p := ⟨w7.heap.size, 1, none⟩) (show w8.heap.size ≠ w7.heap.size by omega) (.int .i64 RC.y0)).far (p := ⟨w7.heap.size, 2, none⟩) (show w8.heap.size ≠ w7.heap.size by omega) (.int .i64 RC.x1)).far (p := ⟨w7.heap.size, 3, none⟩) (show w8.heap.size ≠ w7.heap.size by omega) (.int .i64 RC.y1)).far (p := ⟨w7.heap.size, 4, none⟩) (show w8.heap.size ≠ w7.heap.size by omega) (.slice A9 nC c9))
            have mM : Bk ((((((w9.setCell ⟨w7.heap.size, 0, none⟩ (.int .i64 RC.x0)).setCell ⟨w7.heap.size, 1, none⟩ (.int .i64 RC.y0)).setCell ⟨w7.heap.size, 2, none⟩ (.int .i64 RC.x1)).setCell ⟨w7.heap.size, 3, none⟩ (.int .i64 RC.y1)).setCell ⟨w7.heap.size, 4, none⟩ (.slice A9 nC c9))) (w7.heap.size) 29 #[.int .i64 RC.x0, .int .i64 RC.y0, .int .i64 RC.x1, .int .i64 RC.y1, .slice A9 nC c9] := (((((kM9.set 0 (.int .i64 RC.x0)).set 1 (.int .i64 RC.y0)).set 2 (.int .i64 RC.x1)).set 3 (.int .i64 RC.y1)).set 4 (.slice A9 nC c9))
            have hBs : Below w.heap.size w ((((((w9.setCell ⟨w7.heap.size, 0, none⟩ (.int .i64 RC.x0)).setCell ⟨w7.heap.size, 1, none⟩ (.int .i64 RC.y0)).setCell ⟨w7.heap.size, 2, none⟩ (.int .i64 RC.x1)).setCell ⟨w7.heap.size, 3, none⟩ (.int .i64 RC.y1)).setCell ⟨w7.heap.size, 4, none⟩ (.slice A9 nC c9))) := (bset (bset (bset (bset (bset hB9 (p := ⟨w7.heap.size, 0, none⟩) (by show _ ≤ w7.heap.size; omega) (.int .i64 RC.x0)) (p := ⟨w7.heap.size, 1, none⟩) (by show _ ≤ w7.heap.size; omega) (.int .i64 RC.y0)) (p := ⟨w7.heap.size, 2, none⟩) (by show _ ≤ w7.heap.size; omega) (.int .i64 RC.x1)) (p := ⟨w7.heap.size, 3, none⟩) (by show _ ≤ w7.heap.size; omega) (.int .i64 RC.y1)) (p := ⟨w7.heap.size, 4, none⟩) (by show _ ≤ w7.heap.size; omega) (.slice A9 nC c9))
            have soU := (((((oU.setFar kM9 (by decide) 0 (.int .i64 RC.x0)).setFar (kM9.set 0 (.int .i64 RC.x0)) (by decide) 1 (.int .i64 RC.y0)).setFar ((kM9.set 0 (.int .i64 RC.x0)).set 1 (.int .i64 RC.y0)) (by decide) 2 (.int .i64 RC.x1)).setFar (((kM9.set 0 (.int .i64 RC.x0)).set 1 (.int .i64 RC.y0)).set 2 (.int .i64 RC.x1)) (by decide) 3 (.int .i64 RC.y1)).setFar ((((kM9.set 0 (.int .i64 RC.x0)).set 1 (.int .i64 RC.y0)).set 2 (.int .i64 RC.x1)).set 3 (.int .i64 RC.y1)) (by decide) 4 (.slice A9 nC c9))
            have soM := (((((oM.setFar kM9 (by decide) 0 (.int .i64 RC.x0)).setFar (kM9.set 0 (.int .i64 RC.x0)) (by decide) 1 (.int .i64 RC.y0)).setFar ((kM9.set 0 (.int .i64 RC.x0)).set 1 (.int .i64 RC.y0)) (by decide) 2 (.int .i64 RC.x1)).setFar (((kM9.set 0 (.int .i64 RC.x0)).set 1 (.int .i64 RC.y0)).set 2 (.int .i64 RC.x1)) (by decide) 3 (.int .i64 RC.y1)).setFar ((((kM9.set 0 (.int .i64 RC.x0)).set 1 (.int .i64 RC.y0)).set 2 (.int .i64 RC.x1)).set 3 (.int .i64 RC.y1)) (by decide) 4 (.slice A9 nC c9))
            generalize (((((w9.setCell ⟨w7.heap.size, 0, none⟩ (.int .i64 RC.x0)).setCell ⟨w7.heap.size, 1, none⟩ (.int .i64 RC.y0)).setCell ⟨w7.heap.size, 2, none⟩ (.int .i64 RC.x1)).setCell ⟨w7.heap.size, 3, none⟩ (.int .i64 RC.y1)).setCell ⟨w7.heap.size, 4, none⟩ (.slice A9 nC c9)) = wS at mA mB mQ mU mM hBs soU soM ⊢
            have HRU : Hid (RdL encB 1 wS A8 L1) := by
              obtain ⟨A', c', hv', hr', _⟩ := soU.form encB_len
              injection hv' with h1
              rw [h1]; exact hr'
            have HRM : Hid (RdL encB 1 wS A9 LC) := by
              obtain ⟨A', c', hv', hr', _⟩ := soM.form encB_len
              injection hv' with h1
              rw [h1]; exact hr'
            clear oU oM soU soM kA9 kB9 kQ9 kU9 kM9
            
            refine (HCa.out _ (HA.out.below hBs)).mono ?_
            rintro e w10 ⟨v10, rfl, ho10, hb10⟩
            obtain ⟨A10, c10, hv10, hr10, hle10, hmx10⟩ := ho10.form2 encB_len
            rw [Hna.out] at hv10 hle10
            subst hv10
            have HR10 := Lib.hid hr10
            have HC10 := Lib.hid (And.intro hle10 hmx10)
            clear hr10 hle10 hmx10
            clear ho10
            
            have kB10 : Bk w10 (w.heap.size + 1) 29 #[.int .i64 b.r.x0, .int .i64 b.r.y0, .int .i64 b.r.x1, .int .i64 b.r.y1, .slice b.A b.n b.c] := (by repeat (first | (with_reducible assumption) | ((with_reducible refine Bk.new _ _ _ ?_); first | (with_reducible rfl) | (simp; done)) | (with_reducible refine Bk.alloc ?_ _) | (with_reducible refine Bk.drew ?_) | (with_reducible refine Bk.drewN ?_ _) | ((with_reducible refine Bk.far ?_ ?_ _); rotate_left; focus (first | (simp; done) | (simp; omega))) | (with_reducible refine Bk.below ?_ (by with_reducible assumption)))); obtain ⟨kcB10, kfB10, kaB10, kgB10, klB10⟩ := kB10.rules; have kQ10 : Bk w10 (w.heap.size + 1 + 1) 26 #[.int .i64 r.x0, .int .i64 r.y0, .int .i64 r.x1, .int .i64 r.y1] := (by repeat (first | (with_reducible assumption) | ((with_reducible refine Bk.new _ _ _ ?_); first | (with_reducible rfl) | (simp; done)) | (with_reducible refine Bk.alloc ?_ _) | (with_reducible refine Bk.drew ?_) | (with_reducible refine Bk.drewN ?_ _) | ((with_reducible refine Bk.far ?_ ?_ _); rotate_left; focus (first | (simp; done) | (simp; omega))) | (with_reducible refine Bk.below ?_ (by with_reducible assumption)))); obtain ⟨kcQ10, kfQ10, kaQ10, kgQ10, klQ10⟩ := kQ10.rules
            go_wp2_with fail
            refine (HCb.out _ (HB.out.below (by repeat (first | (with_reducible exact Below.refl _ _) | (with_reducible refine balloc ?_ _) | (with_reducible refine Below.drew ?_) | (with_reducible refine bdrewN ?_ _) | ((with_reducible refine bset ?_ ?_ _); rotate_left; focus (first | (with_reducible exact Nat.le_refl _) | (simp; done) | (simp; omega) | omega)) | (with_reducible refine bstep (by with_reducible assumption) ?_))))).mono ?_
            rintro e w11 ⟨v11, rfl, ho11, hb11⟩
            clear kcB10 kfB10 kaB10 kgB10 kcQ10 kfQ10 kaQ10 kgQ10
            obtain ⟨A11, c11, hv11, hr11, hle11, hmx11⟩ := ho11.form2 encB_len
            rw [Hnb.out] at hv11 hle11
            subst hv11
            have HR11 := Lib.hid hr11
            have HC11 := Lib.hid (And.intro hle11 hmx11)
            clear hr11 hle11 hmx11
            clear ho11
            
            have kD11 : Bk _ _ _ _ := Bk.new w11 29 #[.int .i64 Rb.x0, .int .i64 Rb.y0, .int .i64 Rb.x1, .int .i64 Rb.y1, .slice A11 nb c11] rfl
            have kC11 : Bk w11 (w10.heap.size) 29 #[.int .i64 Ra.x0, .int .i64 Ra.y0, .int .i64 Ra.x1, .int .i64 Ra.y1, .slice A10 na c10] := (by repeat (first | (with_reducible assumption) | ((with_reducible refine Bk.new _ _ _ ?_); first | (with_reducible rfl) | (simp; done)) | (with_reducible refine Bk.alloc ?_ _) | (with_reducible refine Bk.drew ?_) | (with_reducible refine Bk.drewN ?_ _) | ((with_reducible refine Bk.far ?_ ?_ _); rotate_left; focus (first | (simp; done) | (simp; omega))) | (with_reducible refine Bk.below ?_ (by with_reducible assumption)))); obtain ⟨kcC11, kfC11, kaC11, kgC11, klC11⟩ := kC11.rules
            go_wp2_with fail
            refine (HMcd.out A10 c10 A11 c11 _ _ _ (rd_of_bk (e := 29) encMk_len (Bk.new _ _ _ (by first | rfl | simp)) rfl) (by omega) (by unfold maxLen; omega) (fun x hx => by
              rcases List.mem_cons.1 hx with h | h
              · rw [h]; exact ⟨HR10.out.below (by repeat (first | (with_reducible exact Below.refl _ _) | (with_reducible refine balloc ?_ _) | (with_reducible refine Below.drew ?_) | (with_reducible refine bdrewN ?_ _) | ((with_reducible refine bset ?_ ?_ _); rotate_left; focus (first | (with_reducible exact Nat.le_refl _) | (simp; done) | (simp; omega) | omega)) | (with_reducible refine bstep (by with_reducible assumption) ?_))), Hna.out, Hba.out, HC10.out.1, HC10.out.2⟩
              · rw [List.mem_singleton.1 h]; exact ⟨HR11.out.below (by repeat (first | (with_reducible exact Below.refl _ _) | (with_reducible refine balloc ?_ _) | (with_reducible refine Below.drew ?_) | (with_reducible refine bdrewN ?_ _) | ((with_reducible refine bset ?_ ?_ _); rotate_left; focus (first | (with_reducible exact Nat.le_refl _) | (simp; done) | (simp; omega) | omega)) | (with_reducible refine bstep (by with_reducible assumption) ?_))), Hnb.out, Hbb.out, HC11.out.1, HC11.out.2⟩)).mono ?_
            rintro e w12 ⟨v12, rfl, ho12, hb12⟩
            clear kcC11 kfC11 kaC11 kgC11
            have kC12 : Bk w12 (w10.heap.size) 29 #[.int .i64 Ra.x0, .int .i64 Ra.y0, .int .i64 Ra.x1, .int .i64 Ra.y1, .slice A10 na c10] := (by repeat (first | (with_reducible assumption) | ((with_reducible refine Bk.new _ _ _ ?_); first | (with_reducible rfl) | (simp; done)) | (with_reducible refine Bk.alloc ?_ _) | (with_reducible refine Bk.drew ?_) | (with_reducible refine Bk.drewN ?_ _) | ((with_reducible refine Bk.far ?_ ?_ _); rotate_left; focus (first | (simp; done) | (simp; omega))) | (with_reducible refine Bk.below ?_ (by with_reducible assumption)))); obtain ⟨kcC12, kfC12, kaC12, kgC12, klC12⟩ := kC12.rules; have kD12 : Bk w12 (w11.heap.size) 29 #[.int .i64 Rb.x0, .int .i64 Rb.y0, .int .i64 Rb.x1, .int .i64 Rb.y1, .slice A11 nb c11] := (by repeat (first | (with_reducible assumption) | ((with_reducible refine Bk.new _ _ _ ?_); first | (with_reducible rfl) | (simp; done)) | (with_reducible refine Bk.alloc ?_ _) | (with_reducible refine Bk.drew ?_) | (with_reducible refine Bk.drewN ?_ _) | ((with_reducible refine Bk.far ?_ ?_ _); rotate_left; focus (first | (simp; done) | (simp; omega))) | (with_reducible refine Bk.below ?_ (by with_reducible assumption)))); obtain ⟨kcD12, kfD12, kaD12, kgD12, klD12⟩ := kD12.rules
            obtain ⟨A12, c12, hv12, hr12, hle12, hmx12⟩ := ho12.form2 encB_len
            rw [HnC.out] at hv12 hle12
            subst hv12
            have HR12 := Lib.hid hr12
            have HC12 := Lib.hid (And.intro hle12 hmx12)
            clear hr12 hle12 hmx12
            clear ho12
            
            go_wp2_with fail
            refine (HUcd.out A10 c10 A11 c11 _ ⟨HR10.out.below (by repeat (first | (with_reducible exact Below.refl _ _) | (with_reducible refine balloc ?_ _) | (with_reducible refine Below.drew ?_) | (with_reducible refine bdrewN ?_ _) | ((with_reducible refine bset ?_ ?_ _); rotate_left; focus (first | (with_reducible exact Nat.le_refl _) | (simp; done) | (simp; omega) | omega)) | (with_reducible refine bstep (by with_reducible assumption) ?_))), Hna.out, Hba.out, HC10.out.1, HC10.out.2⟩ ⟨HR11.out.below (by repeat (first | (with_reducible exact Below.refl _ _) | (with_reducible refine balloc ?_ _) | (with_reducible refine Below.drew ?_) | (with_reducible refine bdrewN ?_ _) | ((with_reducible refine bset ?_ ?_ _); rotate_left; focus (first | (with_reducible exact Nat.le_refl _) | (simp; done) | (simp; omega) | omega)) | (with_reducible refine bstep (by with_reducible assumption) ?_))), Hnb.out, Hbb.out, HC11.out.1, HC11.out.2⟩).mono ?_
            rintro e w13 ⟨v13, rfl, ho13, hb13⟩
            clear kcC12 kfC12 kaC12 kgC12 kcD12 kfD12 kaD12 kgD12
            have kM13 : Bk w13 (w7.heap.size) 29 #[.int .i64 RC.x0, .int .i64 RC.y0, .int .i64 RC.x1, .int .i64 RC.y1, .slice A9 nC c9] := (by repeat (first | (with_reducible assumption) | ((with_reducible refine Bk.new _ _ _ ?_); first | (with_reducible rfl) | (simp; done)) | (with_reducible refine Bk.alloc ?_ _) | (with_reducible refine Bk.drew ?_) | (with_reducible refine Bk.drewN ?_ _) | ((with_reducible refine Bk.far ?_ ?_ _); rotate_left; focus (first | (simp; done) | (simp; omega))) | (with_reducible refine Bk.below ?_ (by with_reducible assumption)))); obtain ⟨kcM13, kfM13, kaM13, kgM13, klM13⟩ := kM13.rules; have kN13 : Bk w13 (w12.heap.size) 29 #[.int .i64 RC.x0, .int .i64 RC.y0, .int .i64 RC.x1, .int .i64 RC.y1, .slice A12 nC c12] := (by repeat (first | (with_reducible assumption) | ((with_reducible refine Bk.new _ _ _ ?_); first | (with_reducible rfl) | (simp; done)) | (with_reducible refine Bk.alloc ?_ _) | (with_reducible refine Bk.drew ?_) | (with_reducible refine Bk.drewN ?_ _) | ((with_reducible refine Bk.far ?_ ?_ _); rotate_left; focus (first | (simp; done) | (simp; omega))) | (with_reducible refine Bk.below ?_ (by with_reducible assumption)))); obtain ⟨kcN13, kfN13, kaN13, kgN13, klN13⟩ := kN13.rules
            obtain ⟨A13, c13, hv13, hr13, hle13, hmx13⟩ := ho13.form2 encB_len
            rw [HnV.out] at hv13 hle13
            subst hv13
            have HR13 := Lib.hid hr13
            have HC13 := Lib.hid (And.intro hle13 hmx13)
            clear hr13 hle13 hmx13
            clear ho13
            
            go_wp2_with fail
            refine (rmequal_any RC RC A9 A12 nC nC c9 c12 LC LC _ (HRM.out.below (by repeat (first | (with_reducible exact Below.refl _ _) | (with_reducible refine balloc ?_ _) | (with_reducible refine Below.drew ?_) | (with_reducible refine bdrewN ?_ _) | ((with_reducible refine bset ?_ ?_ _); rotate_left; focus (first | (with_reducible exact Nat.le_refl _) | (simp; done) | (simp; omega) | omega)) | (with_reducible refine bstep (by with_reducible assumption) ?_)))) (HR12.out.below (by repeat (first | (with_reducible exact Below.refl _ _) | (with_reducible refine balloc ?_ _) | (with_reducible refine Below.drew ?_) | (with_reducible refine bdrewN ?_ _) | ((with_reducible refine bset ?_ ?_ _); rotate_left; focus (first | (with_reducible exact Nat.le_refl _) | (simp; done) | (simp; omega) | omega)) | (with_reducible refine bstep (by with_reducible assumption) ?_)))) HnC.out HnC.out (by omega) (by omega) true ⟨fun _ => ⟨rfl, rfl⟩, fun _ => rfl⟩).mono ?_
            rintro e w14 ⟨rfl, hb14⟩
            clear kcM13 kfM13 kaM13 kgM13 kcN13 kfN13 kaN13 kgN13
            have kA14 : Bk w14 (w.heap.size) 29 #[.int .i64 a.r.x0, .int .i64 a.r.y0, .int .i64 a.r.x1, .int .i64 a.r.y1, .slice a.A a.n a.c] := (by repeat (first | (with_reducible assumption) | ((with_reducible refine Bk.new _ _ _ ?_); first | (with_reducible rfl) | (simp; done)) | (with_reducible refine Bk.alloc ?_ _) | (with_reducible refine Bk.drew ?_) | (with_reducible refine Bk.drewN ?_ _) | ((with_reducible refine Bk.far ?_ ?_ _); rotate_left; focus (first | (simp; done) | (simp; omega))) | (with_reducible refine Bk.below ?_ (by with_reducible assumption)))); obtain ⟨kcA14, kfA14, kaA14, kgA14, klA14⟩ := kA14.rules; have kB14 : Bk w14 (w.heap.size + 1) 29 #[.int .i64 b.r.x0, .int .i64 b.r.y0, .int .i64 b.r.x1, .int .i64 b.r.y1, .slice b.A b.n b.c] := (by repeat (first | (with_reducible assumption) | ((with_reducible refine Bk.new _ _ _ ?_); first | (with_reducible rfl) | (simp; done)) | (with_reducible refine Bk.alloc ?_ _) | (with_reducible refine Bk.drew ?_) | (with_reducible refine Bk.drewN ?_ _) | ((with_reducible refine Bk.far ?_ ?_ _); rotate_left; focus (first | (simp; done) | (simp; omega))) | (with_reducible refine Bk.below ?_ (by with_reducible assumption)))); obtain ⟨kcB14, kfB14, kaB14, kgB14, klB14⟩ := kB14.rules
            go_wp2_with fail
            refine (runion_q _ _ _ _ _ _ _ _ U HU' _).mono ?_
            rintro e w15 ⟨rfl, hb15⟩
            clear kcA14 kfA14 kaA14 kgA14 kcB14 kfB14 kaB14 kgB14
            
            have kQ : Bk (w15.alloc (.cells #[.int .i64 U.x0, .int .i64 U.y0, .int .i64 U.x1, .int .i64 U.y1] 26)) (w.heap.size + 1 + 1) 26 #[.int .i64 r.x0, .int .i64 r.y0, .int .i64 r.x1, .int .i64 r.y1] := (by repeat (first | (with_reducible assumption) | ((with_reducible refine Bk.new _ _ _ ?_); first | (with_reducible rfl) | (simp; done)) | (with_reducible refine Bk.alloc ?_ _) | (with_reducible refine Bk.drew ?_) | (with_reducible refine Bk.drewN ?_ _) | ((with_reducible refine Bk.far ?_ ?_ _); rotate_left; focus (first | (simp; done) | (simp; omega))) | (with_reducible refine Bk.below ?_ (by with_reducible assumption))))
            have kU : Bk (w15.alloc (.cells #[.int .i64 U.x0, .int .i64 U.y0, .int .i64 U.x1, .int .i64 U.y1] 26)) (w8.heap.size) 29 #[.int .i64 R1.x0, .int .i64 R1.y0, .int .i64 R1.x1, .int .i64 R1.y1, .slice A8 n1 c8] := (by repeat (first | (with_reducible assumption) | ((with_reducible refine Bk.new _ _ _ ?_); first | (with_reducible rfl) | (simp; done)) | (with_reducible refine Bk.alloc ?_ _) | (with_reducible refine Bk.drew ?_) | (with_reducible refine Bk.drewN ?_ _) | ((with_reducible refine Bk.far ?_ ?_ _); rotate_left; focus (first | (simp; done) | (simp; omega))) | (with_reducible refine Bk.below ?_ (by with_reducible assumption))))
            have kV : Bk (w15.alloc (.cells #[.int .i64 U.x0, .int .i64 U.y0, .int .i64 U.x1, .int .i64 U.y1] 26)) (w13.heap.size) 29 #[.int .i64 RV.x0, .int .i64 RV.y0, .int .i64 RV.x1, .int .i64 RV.y1, .slice A13 nV c13] := (by repeat (first | (with_reducible assumption) | ((with_reducible refine Bk.new _ _ _ ?_); first | (with_reducible rfl) | (simp; done)) | (with_reducible refine Bk.alloc ?_ _) | (with_reducible refine Bk.drew ?_) | (with_reducible refine Bk.drewN ?_ _) | ((with_reducible refine Bk.far ?_ ?_ _); rotate_left; focus (first | (simp; done) | (simp; omega))) | (with_reducible refine Bk.below ?_ (by with_reducible assumption))))
            have kZ : Bk (w15.alloc (.cells #[.int .i64 U.x0, .int .i64 U.y0, .int .i64 U.x1, .int .i64 U.y1] 26)) (w15.heap.size) 26 #[.int .i64 U.x0, .int .i64 U.y0, .int .i64 U.x1, .int .i64 U.y1] := Bk.new _ _ _ rfl
            have hrU : RdL encB 1 (w15.alloc (.cells #[.int .i64 U.x0, .int .i64 U.y0, .int .i64 U.x1, .int .i64 U.y1] 26)) A8 L1 := HRU.out.below (by repeat (first | (with_reducible exact Below.refl _ _) | (with_reducible refine balloc ?_ _) | (with_reducible refine Below.drew ?_) | (with_reducible refine bdrewN ?_ _) | ((with_reducible refine bset ?_ ?_ _); rotate_left; focus (first | (with_reducible exact Nat.le_refl _) | (simp; done) | (simp; omega) | omega)) | (with_reducible refine bstep (by with_reducible assumption) ?_)))
            have HXU := Lib.hid hrU
            have hrV : RdL encB 1 (w15.alloc (.cells #[.int .i64 U.x0, .int .i64 U.y0, .int .i64 U.x1, .int .i64 U.y1] 26)) A13 LV := HR13.out.below (by repeat (first | (with_reducible exact Below.refl _ _) | (with_reducible refine balloc ?_ _) | (with_reducible refine Below.drew ?_) | (with_reducible refine bdrewN ?_ _) | ((with_reducible refine bset ?_ ?_ _); rotate_left; focus (first | (with_reducible exact Nat.le_refl _) | (simp; done) | (simp; omega) | omega)) | (with_reducible refine bstep (by with_reducible assumption) ?_)))
            have HXV := Lib.hid hrV
            have hBW : Below w.heap.size w (w15.alloc (.cells #[.int .i64 U.x0, .int .i64 U.y0, .int .i64 U.x1, .int .i64 U.y1] 26)) := (by repeat (first | (with_reducible exact Below.refl _ _) | (with_reducible refine balloc ?_ _) | (with_reducible refine Below.drew ?_) | (with_reducible refine bdrewN ?_ _) | ((with_reducible refine bset ?_ ?_ _); rotate_left; focus (first | (with_reducible exact Nat.le_refl _) | (simp; done) | (simp; omega) | omega)) | (with_reducible refine bstep (by with_reducible assumption) ?_)))
            obtain ⟨kcZ9, kfZ9, kaZ9, kgZ9, klZ9⟩ := kZ.rules
            go_wp2_with fail
            clear kcZ9 kfZ9 kaZ9 kgZ9
            generalize (w15.alloc (.cells #[.int .i64 U.x0, .int .i64 U.y0, .int .i64 U.x1, .int .i64 U.y1] 26)) = W0 at kQ kU kV kZ HXU HXV hBW hrU hrV ⊢
            obtain ⟨⟨qx0, qx1, qx2⟩, ⟨qy0, qy1, qy2⟩⟩ := hcq
            obtain ⟨wd, hwd⟩ : ∃ n : Nat, U.x1 - U.x0 = (n : Int) := ⟨(U.x1 - U.x0).toNat, by omega⟩
            obtain ⟨ht, hht⟩ : ∃ n : Nat, U.y1 - U.y0 = (n : Int) := ⟨(U.y1 - U.y0).toNat, by omega⟩
            go_loopw [20] (fun i wr => ∃ (j : Nat), j ≤ ht ∧ i = .int .i64 (U.y0 + j) ∧ Below W0.heap.size W0 wr) (fun i _ => (U.y1 - intOf i).toNat)
            case atStart => exact ⟨0, Nat.zero_le _, by simp, Below.refl _ _⟩
            case round =>
              obtain ⟨j, hj, rfl, hbw⟩ := hrel
              have jQ := kQ.below hbw
              obtain ⟨kcQ, kfQ, kaQ, kgQ, klQ⟩ := jQ.rules
              have jU := kU.below hbw
              obtain ⟨kcU, kfU, kaU, kgU, klU⟩ := jU.rules
              have jV := kV.below hbw
              obtain ⟨kcV, kfV, kaV, kgV, klV⟩ := jV.rules
              have jZ := kZ.below hbw
              obtain ⟨kcZ, kfZ, kaZ, kgZ, klZ⟩ := jZ.rules
              by_cases hlt : U.y0 + j < U.y1
              · go_wp2_with fail
                clear kcQ kfQ kaQ kgQ kcU kfU kaU kgU kcV kfV kaV kgV kcZ kfZ kaZ kgZ
                go_loopw [21] (fun i wr => ∃ (k : Nat), k ≤ wd ∧ i = .int .i64 (U.x0 + k) ∧ Below W0.heap.size W0 wr) (fun i _ => (U.x1 - intOf i).toNat)
                case atStart => exact ⟨0, Nat.zero_le _, by simp, hbw⟩
                case round =>
                  obtain ⟨k, hk, rfl, hbw⟩ := hrel
                  have jQ := kQ.below hbw
                  obtain ⟨kcQ, kfQ, kaQ, kgQ, klQ⟩ := jQ.rules
                  have jU := kU.below hbw
                  obtain ⟨kcU, kfU, kaU, kgU, klU⟩ := jU.rules
                  have jV := kV.below hbw
                  obtain ⟨kcV, kfV, kaV, kgV, klV⟩ := jV.rules
                  have jZ := kZ.below hbw
                  obtain ⟨kcZ, kfZ, kaZ, kgZ, klZ⟩ := jZ.rules
                  by_cases hlx : U.x0 + k < U.x1
                  · have hcon : containsB U (U.x0 + k) (U.y0 + j) = true := (contains_iff hcn.out _ _).2 ⟨by omega, by omega, by omega, by omega⟩
                    have HCON := Lib.hid hcon
                    clear hcon
                    cases hc : containsB r (U.x0 + (k : Int)) (U.y0 + (j : Int)) with
                    | false =>
                      have Hcc : Hid (containsB ⟨r.x0, r.y0, r.x1, r.y1⟩ (U.x0 + (k : Int)) (U.y0 + (j : Int)) = false) := hc
                      clear hc
                      go_wp2_with fail
                      clear kcQ kfQ kaQ kgQ kcU kfU kaU kgU kcV kfV kaV kgV kcZ kfZ kaZ kgZ
                      refine wp_region_gob 15 [(0, true), (1, true), (2, true), (3, false), (4, true), (5, true), (6, true), (7, true), (9, true), (10, true), (11, true), (8, false), (12, false), (13, true), (14, true)] (by kernel_rfl) (by kernel_rfl) (fun c a d v w h => by cases d <;> exact h) ?_
                      repeat (first | (refine wpGo_pure (v := ?_) rfl rfl (fun w' hS => ?_) ?_; rotate_left; (· have kQp : Bk w' (w.heap.size + 1 + 1) 26 #[.int .i64 r.x0, .int .i64 r.y0, .int .i64 r.x1, .int .i64 r.y1] := (by repeat (first | (with_reducible assumption) | ((with_reducible refine Bk.new _ _ _ ?_); first | (with_reducible rfl) | (simp; done)) | (with_reducible refine Bk.alloc ?_ _) | (with_reducible refine Bk.drew ?_) | (with_reducible refine Bk.drewN ?_ _) | ((with_reducible refine Bk.far ?_ ?_ _); rotate_left; focus (first | (simp; done) | (simp; omega))) | (with_reducible refine Bk.below ?_ (by with_reducible assumption)))); obtain ⟨kcQp, kfQp, kaQp, kgQp, klQp⟩ := kQp.rules; have kUp : Bk w' (w8.heap.size) 29 #[.int .i64 R1.x0, .int .i64 R1.y0, .int .i64 R1.x1, .int .i64 R1.y1, .slice A8 n1 c8] := (by repeat (first | (with_reducible assumption) | ((with_reducible refine Bk.new _ _ _ ?_); first | (with_reducible rfl) | (simp; done)) | (with_reducible refine Bk.alloc ?_ _) | (with_reducible refine Bk.drew ?_) | (with_reducible refine Bk.drewN ?_ _) | ((with_reducible refine Bk.far ?_ ?_ _); rotate_left; focus (first | (simp; done) | (simp; omega))) | (with_reducible refine Bk.below ?_ (by with_reducible assumption)))); obtain ⟨kcUp, kfUp, kaUp, kgUp, klUp⟩ := kUp.rules; have kVp : Bk w' (w13.heap.size) 29 #[.int .i64 RV.x0, .int .i64 RV.y0, .int .i64 RV.x1, .int .i64 RV.y1, .slice A13 nV c13] := (by repeat (first | (with_reducible assumption) | ((with_reducible refine Bk.new _ _ _ ?_); first | (with_reducible rfl) | (simp; done)) | (with_reducible refine Bk.alloc ?_ _) | (with_reducible refine Bk.drew ?_) | (with_reducible refine Bk.drewN ?_ _) | ((with_reducible refine Bk.far ?_ ?_ _); rotate_left; focus (first | (simp; done) | (simp; omega))) | (with_reducible refine Bk.below ?_ (by with_reducible assumption)))); obtain ⟨kcVp, kfVp, kaVp, kgVp, klVp⟩ := kVp.rules; go_simp; exact rfl); (try simp only [Act.put, List.setIfInBounds_toArray, List.set_cons_zero, List.set_cons_succ])) | ((refine wpGo_skip rfl rfl ?_); (try simp only [Act.put, List.setIfInBounds_toArray, List.set_cons_zero, List.set_cons_succ])))
                      refine wpGo_eff rfl (fun K hK => ?_)
                      go_simp
                      refine (rcontains_q _ _ _ _ _ _ false Hcc _).mono ?_
                      rintro e w21 ⟨rfl, hb21⟩
                      refine hK.out _ _ (by repeat (first | (with_reducible exact Below.refl _ _) | (with_reducible refine balloc ?_ _) | (with_reducible refine Below.drew ?_) | (with_reducible refine bdrewN ?_ _) | ((with_reducible refine bset ?_ ?_ _); rotate_left; focus (first | (with_reducible exact Nat.le_refl _) | (simp; done) | (simp; omega) | omega)) | (with_reducible refine bstep (by with_reducible assumption) ?_))) (fun hS21 => ?_)
                      clear hK K
                      repeat (first | (refine wpGo_pure (v := ?_) rfl rfl (fun w' hS => ?_) ?_; rotate_left; (· have kQp : Bk w' (w.heap.size + 1 + 1) 26 #[.int .i64 r.x0, .int .i64 r.y0, .int .i64 r.x1, .int .i64 r.y1] := (by repeat (first | (with_reducible assumption) | ((with_reducible refine Bk.new _ _ _ ?_); first | (with_reducible rfl) | (simp; done)) | (with_reducible refine Bk.alloc ?_ _) | (with_reducible refine Bk.drew ?_) | (with_reducible refine Bk.drewN ?_ _) | ((with_reducible refine Bk.far ?_ ?_ _); rotate_left; focus (first | (simp; done) | (simp; omega))) | (with_reducible refine Bk.below ?_ (by with_reducible assumption)))); obtain ⟨kcQp, kfQp, kaQp, kgQp, klQp⟩ := kQp.rules; have kUp : Bk w' (w8.heap.size) 29 #[.int .i64 R1.x0, .int .i64 R1.y0, .int .i64 R1.x1, .int .i64 R1.y1, .slice A8 n1 c8] := (by repeat (first | (with_reducible assumption) | ((with_reducible refine Bk.new _ _ _ ?_); first | (with_reducible rfl) | (simp; done)) | (with_reducible refine Bk.alloc ?_ _) | (with_reducible refine Bk.drew ?_) | (with_reducible refine Bk.drewN ?_ _) | ((with_reducible refine Bk.far ?_ ?_ _); rotate_left; focus (first | (simp; done) | (simp; omega))) | (with_reducible refine Bk.below ?_ (by with_reducible assumption)))); obtain ⟨kcUp, kfUp, kaUp, kgUp, klUp⟩ := kUp.rules; have kVp : Bk w' (w13.heap.size) 29 #[.int .i64 RV.x0, .int .i64 RV.y0, .int .i64 RV.x1, .int .i64 RV.y1, .slice A13 nV c13] := (by repeat (first | (with_reducible assumption) | ((with_reducible refine Bk.new _ _ _ ?_); first | (with_reducible rfl) | (simp; done)) | (with_reducible refine Bk.alloc ?_ _) | (with_reducible refine Bk.drew ?_) | (with_reducible refine Bk.drewN ?_ _) | ((with_reducible refine Bk.far ?_ ?_ _); rotate_left; focus (first | (simp; done) | (simp; omega))) | (with_reducible refine Bk.below ?_ (by with_reducible assumption)))); obtain ⟨kcVp, kfVp, kaVp, kgVp, klVp⟩ := kVp.rules; go_simp; exact rfl); (try simp only [Act.put, List.setIfInBounds_toArray, List.set_cons_zero, List.set_cons_succ])) | ((refine wpGo_skip rfl rfl ?_); (try simp only [Act.put, List.setIfInBounds_toArray, List.set_cons_zero, List.set_cons_succ])))
                      refine wpGo_eff rfl (fun K hK => ?_)
                      go_simp
                      refine hK.out _ _ (by repeat (first | (with_reducible exact Below.refl _ _) | (with_reducible refine balloc ?_ _) | (with_reducible refine Below.drew ?_) | (with_reducible refine bdrewN ?_ _) | ((with_reducible refine bset ?_ ?_ _); rotate_left; focus (first | (with_reducible exact Nat.le_refl _) | (simp; done) | (simp; omega) | omega)) | (with_reducible refine bstep (by with_reducible assumption) ?_))) (fun hS22 => ?_)
                      clear hK K
                      refine wpGo_eff rfl (fun K hK => ?_)
                      go_simp
                      refine hK.out _ _ (by repeat (first | (with_reducible exact Below.refl _ _) | (with_reducible refine balloc ?_ _) | (with_reducible refine Below.drew ?_) | (with_reducible refine bdrewN ?_ _) | ((with_reducible refine bset ?_ ?_ _); rotate_left; focus (first | (with_reducible exact Nat.le_refl _) | (simp; done) | (simp; omega) | omega)) | (with_reducible refine bstep (by with_reducible assumption) ?_))) (fun hS23 => ?_)
                      clear hK K
                      repeat (first | (refine wpGo_pure (v := ?_) rfl rfl (fun w' hS => ?_) ?_; rotate_left; (· have kQp : Bk w' (w.heap.size + 1 + 1) 26 #[.int .i64 r.x0, .int .i64 r.y0, .int .i64 r.x1, .int .i64 r.y1] := (by repeat (first | (with_reducible assumption) | ((with_reducible refine Bk.new _ _ _ ?_); first | (with_reducible rfl) | (simp; done)) | (with_reducible refine Bk.alloc ?_ _) | (with_reducible refine Bk.drew ?_) | (with_reducible refine Bk.drewN ?_ _) | ((with_reducible refine Bk.far ?_ ?_ _); rotate_left; focus (first | (simp; done) | (simp; omega))) | (with_reducible refine Bk.below ?_ (by with_reducible assumption)))); obtain ⟨kcQp, kfQp, kaQp, kgQp, klQp⟩ := kQp.rules; have kUp : Bk w' (w8.heap.size) 29 #[.int .i64 R1.x0, .int .i64 R1.y0, .int .i64 R1.x1, .int .i64 R1.y1, .slice A8 n1 c8] := (by repeat (first | (with_reducible assumption) | ((with_reducible refine Bk.new _ _ _ ?_); first | (with_reducible rfl) | (simp; done)) | (with_reducible refine Bk.alloc ?_ _) | (with_reducible refine Bk.drew ?_) | (with_reducible refine Bk.drewN ?_ _) | ((with_reducible refine Bk.far ?_ ?_ _); rotate_left; focus (first | (simp; done) | (simp; omega))) | (with_reducible refine Bk.below ?_ (by with_reducible assumption)))); obtain ⟨kcUp, kfUp, kaUp, kgUp, klUp⟩ := kUp.rules; have kVp : Bk w' (w13.heap.size) 29 #[.int .i64 RV.x0, .int .i64 RV.y0, .int .i64 RV.x1, .int .i64 RV.y1, .slice A13 nV c13] := (by repeat (first | (with_reducible assumption) | ((with_reducible refine Bk.new _ _ _ ?_); first | (with_reducible rfl) | (simp; done)) | (with_reducible refine Bk.alloc ?_ _) | (with_reducible refine Bk.drew ?_) | (with_reducible refine Bk.drewN ?_ _) | ((with_reducible refine Bk.far ?_ ?_ _); rotate_left; focus (first | (simp; done) | (simp; omega))) | (with_reducible refine Bk.below ?_ (by with_reducible assumption)))); obtain ⟨kcVp, kfVp, kaVp, kgVp, klVp⟩ := kVp.rules; go_simp; exact rfl); (try simp only [Act.put, List.setIfInBounds_toArray, List.set_cons_zero, List.set_cons_succ])) | ((refine wpGo_skip rfl rfl ?_); (try simp only [Act.put, List.setIfInBounds_toArray, List.set_cons_zero, List.set_cons_succ])))
                      refine wpGo_nil ?_
                      simp only [List.drop_succ_cons, List.drop_zero]
                      have hBE : Below W0.heap.size W0 w21 := (by repeat (first | (with_reducible exact Below.refl _ _) | (with_reducible refine balloc ?_ _) | (with_reducible refine Below.drew ?_) | (with_reducible refine bdrewN ?_ _) | ((with_reducible refine bset ?_ ?_ _); rotate_left; focus (first | (with_reducible exact Nat.le_refl _) | (simp; done) | (simp; omega) | omega)) | (with_reducible refine bstep (by with_reducible assumption) ?_)))
                      have eZ := kZ.below hBE
                      obtain ⟨kcZ, kfZ, kaZ, kgZ, klZ⟩ := eZ.rules
                      go_wp2
                      go_roundw
                      case rel => exact ⟨k + 1, by omega, by rw [show U.x0 + (k : Int) + 1 = U.x0 + ((k + 1 : Nat) : Int) by omega], hBE⟩
                      case measure => simp [intOf]; omega
                    | true =>
                      have Hcc : Hid (containsB ⟨r.x0, r.y0, r.x1, r.y1⟩ (U.x0 + (k : Int)) (U.y0 + (j : Int)) = true) := hc
                      obtain ⟨p, Hp⟩ : ∃ p, Hid (atV R1 L1 (U.x0 + (k : Int)) (U.y0 + (j : Int)) = p) := ⟨_, rfl⟩
                      have Hp2 : Hid (atV RV LV (U.x0 + (k : Int)) (U.y0 + (j : Int)) = p) := by unfold Hid; rw [← HOU.out (U.x0 + (k : Int)) (U.y0 + (j : Int)) HCON.out hc]; exact Hp.out
                      have hpp : (p != p) = false := by simp
                      clear hc
                      go_wp2_with fail
                      clear kcQ kfQ kaQ kgQ kcU kfU kaU kgU kcV kfV kaV kgV kcZ kfZ kaZ kgZ
                      refine wp_region_gob 15 [(0, true), (1, true), (2, true), (3, false), (4, true), (5, true), (6, true), (7, true), (9, true), (10, true), (11, true), (8, false), (12, false), (13, true), (14, true)] (by kernel_rfl) (by kernel_rfl) (fun c a d v w h => by cases d <;> exact h) ?_
                      repeat (first | (refine wpGo_pure (v := ?_) rfl rfl (fun w' hS => ?_) ?_; rotate_left; (· have kQp : Bk w' (w.heap.size + 1 + 1) 26 #[.int .i64 r.x0, .int .i64 r.y0, .int .i64 r.x1, .int .i64 r.y1] := (by repeat (first | (with_reducible assumption) | ((with_reducible refine Bk.new _ _ _ ?_); first | (with_reducible rfl) | (simp; done)) | (with_reducible refine Bk.alloc ?_ _) | (with_reducible refine Bk.drew ?_) | (with_reducible refine Bk.drewN ?_ _) | ((with_reducible refine Bk.far ?_ ?_ _); rotate_left; focus (first | (simp; done) | (simp; omega))) | (with_reducible refine Bk.below ?_ (by with_reducible assumption)))); obtain ⟨kcQp, kfQp, kaQp, kgQp, klQp⟩ := kQp.rules; have kUp : Bk w' (w8.heap.size) 29 #[.int .i64 R1.x0, .int .i64 R1.y0, .int .i64 R1.x1, .int .i64 R1.y1, .slice A8 n1 c8] := (by repeat (first | (with_reducible assumption) | ((with_reducible refine Bk.new _ _ _ ?_); first | (with_reducible rfl) | (simp; done)) | (with_reducible refine Bk.alloc ?_ _) | (with_reducible refine Bk.drew ?_) | (with_reducible refine Bk.drewN ?_ _) | ((with_reducible refine Bk.far ?_ ?_ _); rotate_left; focus (first | (simp; done) | (simp; omega))) | (with_reducible refine Bk.below ?_ (by with_reducible assumption)))); obtain ⟨kcUp, kfUp, kaUp, kgUp, klUp⟩ := kUp.rules; have kVp : Bk w' (w13.heap.size) 29 #[.int .i64 RV.x0, .int .i64 RV.y0, .int .i64 RV.x1, .int .i64 RV.y1, .slice A13 nV c13] := (by repeat (first | (with_reducible assumption) | ((with_reducible refine Bk.new _ _ _ ?_); first | (with_reducible rfl) | (simp; done)) | (with_reducible refine Bk.alloc ?_ _) | (with_reducible refine Bk.drew ?_) | (with_reducible refine Bk.drewN ?_ _) | ((with_reducible refine Bk.far ?_ ?_ _); rotate_left; focus (first | (simp; done) | (simp; omega))) | (with_reducible refine Bk.below ?_ (by with_reducible assumption)))); obtain ⟨kcVp, kfVp, kaVp, kgVp, klVp⟩ := kVp.rules; go_simp; exact rfl); (try simp only [Act.put, List.setIfInBounds_toArray, List.set_cons_zero, List.set_cons_succ])) | ((refine wpGo_skip rfl rfl ?_); (try simp only [Act.put, List.setIfInBounds_toArray, List.set_cons_zero, List.set_cons_succ])))
                      refine wpGo_eff rfl (fun K hK => ?_)
                      go_simp
                      refine (rcontains_q _ _ _ _ _ _ true Hcc _).mono ?_
                      rintro e w21 ⟨rfl, hb21⟩
                      refine hK.out _ _ (by repeat (first | (with_reducible exact Below.refl _ _) | (with_reducible refine balloc ?_ _) | (with_reducible refine Below.drew ?_) | (with_reducible refine bdrewN ?_ _) | ((with_reducible refine bset ?_ ?_ _); rotate_left; focus (first | (with_reducible exact Nat.le_refl _) | (simp; done) | (simp; omega) | omega)) | (with_reducible refine bstep (by with_reducible assumption) ?_))) (fun hS21 => ?_)
                      clear hK K
                      repeat (first | (refine wpGo_pure (v := ?_) rfl rfl (fun w' hS => ?_) ?_; rotate_left; (· have kQp : Bk w' (w.heap.size + 1 + 1) 26 #[.int .i64 r.x0, .int .i64 r.y0, .int .i64 r.x1, .int .i64 r.y1] := (by repeat (first | (with_reducible assumption) | ((with_reducible refine Bk.new _ _ _ ?_); first | (with_reducible rfl) | (simp; done)) | (with_reducible refine Bk.alloc ?_ _) | (with_reducible refine Bk.drew ?_) | (with_reducible refine Bk.drewN ?_ _) | ((with_reducible refine Bk.far ?_ ?_ _); rotate_left; focus (first | (simp; done) | (simp; omega))) | (with_reducible refine Bk.below ?_ (by with_reducible assumption)))); obtain ⟨kcQp, kfQp, kaQp, kgQp, klQp⟩ := kQp.rules; have kUp : Bk w' (w8.heap.size) 29 #[.int .i64 R1.x0, .int .i64 R1.y0, .int .i64 R1.x1, .int .i64 R1.y1, .slice A8 n1 c8] := (by repeat (first | (with_reducible assumption) | ((with_reducible refine Bk.new _ _ _ ?_); first | (with_reducible rfl) | (simp; done)) | (with_reducible refine Bk.alloc ?_ _) | (with_reducible refine Bk.drew ?_) | (with_reducible refine Bk.drewN ?_ _) | ((with_reducible refine Bk.far ?_ ?_ _); rotate_left; focus (first | (simp; done) | (simp; omega))) | (with_reducible refine Bk.below ?_ (by with_reducible assumption)))); obtain ⟨kcUp, kfUp, kaUp, kgUp, klUp⟩ := kUp.rules; have kVp : Bk w' (w13.heap.size) 29 #[.int .i64 RV.x0, .int .i64 RV.y0, .int .i64 RV.x1, .int .i64 RV.y1, .slice A13 nV c13] := (by repeat (first | (with_reducible assumption) | ((with_reducible refine Bk.new _ _ _ ?_); first | (with_reducible rfl) | (simp; done)) | (with_reducible refine Bk.alloc ?_ _) | (with_reducible refine Bk.drew ?_) | (with_reducible refine Bk.drewN ?_ _) | ((with_reducible refine Bk.far ?_ ?_ _); rotate_left; focus (first | (simp; done) | (simp; omega))) | (with_reducible refine Bk.below ?_ (by with_reducible assumption)))); obtain ⟨kcVp, kfVp, kaVp, kgVp, klVp⟩ := kVp.rules; go_simp; exact rfl); (try simp only [Act.put, List.setIfInBounds_toArray, List.set_cons_zero, List.set_cons_succ])) | ((refine wpGo_skip rfl rfl ?_); (try simp only [Act.put, List.setIfInBounds_toArray, List.set_cons_zero, List.set_cons_succ])))
                      refine wpGo_eff rfl (fun K hK => ?_)
                      go_simp
                      refine (mAt_any R1 A8 n1 c8 L1 _ _ _ (HXU.out.below (by repeat (first | (with_reducible exact Below.refl _ _) | (with_reducible refine balloc ?_ _) | (with_reducible refine Below.drew ?_) | (with_reducible refine bdrewN ?_ _) | ((with_reducible refine bset ?_ ?_ _); rotate_left; focus (first | (with_reducible exact Nat.le_refl _) | (simp; done) | (simp; omega) | omega)) | (with_reducible refine bstep (by with_reducible assumption) ?_)))) Hn1.out (by omega) p Hp).mono ?_
                      rintro e w22 ⟨rfl, hb22⟩
                      refine hK.out _ _ (by repeat (first | (with_reducible exact Below.refl _ _) | (with_reducible refine balloc ?_ _) | (with_reducible refine Below.drew ?_) | (with_reducible refine bdrewN ?_ _) | ((with_reducible refine bset ?_ ?_ _); rotate_left; focus (first | (with_reducible exact Nat.le_refl _) | (simp; done) | (simp; omega) | omega)) | (with_reducible refine bstep (by with_reducible assumption) ?_))) (fun hS22 => ?_)
                      clear hK K
                      refine wpGo_eff rfl (fun K hK => ?_)
                      go_simp
                      refine (mAt_any RV A13 nV c13 LV _ _ _ (HXV.out.below (by repeat (first | (with_reducible exact Below.refl _ _) | (with_reducible refine balloc ?_ _) | (with_reducible refine Below.drew ?_) | (with_reducible refine bdrewN ?_ _) | ((with_reducible refine bset ?_ ?_ _); rotate_left; focus (first | (with_reducible exact Nat.le_refl _) | (simp; done) | (simp; omega) | omega)) | (with_reducible refine bstep (by with_reducible assumption) ?_)))) HnV.out (by omega) p Hp2).mono ?_
                      rintro e w23 ⟨rfl, hb23⟩
                      refine hK.out _ _ (by repeat (first | (with_reducible exact Below.refl _ _) | (with_reducible refine balloc ?_ _) | (with_reducible refine Below.drew ?_) | (with_reducible refine bdrewN ?_ _) | ((with_reducible refine bset ?_ ?_ _); rotate_left; focus (first | (with_reducible exact Nat.le_refl _) | (simp; done) | (simp; omega) | omega)) | (with_reducible refine bstep (by with_reducible assumption) ?_))) (fun hS23 => ?_)
                      clear hK K
                      repeat (first | (refine wpGo_pure (v := ?_) rfl rfl (fun w' hS => ?_) ?_; rotate_left; (· have kQp : Bk w' (w.heap.size + 1 + 1) 26 #[.int .i64 r.x0, .int .i64 r.y0, .int .i64 r.x1, .int .i64 r.y1] := (by repeat (first | (with_reducible assumption) | ((with_reducible refine Bk.new _ _ _ ?_); first | (with_reducible rfl) | (simp; done)) | (with_reducible refine Bk.alloc ?_ _) | (with_reducible refine Bk.drew ?_) | (with_reducible refine Bk.drewN ?_ _) | ((with_reducible refine Bk.far ?_ ?_ _); rotate_left; focus (first | (simp; done) | (simp; omega))) | (with_reducible refine Bk.below ?_ (by with_reducible assumption)))); obtain ⟨kcQp, kfQp, kaQp, kgQp, klQp⟩ := kQp.rules; have kUp : Bk w' (w8.heap.size) 29 #[.int .i64 R1.x0, .int .i64 R1.y0, .int .i64 R1.x1, .int .i64 R1.y1, .slice A8 n1 c8] := (by repeat (first | (with_reducible assumption) | ((with_reducible refine Bk.new _ _ _ ?_); first | (with_reducible rfl) | (simp; done)) | (with_reducible refine Bk.alloc ?_ _) | (with_reducible refine Bk.drew ?_) | (with_reducible refine Bk.drewN ?_ _) | ((with_reducible refine Bk.far ?_ ?_ _); rotate_left; focus (first | (simp; done) | (simp; omega))) | (with_reducible refine Bk.below ?_ (by with_reducible assumption)))); obtain ⟨kcUp, kfUp, kaUp, kgUp, klUp⟩ := kUp.rules; have kVp : Bk w' (w13.heap.size) 29 #[.int .i64 RV.x0, .int .i64 RV.y0, .int .i64 RV.x1, .int .i64 RV.y1, .slice A13 nV c13] := (by repeat (first | (with_reducible assumption) | ((with_reducible refine Bk.new _ _ _ ?_); first | (with_reducible rfl) | (simp; done)) | (with_reducible refine Bk.alloc ?_ _) | (with_reducible refine Bk.drew ?_) | (with_reducible refine Bk.drewN ?_ _) | ((with_reducible refine Bk.far ?_ ?_ _); rotate_left; focus (first | (simp; done) | (simp; omega))) | (with_reducible refine Bk.below ?_ (by with_reducible assumption)))); obtain ⟨kcVp, kfVp, kaVp, kgVp, klVp⟩ := kVp.rules; go_simp; exact rfl); (try simp only [Act.put, List.setIfInBounds_toArray, List.set_cons_zero, List.set_cons_succ])) | ((refine wpGo_skip rfl rfl ?_); (try simp only [Act.put, List.setIfInBounds_toArray, List.set_cons_zero, List.set_cons_succ])))
                      refine wpGo_nil ?_
                      simp only [List.drop_succ_cons, List.drop_zero]
                      have hBE : Below W0.heap.size W0 w23 := (by repeat (first | (with_reducible exact Below.refl _ _) | (with_reducible refine balloc ?_ _) | (with_reducible refine Below.drew ?_) | (with_reducible refine bdrewN ?_ _) | ((with_reducible refine bset ?_ ?_ _); rotate_left; focus (first | (with_reducible exact Nat.le_refl _) | (simp; done) | (simp; omega) | omega)) | (with_reducible refine bstep (by with_reducible assumption) ?_)))
                      have eZ := kZ.below hBE
                      obtain ⟨kcZ, kfZ, kaZ, kgZ, klZ⟩ := eZ.rules
                      go_wp2
                      go_roundw
                      case rel => exact ⟨k + 1, by omega, by rw [show U.x0 + (k : Int) + 1 = U.x0 + ((k + 1 : Nat) : Int) by omega], hBE⟩
                      case measure => simp [intOf]; omega
                  · obtain rfl : k = wd := by omega
                    go_wp2
                    go_roundw
                    case rel => exact ⟨j + 1, by omega, by rw [show U.y0 + (j : Int) + 1 = U.y0 + ((j + 1 : Nat) : Int) by omega], hbw⟩
                    case measure => simp [intOf]; omega
              · obtain rfl : j = ht := by omega
                go_wp2_with fail
                refine (ex_any _).mono ?_
                rintro e w16 ⟨rfl, hb16⟩
                clear kcQ kfQ kaQ kgQ kcU kfU kaU kgU kcV kfV kaV kgV kcZ kfZ kaZ kgZ
                go_wp2
                go_ret
                exact ⟨rfl, (by repeat (first | (with_reducible exact Below.refl _ _) | (with_reducible refine balloc ?_ _) | (with_reducible refine Below.drew ?_) | (with_reducible refine bdrewN ?_ _) | ((with_reducible refine bset ?_ ?_ _); rotate_left; focus (first | (with_reducible exact Nat.le_refl _) | (simp; done) | (simp; omega) | omega)) | (with_reducible refine bstep (by with_reducible assumption) ?_)))⟩

set_option maxRecDepth 100000 in
theorem lifted_MaskCropCommutes (os : Os) (started : os.Started) (H : Type) (enc : TypeId × Value → H) :
    ReturnsInHanded {} Try.checked os 6 .any (Rows.maskCropCommutesSpec.pre6 enc Try.prog Try.f6 Rows.maskCropCommutesRow.domain false) (Rows.maskCropCommutesSpec.post enc Try.prog Try.f6 false true false false) := by
  refine returnsInHanded_of_change (C := Try.checked) Try.own started (by kernel_rfl) Try.func6
    (ChangeSpec.witness6 (enc := enc) (C := Try.checked) false ⟨#[], #[.agg #[.int .i64 0, .int .i64 0, .int .i64 0, .int .i64 0, .slice none 0 0], .agg #[.int .i64 0, .int .i64 0, .int .i64 0, .int .i64 0, .slice none 0 0], .agg #[.int .i64 0, .int .i64 0, .int .i64 0, .int .i64 0]], []⟩ 8 (by kernel_rfl) (by kernel_rfl) (by kernel_rfl) (by kernel_rfl)) ?_
  intro W base args ds gs before hval0 hW hcnd _
  have hval : ∀ (j : Nat) t v, Try.f6.params[j]? = some t → args[j]? = some v → Value.okWide Try.prog W .any base t v := hval0
  have hW' := hW
  obtain ⟨p, q, hA0, hV, rfl, hfz, hnd⟩ := hW
  have hA : DataW.TrodAll enc Try.prog W 0 (fun _ => true) true Try.f6.params.toList args.toList ds p := hA0
  rw [Try.params6] at hA hval
  obtain ⟨v0, vs0, d0, ds0, p0, q0, hargs, rfl, rfl, h0, r0⟩ := trodAll_cons hA
  obtain ⟨v1, vs1, d1, ds1, p1, q1, rfl, rfl, rfl, h1, r1⟩ := trodAll_cons r0
  obtain ⟨v2, vs2, d2, ds2, p2, q2, rfl, rfl, rfl, h2, r2⟩ := trodAll_cons r1
  obtain ⟨rfl, rfl, rfl⟩ := trodAll_nil r2
  obtain rfl : args = #[v0, v1, v2] := by cases args; simp_all
  obtain ⟨b0, rfl, ho0⟩ := openMk (hval 0 29 v0 rfl rfl) h0
  obtain ⟨b1, rfl, ho1⟩ := openMk (hval 1 29 v1 rfl rfl) h1
  obtain ⟨c20, c21, c22, c23, y20, y21, y22, y23, n2, rfl, _, _, f20, f21, f22, f23⟩ := Joins.open_agg4 Try.underlying26 (by kernel_rfl) (by kernel_rfl) (hval 2 26 v2 rfl rfl) h2
  obtain ⟨x20, rfl, g20⟩ := fld_int Try.underlying3 f20
  obtain ⟨x21, rfl, g21⟩ := fld_int Try.underlying3 f21
  obtain ⟨x22, rfl, g22⟩ := fld_int Try.underlying3 f22
  obtain ⟨x23, rfl, g23⟩ := fld_int Try.underlying3 f23
  refine (walk_MaskCropCommutes b0 b1 ⟨x20, x21, x22, x23⟩ W ho0 ho1).mono fun e W' ⟨he, hb⟩ => ?_
  subst he
  exact ⟨_, rfl, law_post (tb := 4) Try.laidOut (by kernel_rfl) hW' rfl rfl Try.underlying4 rfl rfl rfl hb⟩

theorem MaskCropCommutes_holds : Rows.MaskCropCommutesSaid :=
  OpenClaim.holds_of_wide 6 Try.f6 rfl rfl rfl rfl rfl rfl rfl ⟨rfl, rfl, rfl, rfl, rfl⟩ rfl rfl rfl rfl rfl (by kernel_rfl) Try.func6 (by kernel_rfl)
    (of_decide_eq_true (by kernel_rfl)) (by unfold Func.isWrapper; first | (rw [if_pos (by decide +kernel)]; kernel_rfl) | (rw [if_neg (by decide +kernel)]; exact ⟨rfl, rfl⟩))
    (fun os started H enc _ => lifted_MaskCropCommutes os started H enc)
#print axioms MaskCropCommutes_holds
end Go.Proofs.Ytndablijjkchjaa
