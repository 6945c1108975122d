/-
  Texts put together: RMorP, RExt, RMorT, RMorF, RDt.
-/
import Derived.Test.YtndablijjkchjaaMorA
import Derived.Test.YtndablijjkchjaaDt4
import Derived.Test.YtndablijjkchjaaMk1
import Derived.Test.YtndablijjkchjaaMk3
import Derived.Test.YtndablijjkchjaaMkMade0
import Derived.Test.YtndablijjkchjaaMk8
namespace Go.Proofs.Ytndablijjkchjaa
open Go.RowKit
set_option linter.unusedSimpArgs false
set_option linter.unusedVariables false

/-- v is the best of f's values at the places S. -/
def BestS (sg : Int) (f : Nat → Nat → Int) (S : Nat → Nat → Prop) (v : Int) : Prop := (∃ i j, S i j ∧ f i j = v) ∧ ∀ i j, S i j → sg * f i j ≤ sg * v
/-- The centre, k rows of the window, and l places of the next row. -/
def winP (x y xl xh yl k l : Nat) (i j : Nat) : Prop := (i = x ∧ j = y) ∨ (yl ≤ j ∧ j < yl + k ∧ xl ≤ i ∧ i < xh) ∨ (j = yl + k ∧ xl ≤ i ∧ i < xl + l)
section
variable {f : Nat → Nat → Int} {x y xl xh yl k l : Nat} {v sg : Int}
theorem bestS_start (sg : Int) (f : Nat → Nat → Int) (x y xl xh yl : Nat) : BestS sg f (winP x y xl xh yl 0 0) (f x y) :=
  ⟨⟨x, y, .inl ⟨rfl, rfl⟩, rfl⟩, fun i j h => by
    have h2 : i = x ∧ j = y := by unfold winP at h; omega
    rw [h2.1, h2.2]; exact Int.le_refl _⟩
theorem winP_succ {i j : Nat} : winP x y xl xh yl k (l + 1) i j ↔ winP x y xl xh yl k l i j ∨ (i = xl + l ∧ j = yl + k) := by unfold winP; omega
theorem bestS_step (h : BestS sg f (winP x y xl xh yl k l) v) {u : Int} (hu : u = v ∨ u = f (xl + l) (yl + k)) (h1 : sg * v ≤ sg * u) (h2 : sg * f (xl + l) (yl + k) ≤ sg * u) : BestS sg f (winP x y xl xh yl k (l + 1)) u := by
  obtain ⟨⟨a, b, ha, hb⟩, h3⟩ := h
  refine ⟨?_, fun i j hij => ?_⟩
  · rcases hu with hu | hu
    · exact ⟨a, b, winP_succ.2 (.inl ha), by rw [hu]; exact hb⟩
    · exact ⟨xl + l, yl + k, winP_succ.2 (.inr ⟨rfl, rfl⟩), hu.symm⟩
  · rcases winP_succ.1 hij with h4 | ⟨h4, h5⟩
    · exact Int.le_trans (h3 i j h4) h1
    · rw [h4, h5]; exact h2
theorem bestS_max (h : BestS 1 f (winP x y xl xh yl k l) v) : BestS 1 f (winP x y xl xh yl k (l + 1)) (max v (f (xl + l) (yl + k))) := bestS_step h (by omega) (by omega) (by omega)
theorem bestS_min (h : BestS (-1) f (winP x y xl xh yl k l) v) : BestS (-1) f (winP x y xl xh yl k (l + 1)) (min v (f (xl + l) (yl + k))) := bestS_step h (by omega) (by omega) (by omega)
theorem bestS_row (h : BestS sg f (winP x y xl xh yl k l) v) (hl : xl + l = xh) : BestS sg f (winP x y xl xh yl (k + 1) 0) v := by
  have e : ∀ i j, winP x y xl xh yl (k + 1) 0 i j ↔ winP x y xl xh yl k l i j := fun i j => by unfold winP; omega
  obtain ⟨⟨a, b, ha, hb⟩, h3⟩ := h
  exact ⟨⟨a, b, (e a b).2 ha, hb⟩, fun i j hij => h3 i j ((e i j).1 hij)⟩
theorem bestS_done {wd ht n : Nat} (hs : sg = 1 ∨ sg = -1) (h : BestS sg f (winP x y (x - n) (min (x + n + 1) wd) (y - n) k 0) v) (hk : y - n + k = min (y + n + 1) ht) (hx : x < wd) (hy : y < ht) : v = squareV sg f wd ht n x y := by
  obtain ⟨⟨a, b, ha, hb⟩, h3⟩ := h
  refine best2_unique hs (f := f) (wd := wd) (ht := ht) (n := n) (x := x) (y := y) ⟨?_, fun i j h4 h5 h6 h7 h8 h9 => h3 i j (by unfold winP; omega)⟩ (squareV_spec hs f hx hy)
  unfold winP at ha
  exact ⟨a, b, by omega, by omega, by omega, by omega, by omega, by omega, hb⟩
theorem bestS_byte (h : BestS sg f (winP x y xl xh yl k l) v) (hb : ∀ i j, 0 ≤ f i j ∧ f i j ≤ 255) : 0 ≤ v ∧ v ≤ 255 := by
  obtain ⟨⟨a, b, _, he⟩, _⟩ := h
  rw [← he]; exact hb a b
end
theorem atL_gF {b : Mk} (h : vMk b = true) {i j : Nat} (hi : i < wdB b) (hj : j < htB b) : atL 0 b.r b.l (b.r.x0 + (i : Int)) (b.r.y0 + (j : Int)) = gF (wdB b) b.l i j := by
  obtain ⟨_, h1, h2, _⟩ := grid_dim h
  have hc : containsB b.r (b.r.x0 + (i : Int)) (b.r.y0 + (j : Int)) = true := (contains_iff (mk_cn h).1 _ _).2 (by omega)
  rw [atL_gat h _ hc, show b.r.x0 + (i : Int) - b.r.x0 = (i : Int) by omega, show b.r.y0 + (j : Int) - b.r.y0 = (j : Int) by omega]
  exact gF_gat _ _ _ _
theorem made_shift (g : Int → Int → Int) (x0 y0 : Int) (wd ht : Nat) {G : Nat → Nat → Int} (hg : ∀ i j, i < wd → j < ht → g (x0 + (i : Int)) (y0 + (j : Int)) = G i j) {l : List Int} (hl : l.length = ht * wd) (h : ∀ i j, i < wd → j < ht → gF wd l i j = G i j) : madeL g x0 y0 wd ht = l := by
  refine grid_ext (wd := wd) (ht := ht) (madeL_len _ _ _ _ _) hl fun i j hi hj => ?_
  rw [h i j hi hj, ← hg i j hi hj]
  unfold gF
  rw [List.getD_eq_getElem?_getD, made_get g x0 y0 hi hj]; rfl
end Go.Proofs.Ytndablijjkchjaa

namespace Go.Proofs.Ytndablijjkchjaa
open Go.RowKit
set_option linter.unusedSimpArgs false
set_option linter.unusedVariables false


set_option maxHeartbeats 6400000 in
theorem rext_T (b : Mk) (cx cy nn : Nat) (w : World) (hb : b.ok w) (hnb : b.n ≤ 4000000000) (hv : vMk b = true) (hx : cx < wdB b) (hy : cy < htB b) (hnn : nn ≤ 64) (x y : Int) (hxx : x = b.r.x0 + (cx : Int)) (hyy : y = b.r.y0 + (cy : Int)) (p : Int) (Hp : Hid (squareV 1 (gF (wdB b) b.l) (wdB b) (htB b) nn cx cy = p)) :
    Calls Try.prog 88 #[.agg #[.int .i64 b.r.x0, .int .i64 b.r.y0, .int .i64 b.r.x1, .int .i64 b.r.y1, .slice b.A b.n b.c], .int .i64 x, .int .i64 y, .int .i64 (nn : Int), .bool true] w fun e w' => e = .returned (.int .u8 p) ∧ Below w.heap.size w w' := by
  have HB := Lib.hid hb
  obtain ⟨hlen, hwd0, hht0, hwl, hhl⟩ := grid_dim hv
  have hcb := canon_bd b.r
  rw [(mk_cn hv).1] at hcb
  obtain ⟨⟨bx0, bx1, bx2⟩, ⟨by0, by1, by2⟩⟩ := hcb
  have Hnb : Hid ((b.n : Int) = areaR b.r) := by unfold Hid; rw [← HB.out.ln]; exact (mk_cn hv).2.1
  have HAT : Hid (∀ i j : Nat, i < wdB b → j < htB b → atL 0 b.r b.l (b.r.x0 + (i : Int)) (b.r.y0 + (j : Int)) = gF (wdB b) b.l i j) := fun i j hi hj => atL_gF hv hi hj
  have HGB : Hid (∀ i j, 0 ≤ gF (wdB b) b.l i j ∧ gF (wdB b) b.l i j ≤ 255) := fun i j => gF_byte (ht := htB b) HB.out.byte i j
  generalize wdB b = wd at *
  generalize htB b = ht at *
  obtain ⟨f, Hf⟩ : ∃ f, Hid (gF wd b.l = f) := ⟨_, rfl⟩
  rw [Hf.out] at HAT HGB Hp
  have hwd := Lib.hid hwd0
  have hht := Lib.hid hht0
  obtain ⟨xl, hxl⟩ : ∃ u, cx - nn = u := ⟨_, rfl⟩
  obtain ⟨yl, hyl⟩ : ∃ u, cy - nn = u := ⟨_, rfl⟩
  obtain ⟨xh, hxh⟩ : ∃ u, min (cx + nn + 1) wd = u := ⟨_, rfl⟩
  obtain ⟨yh, hyh⟩ : ∃ u, min (cy + nn + 1) ht = u := ⟨_, rfl⟩
  have HX := Lib.hid (And.intro hxl (And.intro hyl (And.intro hxh hyh)))
  have r1 : max b.r.y0 (y - (nn : Int)) = b.r.y0 + (yl : Int) := by omega
  have r2 : max b.r.x0 (x - (nn : Int)) = b.r.x0 + (xl : Int) := by omega
  have r3 : min (b.r.y1 - 1) (y + (nn : Int)) = b.r.y0 + (yh : Int) - 1 := by omega
  have r4 : min (b.r.x1 - 1) (x + (nn : Int)) = b.r.x0 + (xh : Int) - 1 := by omega
  have s1 : yl ≤ yh ∧ yh ≤ ht := by omega
  have s2 : xl ≤ xh ∧ xh ≤ wd := by omega
  have hmx := max_if
  have hmn := min_if
  have x1 : -4096 ≤ x ∧ x ≤ 4096 := by omega
  have y1 : -4096 ≤ y ∧ y ≤ 4096 := by omega
  have HC0 : Hid (atL 0 b.r b.l x y = f cx cy) := by unfold Hid; rw [hxx, hyy]; exact HAT.out cx cy hx hy
  have HXY := Lib.hid (And.intro hx hy)
  clear hb hv hlen hwd0 hht0 hxl hyl hxh hyh hxx hyy hx hy
  go_enter Try.func88, Try.ntmps88
  go_wp2_with fail
  refine (mva_any b.r b.A b.n b.c b.l x y _ (HB.out.rd.below (by repeat (first | (with_reducible exact Below.refl _ _) | (with_reducible refine balloc ?_ _) | (with_reducible refine Below.drew ?_) | (with_reducible refine bdrewN ?_ _) | ((with_reducible refine bset ?_ ?_ _); rotate_left; focus (first | (with_reducible exact Nat.le_refl _) | (simp; done) | (simp; omega) | omega)) | (with_reducible refine bstep (by with_reducible assumption) ?_)))) HB.out.ln hnb Hnb.out (f cx cy) HC0).mono ?_
  rintro e w1 ⟨rfl, hb1⟩
  have kC1 : Bk w1 (w.heap.size) 29 #[.int .i64 b.r.x0, .int .i64 b.r.y0, .int .i64 b.r.x1, .int .i64 b.r.y1, .slice b.A b.n b.c] := (by repeat (first | (with_reducible assumption) | ((with_reducible refine Bk.new _ _ _ ?_); first | (with_reducible rfl) | (simp; done)) | (with_reducible refine Bk.alloc ?_ _) | (with_reducible refine Bk.drew ?_) | (with_reducible refine Bk.drewN ?_ _) | ((with_reducible refine Bk.far ?_ ?_ _); rotate_left; focus (first | (simp; done) | (simp; omega))) | (with_reducible refine Bk.below ?_ (by with_reducible assumption)))); obtain ⟨kcC1, kfC1, kaC1, kgC1, klC1⟩ := kC1.rules
  have hB1 : Below w.heap.size w w1 := (by repeat (first | (with_reducible exact Below.refl _ _) | (with_reducible refine balloc ?_ _) | (with_reducible refine Below.drew ?_) | (with_reducible refine bdrewN ?_ _) | ((with_reducible refine bset ?_ ?_ _); rotate_left; focus (first | (with_reducible exact Nat.le_refl _) | (simp; done) | (simp; omega) | omega)) | (with_reducible refine bstep (by with_reducible assumption) ?_)))
  clear hb1
  go_wp2_with fail
  clear kcC1 kfC1 kaC1 kgC1
  go_loopw [12, 11] (fun j u wr => ∃ (k : Nat) (v : Int), yl + k ≤ yh ∧ j = .int .i64 (b.r.y0 + ((yl + k : Nat) : Int)) ∧ u = .int .u8 v ∧ Hid (BestS 1 f (winP cx cy xl xh yl k 0) v) ∧ Bk wr w.heap.size 29 #[.int .i64 b.r.x0, .int .i64 b.r.y0, .int .i64 b.r.x1, .int .i64 b.r.y1, .slice b.A b.n b.c] ∧ Below w.heap.size w wr) (fun j _ _ => (b.r.y0 + (yh : Int) - intOf j).toNat)
  case atStart => exact ⟨0, f cx cy, by omega, by simp, rfl, Lib.hid (bestS_start _ _ _ _ _ _ _), kC1, hB1⟩
  case round =>
    clear kC1 hB1
    obtain ⟨k, v, hk, rfl, rfl, HV, jC, hbw⟩ := hrel
    obtain ⟨kcC, kfC, kaC, kgC, klC⟩ := jC.rules
    by_cases hlt : yl + k < yh
    · have c1 : b.r.y0 + ((yl + k : Nat) : Int) ≤ b.r.y0 + (yh : Int) - 1 := by omega
      have hyb : yl + k < ht := by omega
      obtain ⟨yk, hyk⟩ : ∃ u, yl + k = u := ⟨_, rfl⟩
      have HYK := Lib.hid hyk
      rw [hyk] at hk hlt c1 hyb ⊢
      clear hyk
      go_wp2_with fail
      clear kcC kfC kaC kgC
      go_loopw [13, 11] (fun i u wr => ∃ (l : Nat) (v : Int), xl + l ≤ xh ∧ i = .int .i64 (b.r.x0 + ((xl + l : Nat) : Int)) ∧ u = .int .u8 v ∧ Hid (BestS 1 f (winP cx cy xl xh yl k l) v) ∧ Bk wr w.heap.size 29 #[.int .i64 b.r.x0, .int .i64 b.r.y0, .int .i64 b.r.x1, .int .i64 b.r.y1, .slice b.A b.n b.c] ∧ Below w.heap.size w wr) (fun i _ _ => (b.r.x0 + (xh : Int) - intOf i).toNat)
      case atStart => exact ⟨0, v, by omega, by simp, rfl, HV, jC, hbw⟩
      case round =>
        clear jC hbw HV
        obtain ⟨l, v, hl, rfl, rfl, HV, jC, hbw⟩ := hrel
        obtain ⟨kcC, kfC, kaC, kgC, klC⟩ := jC.rules
        by_cases hlx : xl + l < xh
        · have HP : Hid (atL 0 b.r b.l (b.r.x0 + ((xl + l : Nat) : Int)) (b.r.y0 + (yk : Int)) = f (xl + l) (yl + k)) := by unfold Hid; rw [← HYK.out]; exact HAT.out _ _ (by omega) (by rw [HYK.out]; exact hyb)
          have HN : Hid (BestS 1 f (winP cx cy xl xh yl k (l + 1)) (max v (f (xl + l) (yl + k)))) := bestS_max HV.out
          have c2 : b.r.x0 + ((xl + l : Nat) : Int) ≤ b.r.x0 + (xh : Int) - 1 := by omega
          have hvb := bestS_byte HV.out HGB.out
          have hqb := HGB.out (xl + l) (yl + k)
          obtain ⟨q, Hq⟩ : ∃ q, Hid (f (xl + l) (yl + k) = q) := ⟨_, rfl⟩
          rw [Hq.out] at HP HN hqb
          have hxb : xl + l < wd := by omega
          obtain ⟨xk, hxk⟩ : ∃ u, xl + l = u := ⟨_, rfl⟩
          have HXK := Lib.hid hxk
          rw [hxk] at hl hlx c2 hxb HP ⊢
          clear hxk
          obtain ⟨v', hv'⟩ : ∃ u, max v q = u := ⟨_, rfl⟩
          rw [hv'] at HN
          go_wp2_with fail
          refine (mva_any b.r b.A b.n b.c b.l (b.r.x0 + (xk : Int)) (b.r.y0 + (yk : Int)) _ (HB.out.rd.below (by repeat (first | (with_reducible exact Below.refl _ _) | (with_reducible refine balloc ?_ _) | (with_reducible refine Below.drew ?_) | (with_reducible refine bdrewN ?_ _) | ((with_reducible refine bset ?_ ?_ _); rotate_left; focus (first | (with_reducible exact Nat.le_refl _) | (simp; done) | (simp; omega) | omega)) | (with_reducible refine bstep (by with_reducible assumption) ?_)))) HB.out.ln hnb Hnb.out q HP).mono ?_
          rintro e w2 ⟨rfl, hb2⟩
          clear kcC kfC kaC kgC
          have j2 := jC.below hb2
          have hB2 := bstep hb2 hbw
          clear hb2
          go_wp2
          go_roundw
          case rel => exact ⟨l + 1, v', by have := HXK.out; omega, by rw [show b.r.x0 + (xk : Int) + 1 = b.r.x0 + ((xl + (l + 1) : Nat) : Int) by have := HXK.out; omega], rfl, HN, j2, hB2⟩
          case measure => simp [intOf]; omega
        · have hxe : xl + l = xh := by omega
          have HN : Hid (BestS 1 f (winP cx cy xl xh yl (k + 1) 0) v) := bestS_row HV.out hxe
          have c2 : ¬ (b.r.x0 + ((xl + l : Nat) : Int) ≤ b.r.x0 + (xh : Int) - 1) := by omega
          clear hxe
          generalize xl + l = xk at *
          go_wp2
          go_roundw
          case rel => exact ⟨k + 1, v, by have := HYK.out; omega, by rw [show b.r.y0 + (yk : Int) + 1 = b.r.y0 + ((yl + (k + 1) : Nat) : Int) by have := HYK.out; omega], rfl, HN, jC, hbw⟩
          case measure => simp [intOf]; omega
    · have hye : yl + k = yh := by omega
      have HE : Hid (v = p) := by
        obtain ⟨e1, e2, e3, e4⟩ := HX.out
        have h := HV.out
        rw [← e1, ← e2, ← e3] at h
        unfold Hid
        rw [bestS_done (.inl rfl) h (by rw [e2, e4]; exact hye) HXY.out.1 HXY.out.2]
        exact Hp.out
      have c1 : ¬ (b.r.y0 + ((yl + k : Nat) : Int) ≤ b.r.y0 + (yh : Int) - 1) := by omega
      clear hye
      generalize yl + k = yk at *
      go_wp2
      go_ret
      exact ⟨ret_int HE.out, hbw⟩

set_option maxHeartbeats 6400000 in
theorem rext_F (b : Mk) (cx cy nn : Nat) (w : World) (hb : b.ok w) (hnb : b.n ≤ 4000000000) (hv : vMk b = true) (hx : cx < wdB b) (hy : cy < htB b) (hnn : nn ≤ 64) (x y : Int) (hxx : x = b.r.x0 + (cx : Int)) (hyy : y = b.r.y0 + (cy : Int)) (p : Int) (Hp : Hid (squareV (-1) (gF (wdB b) b.l) (wdB b) (htB b) nn cx cy = p)) :
    Calls Try.prog 88 #[.agg #[.int .i64 b.r.x0, .int .i64 b.r.y0, .int .i64 b.r.x1, .int .i64 b.r.y1, .slice b.A b.n b.c], .int .i64 x, .int .i64 y, .int .i64 (nn : Int), .bool false] w fun e w' => e = .returned (.int .u8 p) ∧ Below w.heap.size w w' := by
  have HB := Lib.hid hb
  obtain ⟨hlen, hwd0, hht0, hwl, hhl⟩ := grid_dim hv
  have hcb := canon_bd b.r
  rw [(mk_cn hv).1] at hcb
  obtain ⟨⟨bx0, bx1, bx2⟩, ⟨by0, by1, by2⟩⟩ := hcb
  have Hnb : Hid ((b.n : Int) = areaR b.r) := by unfold Hid; rw [← HB.out.ln]; exact (mk_cn hv).2.1
  have HAT : Hid (∀ i j : Nat, i < wdB b → j < htB b → atL 0 b.r b.l (b.r.x0 + (i : Int)) (b.r.y0 + (j : Int)) = gF (wdB b) b.l i j) := fun i j hi hj => atL_gF hv hi hj
  have HGB : Hid (∀ i j, 0 ≤ gF (wdB b) b.l i j ∧ gF (wdB b) b.l i j ≤ 255) := fun i j => gF_byte (ht := htB b) HB.out.byte i j
  generalize wdB b = wd at *
  generalize htB b = ht at *
  obtain ⟨f, Hf⟩ : ∃ f, Hid (gF wd b.l = f) := ⟨_, rfl⟩
  rw [Hf.out] at HAT HGB Hp
  have hwd := Lib.hid hwd0
  have hht := Lib.hid hht0
  obtain ⟨xl, hxl⟩ : ∃ u, cx - nn = u := ⟨_, rfl⟩
  obtain ⟨yl, hyl⟩ : ∃ u, cy - nn = u := ⟨_, rfl⟩
  obtain ⟨xh, hxh⟩ : ∃ u, min (cx + nn + 1) wd = u := ⟨_, rfl⟩
  obtain ⟨yh, hyh⟩ : ∃ u, min (cy + nn + 1) ht = u := ⟨_, rfl⟩
  have HX := Lib.hid (And.intro hxl (And.intro hyl (And.intro hxh hyh)))
  have r1 : max b.r.y0 (y - (nn : Int)) = b.r.y0 + (yl : Int) := by omega
  have r2 : max b.r.x0 (x - (nn : Int)) = b.r.x0 + (xl : Int) := by omega
  have r3 : min (b.r.y1 - 1) (y + (nn : Int)) = b.r.y0 + (yh : Int) - 1 := by omega
  have r4 : min (b.r.x1 - 1) (x + (nn : Int)) = b.r.x0 + (xh : Int) - 1 := by omega
  have s1 : yl ≤ yh ∧ yh ≤ ht := by omega
  have s2 : xl ≤ xh ∧ xh ≤ wd := by omega
  have hmx := max_if
  have hmn := min_if
  have x1 : -4096 ≤ x ∧ x ≤ 4096 := by omega
  have y1 : -4096 ≤ y ∧ y ≤ 4096 := by omega
  have HC0 : Hid (atL 0 b.r b.l x y = f cx cy) := by unfold Hid; rw [hxx, hyy]; exact HAT.out cx cy hx hy
  have HXY := Lib.hid (And.intro hx hy)
  clear hb hv hlen hwd0 hht0 hxl hyl hxh hyh hxx hyy hx hy
  go_enter Try.func88, Try.ntmps88
  go_wp2_with fail
  refine (mva_any b.r b.A b.n b.c b.l x y _ (HB.out.rd.below (by repeat (first | (with_reducible exact Below.refl _ _) | (with_reducible refine balloc ?_ _) | (with_reducible refine Below.drew ?_) | (with_reducible refine bdrewN ?_ _) | ((with_reducible refine bset ?_ ?_ _); rotate_left; focus (first | (with_reducible exact Nat.le_refl _) | (simp; done) | (simp; omega) | omega)) | (with_reducible refine bstep (by with_reducible assumption) ?_)))) HB.out.ln hnb Hnb.out (f cx cy) HC0).mono ?_
  rintro e w1 ⟨rfl, hb1⟩
  have kC1 : Bk w1 (w.heap.size) 29 #[.int .i64 b.r.x0, .int .i64 b.r.y0, .int .i64 b.r.x1, .int .i64 b.r.y1, .slice b.A b.n b.c] := (by repeat (first | (with_reducible assumption) | ((with_reducible refine Bk.new _ _ _ ?_); first | (with_reducible rfl) | (simp; done)) | (with_reducible refine Bk.alloc ?_ _) | (with_reducible refine Bk.drew ?_) | (with_reducible refine Bk.drewN ?_ _) | ((with_reducible refine Bk.far ?_ ?_ _); rotate_left; focus (first | (simp; done) | (simp; omega))) | (with_reducible refine Bk.below ?_ (by with_reducible assumption)))); obtain ⟨kcC1, kfC1, kaC1, kgC1, klC1⟩ := kC1.rules
  have hB1 : Below w.heap.size w w1 := (by repeat (first | (with_reducible exact Below.refl _ _) | (with_reducible refine balloc ?_ _) | (with_reducible refine Below.drew ?_) | (with_reducible refine bdrewN ?_ _) | ((with_reducible refine bset ?_ ?_ _); rotate_left; focus (first | (with_reducible exact Nat.le_refl _) | (simp; done) | (simp; omega) | omega)) | (with_reducible refine bstep (by with_reducible assumption) ?_)))
  clear hb1
  go_wp2_with fail
  clear kcC1 kfC1 kaC1 kgC1
  go_loopw [12, 11] (fun j u wr => ∃ (k : Nat) (v : Int), yl + k ≤ yh ∧ j = .int .i64 (b.r.y0 + ((yl + k : Nat) : Int)) ∧ u = .int .u8 v ∧ Hid (BestS (-1) f (winP cx cy xl xh yl k 0) v) ∧ Bk wr w.heap.size 29 #[.int .i64 b.r.x0, .int .i64 b.r.y0, .int .i64 b.r.x1, .int .i64 b.r.y1, .slice b.A b.n b.c] ∧ Below w.heap.size w wr) (fun j _ _ => (b.r.y0 + (yh : Int) - intOf j).toNat)
  case atStart => exact ⟨0, f cx cy, by omega, by simp, rfl, Lib.hid (bestS_start _ _ _ _ _ _ _), kC1, hB1⟩
  case round =>
    clear kC1 hB1
    obtain ⟨k, v, hk, rfl, rfl, HV, jC, hbw⟩ := hrel
    obtain ⟨kcC, kfC, kaC, kgC, klC⟩ := jC.rules
    by_cases hlt : yl + k < yh
    · have c1 : b.r.y0 + ((yl + k : Nat) : Int) ≤ b.r.y0 + (yh : Int) - 1 := by omega
      have hyb : yl + k < ht := by omega
      obtain ⟨yk, hyk⟩ : ∃ u, yl + k = u := ⟨_, rfl⟩
      have HYK := Lib.hid hyk
      rw [hyk] at hk hlt c1 hyb ⊢
      clear hyk
      go_wp2_with fail
      clear kcC kfC kaC kgC
      go_loopw [13, 11] (fun i u wr => ∃ (l : Nat) (v : Int), xl + l ≤ xh ∧ i = .int .i64 (b.r.x0 + ((xl + l : Nat) : Int)) ∧ u = .int .u8 v ∧ Hid (BestS (-1) f (winP cx cy xl xh yl k l) v) ∧ Bk wr w.heap.size 29 #[.int .i64 b.r.x0, .int .i64 b.r.y0, .int .i64 b.r.x1, .int .i64 b.r.y1, .slice b.A b.n b.c] ∧ Below w.heap.size w wr) (fun i _ _ => (b.r.x0 + (xh : Int) - intOf i).toNat)
      case atStart => exact ⟨0, v, by omega, by simp, rfl, HV, jC, hbw⟩
      case round =>
        clear jC hbw HV
        obtain ⟨l, v, hl, rfl, rfl, HV, jC, hbw⟩ := hrel
        obtain ⟨kcC, kfC, kaC, kgC, klC⟩ := jC.rules
        by_cases hlx : xl + l < xh
        · have HP : Hid (atL 0 b.r b.l (b.r.x0 + ((xl + l : Nat) : Int)) (b.r.y0 + (yk : Int)) = f (xl + l) (yl + k)) := by unfold Hid; rw [← HYK.out]; exact HAT.out _ _ (by omega) (by rw [HYK.out]; exact hyb)
          have HN : Hid (BestS (-1) f (winP cx cy xl xh yl k (l + 1)) (min v (f (xl + l) (yl + k)))) := bestS_min HV.out
          have c2 : b.r.x0 + ((xl + l : Nat) : Int) ≤ b.r.x0 + (xh : Int) - 1 := by omega
          have hvb := bestS_byte HV.out HGB.out
          have hqb := HGB.out (xl + l) (yl + k)
          obtain ⟨q, Hq⟩ : ∃ q, Hid (f (xl + l) (yl + k) = q) := ⟨_, rfl⟩
          rw [Hq.out] at HP HN hqb
          have hxb : xl + l < wd := by omega
          obtain ⟨xk, hxk⟩ : ∃ u, xl + l = u := ⟨_, rfl⟩
          have HXK := Lib.hid hxk
          rw [hxk] at hl hlx c2 hxb HP ⊢
          clear hxk
          obtain ⟨v', hv'⟩ : ∃ u, min v q = u := ⟨_, rfl⟩
          rw [hv'] at HN
          go_wp2_with fail
          refine (mva_any b.r b.A b.n b.c b.l (b.r.x0 + (xk : Int)) (b.r.y0 + (yk : Int)) _ (HB.out.rd.below (by repeat (first | (with_reducible exact Below.refl _ _) | (with_reducible refine balloc ?_ _) | (with_reducible refine Below.drew ?_) | (with_reducible refine bdrewN ?_ _) | ((with_reducible refine bset ?_ ?_ _); rotate_left; focus (first | (with_reducible exact Nat.le_refl _) | (simp; done) | (simp; omega) | omega)) | (with_reducible refine bstep (by with_reducible assumption) ?_)))) HB.out.ln hnb Hnb.out q HP).mono ?_
          rintro e w2 ⟨rfl, hb2⟩
          clear kcC kfC kaC kgC
          have j2 := jC.below hb2
          have hB2 := bstep hb2 hbw
          clear hb2
          go_wp2
          go_roundw
          case rel => exact ⟨l + 1, v', by have := HXK.out; omega, by rw [show b.r.x0 + (xk : Int) + 1 = b.r.x0 + ((xl + (l + 1) : Nat) : Int) by have := HXK.out; omega], rfl, HN, j2, hB2⟩
          case measure => simp [intOf]; omega
        · have hxe : xl + l = xh := by omega
          have HN : Hid (BestS (-1) f (winP cx cy xl xh yl (k + 1) 0) v) := bestS_row HV.out hxe
          have c2 : ¬ (b.r.x0 + ((xl + l : Nat) : Int) ≤ b.r.x0 + (xh : Int) - 1) := by omega
          clear hxe
          generalize xl + l = xk at *
          go_wp2
          go_roundw
          case rel => exact ⟨k + 1, v, by have := HYK.out; omega, by rw [show b.r.y0 + (yk : Int) + 1 = b.r.y0 + ((yl + (k + 1) : Nat) : Int) by have := HYK.out; omega], rfl, HN, jC, hbw⟩
          case measure => simp [intOf]; omega
    · have hye : yl + k = yh := by omega
      have HE : Hid (v = p) := by
        obtain ⟨e1, e2, e3, e4⟩ := HX.out
        have h := HV.out
        rw [← e1, ← e2, ← e3] at h
        unfold Hid
        rw [bestS_done (.inr rfl) h (by rw [e2, e4]; exact hye) HXY.out.1 HXY.out.2]
        exact Hp.out
      have c1 : ¬ (b.r.y0 + ((yl + k : Nat) : Int) ≤ b.r.y0 + (yh : Int) - 1) := by omega
      clear hye
      generalize yl + k = yk at *
      go_wp2
      go_ret
      exact ⟨ret_int HE.out, hbw⟩
end Go.Proofs.Ytndablijjkchjaa

namespace Go.Proofs.Ytndablijjkchjaa
open Go.RowKit
set_option linter.unusedSimpArgs false
set_option linter.unusedVariables false


set_option maxHeartbeats 12800000 in
theorem rmorph_T (b : Mk) (n : Int) (w : World) (hb : b.ok w) (hnb : b.n ≤ 4000000000) :
    Calls Try.prog 77 #[.agg #[.int .i64 b.r.x0, .int .i64 b.r.y0, .int .i64 b.r.x1, .int .i64 b.r.y1, .slice b.A b.n b.c], .int .i64 n, .bool true] w (RetME (exR b n) (exM 1 b n) (exE b n) w) := by
  have HB := Lib.hid hb
  clear hb
  cases vb : vMk b with
  | false =>
    have Hvb := Lib.hid vb
    have e1 : exR b n = ⟨0, 0, 0, 0⟩ := by unfold exR exV; rw [vb]; rfl
    have e2 : exM 1 b n = [] := by unfold exM exV; rw [vb]; rfl
    have e3 : exE b n = 14 := by unfold exE exV; rw [vb]; rfl
    rw [e1, e2, e3]
    clear e1 e2 e3
    clear vb
    go_enter Try.func77, Try.ntmps77
    go_wp2_with fail
    refine (rmvalid_any b.r b.A b.n b.c b.l _ (HB.out.rd.below (by repeat (first | (with_reducible exact Below.refl _ _) | (with_reducible refine balloc ?_ _) | (with_reducible refine Below.drew ?_) | (with_reducible refine bdrewN ?_ _) | ((with_reducible refine bset ?_ ?_ _); rotate_left; focus (first | (with_reducible exact Nat.le_refl _) | (simp; done) | (simp; omega) | omega)) | (with_reducible refine bstep (by with_reducible assumption) ?_)))) HB.out.ln hnb false Hvb).mono ?_
    rintro e w1 ⟨rfl, hb1⟩
    have kO1 : Bk w1 (w.heap.size + 1) 29 #[.int .i64 0, .int .i64 0, .int .i64 0, .int .i64 0, .slice none 0 0] := (by repeat (first | (with_reducible assumption) | ((with_reducible refine Bk.new _ _ _ ?_); first | (with_reducible rfl) | (simp; done)) | (with_reducible refine Bk.alloc ?_ _) | (with_reducible refine Bk.drew ?_) | (with_reducible refine Bk.drewN ?_ _) | ((with_reducible refine Bk.far ?_ ?_ _); rotate_left; focus (first | (simp; done) | (simp; omega))) | (with_reducible refine Bk.below ?_ (by with_reducible assumption)))); obtain ⟨kcO1, kfO1, kaO1, kgO1, klO1⟩ := kO1.rules
    go_wp2
    refine bodyPost_ret (v := _) ?_ rfl (RetME.no 14 (by repeat (first | (with_reducible exact Below.refl _ _) | (with_reducible refine balloc ?_ _) | (with_reducible refine Below.drew ?_) | (with_reducible refine bdrewN ?_ _) | ((with_reducible refine bset ?_ ?_ _); rotate_left; focus (first | (with_reducible exact Nat.le_refl _) | (simp; done) | (simp; omega) | omega)) | (with_reducible refine bstep (by with_reducible assumption) ?_))))
    simp [results, Try.results77, go_sem, kcO1]
  | true =>
    have Hvb := Lib.hid vb
    by_cases h0 : 0 ≤ n
    · by_cases h1 : n ≤ 64
      · have e1 : exR b n = b.r := by unfold exR exV; rw [vb, decide_eq_true h0, decide_eq_true h1]; rfl
        have e2 : exM 1 b n = exL 1 (wdB b) (htB b) n.toNat b.l := by unfold exM exV; rw [vb, decide_eq_true h0, decide_eq_true h1]; rfl
        have e3 : exE b n = 0 := by unfold exE exV; rw [vb, decide_eq_true h0, decide_eq_true h1]; rfl
        rw [e1, e2, e3]
        clear e1 e2 e3
        obtain ⟨nn, rfl⟩ : ∃ k : Nat, n = (k : Int) := ⟨n.toNat, by omega⟩
        rw [Int.toNat_natCast]
        have h64 : nn ≤ 64 := by omega
        have d0 : ¬ ((nn : Int) < 0) := by omega
        have d1 : ¬ ((64 : Int) < (nn : Int)) := by omega
        have HV : Hid (vMk b = true) := vb
        obtain ⟨_, gwd, ght, _, _⟩ := grid_dim vb
        have HQc : Hid (canonR b.r = b.r) := (mk_cn vb).1
        obtain ⟨g, Hg⟩ : ∃ g : Int → Int → Int, Hid ((fun x y => squareV 1 (gF (wdB b) b.l) (wdB b) (htB b) nn (x - b.r.x0).toNat (y - b.r.y0).toNat) = g) := ⟨_, Lib.hid rfl⟩
        have HL : Hid (exL 1 (wdB b) (htB b) nn b.l = madeL g b.r.x0 b.r.y0 (wdB b) (htB b)) := by
          unfold Hid
          rw [← Hg.out]
          refine (made_shift _ _ _ _ _ (G := fun i j => squareV 1 (gF (wdB b) b.l) (wdB b) (htB b) nn i j) (fun i j hi hj => ?_) (exL_len _ _ _ _ _) (fun i j hi hj => exL_gF 1 nn b.l hi hj)).symm
          show squareV 1 (gF (wdB b) b.l) (wdB b) (htB b) nn (b.r.x0 + (i : Int) - b.r.x0).toNat (b.r.y0 + (j : Int) - b.r.y0).toNat = squareV 1 (gF (wdB b) b.l) (wdB b) (htB b) nn i j
          rw [show (b.r.x0 + (i : Int) - b.r.x0).toNat = i by omega, show (b.r.y0 + (j : Int) - b.r.y0).toNat = j by omega]
        have HGV : Hid (∀ i j : Nat, squareV 1 (gF (wdB b) b.l) (wdB b) (htB b) nn i j = g (b.r.x0 + (i : Int)) (b.r.y0 + (j : Int))) := by
          unfold Hid; intro i j; rw [← Hg.out]
          show _ = squareV 1 (gF (wdB b) b.l) (wdB b) (htB b) nn (b.r.x0 + (i : Int) - b.r.x0).toNat (b.r.y0 + (j : Int) - b.r.y0).toNat
          rw [show (b.r.x0 + (i : Int) - b.r.x0).toNat = i by omega, show (b.r.y0 + (j : Int) - b.r.y0).toNat = j by omega]
        rw [HL.out]
        have HDIM := Lib.hid (And.intro gwd ght)
        clear HL Hg vb gwd ght h0 h1
        go_enter Try.func77, Try.ntmps77
        go_wp2_with fail
        refine (rmvalid_any b.r b.A b.n b.c b.l _ (HB.out.rd.below (by repeat (first | (with_reducible exact Below.refl _ _) | (with_reducible refine balloc ?_ _) | (with_reducible refine Below.drew ?_) | (with_reducible refine bdrewN ?_ _) | ((with_reducible refine bset ?_ ?_ _); rotate_left; focus (first | (with_reducible exact Nat.le_refl _) | (simp; done) | (simp; omega) | omega)) | (with_reducible refine bstep (by with_reducible assumption) ?_)))) HB.out.ln hnb true Hvb).mono ?_
        rintro e w1 ⟨rfl, hb1⟩
        have kC1 : Bk w1 (w.heap.size) 29 #[.int .i64 b.r.x0, .int .i64 b.r.y0, .int .i64 b.r.x1, .int .i64 b.r.y1, .slice b.A b.n b.c] := (by repeat (first | (with_reducible assumption) | ((with_reducible refine Bk.new _ _ _ ?_); first | (with_reducible rfl) | (simp; done)) | (with_reducible refine Bk.alloc ?_ _) | (with_reducible refine Bk.drew ?_) | (with_reducible refine Bk.drewN ?_ _) | ((with_reducible refine Bk.far ?_ ?_ _); rotate_left; focus (first | (simp; done) | (simp; omega))) | (with_reducible refine Bk.below ?_ (by with_reducible assumption)))); obtain ⟨kcC1, kfC1, kaC1, kgC1, klC1⟩ := kC1.rules; have kO1 : Bk w1 (w.heap.size + 1) 29 #[.int .i64 0, .int .i64 0, .int .i64 0, .int .i64 0, .slice none 0 0] := (by repeat (first | (with_reducible assumption) | ((with_reducible refine Bk.new _ _ _ ?_); first | (with_reducible rfl) | (simp; done)) | (with_reducible refine Bk.alloc ?_ _) | (with_reducible refine Bk.drew ?_) | (with_reducible refine Bk.drewN ?_ _) | ((with_reducible refine Bk.far ?_ ?_ _); rotate_left; focus (first | (simp; done) | (simp; omega))) | (with_reducible refine Bk.below ?_ (by with_reducible assumption)))); obtain ⟨kcO1, kfO1, kaO1, kgO1, klO1⟩ := kO1.rules
        have hcb := canon_bd b.r
        rw [HQc.out] at hcb
        clear kcO1 kfO1 kaO1 kgO1 kcC1 kfC1 kaC1 kgC1
        have sO1 := kO1.lt
        have hB1 : Below w.heap.size w w1 := (by repeat (first | (with_reducible exact Below.refl _ _) | (with_reducible refine balloc ?_ _) | (with_reducible refine Below.drew ?_) | (with_reducible refine bdrewN ?_ _) | ((with_reducible refine bset ?_ ?_ _); rotate_left; focus (first | (with_reducible exact Nat.le_refl _) | (simp; done) | (simp; omega) | omega)) | (with_reducible refine bstep (by with_reducible assumption) ?_)))
        clear hb1
        obtain ⟨⟨bx0, bx1, bx2⟩, ⟨by0, by1, by2⟩⟩ := hcb
        have hDd := HDIM.out
        generalize hwdB : wdB b = wd at *
        generalize hhtB : htB b = ht at *
        obtain ⟨hD1, hD2⟩ := hDd
        have hw1 : b.r.x1 ≤ b.r.x0 + wd ∧ b.r.x0 + wd ≤ b.r.x1 := by omega
        have hh1 : b.r.y1 ≤ b.r.y0 + ht ∧ b.r.y0 + ht ≤ b.r.y1 := by omega
        have hwl : wd ≤ 8192 := by omega
        have hhl : ht ≤ 8192 := by omega
        have HWD := Lib.hid (And.intro hwdB hhtB)
        clear hD1 hD2 hwdB hhtB
        obtain ⟨kcO1, kfO1, kaO1, kgO1, klO1⟩ := kO1.rules
        obtain ⟨kcC1, kfC1, kaC1, kgC1, klC1⟩ := kC1.rules
        go_wp2_with fail
        clear kcO1 kfO1 kaO1 kgO1 kcC1 kfC1 kaC1 kgC1
        go_loopw [9] (fun i wr => ∃ (j : Nat) (v : Value), j ≤ ht ∧ i = .int .i64 (b.r.y0 + j) ∧ Bk wr (w.heap.size) 29 #[.int .i64 b.r.x0, .int .i64 b.r.y0, .int .i64 b.r.x1, .int .i64 b.r.y1, .slice b.A b.n b.c] ∧ Bk wr (w.heap.size + 1) 29 #[.int .i64 0, .int .i64 0, .int .i64 0, .int .i64 0, .slice none 0 0] ∧ Bk wr (w1.heap.size) 29 #[.int .i64 b.r.x0, .int .i64 b.r.y0, .int .i64 b.r.x1, .int .i64 b.r.y1, v] ∧ OwnL encB 5 1 wr (w1.heap.size) v (madeL g b.r.x0 b.r.y0 wd j) ∧ Below w.heap.size w wr) (fun i _ => (b.r.y1 - intOf i).toNat)
        case atStart => exact ⟨0, _, Nat.zero_le _, by simp, kC1.alloc _, kO1.alloc _, Bk.new _ _ _ rfl, OwnL.nil _ _, (by repeat (first | (with_reducible exact Below.refl _ _) | (with_reducible refine balloc ?_ _) | (with_reducible refine Below.drew ?_) | (with_reducible refine bdrewN ?_ _) | ((with_reducible refine bset ?_ ?_ _); rotate_left; focus (first | (with_reducible exact Nat.le_refl _) | (simp; done) | (simp; omega) | omega)) | (with_reducible refine bstep (by with_reducible assumption) ?_)))⟩
        case round =>
          obtain ⟨j, v, hj, rfl, jC, jO, jB, ho, hbw⟩ := hrel
          obtain ⟨kcC, kfC, kaC, kgC, klC⟩ := jC.rules
          obtain ⟨kcO, kfO, kaO, kgO, klO⟩ := jO.rules
          obtain ⟨kcB, kfB, kaB, kgB, klB⟩ := jB.rules
          by_cases hlt : b.r.y0 + j < b.r.y1
          · go_wp2_with fail
            clear kcC kfC kaC kgC kcO kfO kaO kgO kcB kfB kaB kgB
            go_loopw [10] (fun i wr => ∃ (k : Nat) (u : Value), k ≤ wd ∧ i = .int .i64 (b.r.x0 + k) ∧ Bk wr (w.heap.size) 29 #[.int .i64 b.r.x0, .int .i64 b.r.y0, .int .i64 b.r.x1, .int .i64 b.r.y1, .slice b.A b.n b.c] ∧ Bk wr (w.heap.size + 1) 29 #[.int .i64 0, .int .i64 0, .int .i64 0, .int .i64 0, .slice none 0 0] ∧ Bk wr (w1.heap.size) 29 #[.int .i64 b.r.x0, .int .i64 b.r.y0, .int .i64 b.r.x1, .int .i64 b.r.y1, u] ∧ OwnL encB 5 1 wr (w1.heap.size) u (madeL g b.r.x0 b.r.y0 wd j ++ rowL g b.r.x0 (b.r.y0 + j) k) ∧ Below w.heap.size w wr) (fun i _ => (b.r.x1 - intOf i).toNat)
            case atStart => exact ⟨0, v, Nat.zero_le _, by simp, jC, jO, jB, by simpa [rowL] using ho, hbw⟩
            case round =>
              obtain ⟨k, u, hk, rfl, q0C, q0O, q0B, qu0, qB0⟩ := hrel
              obtain ⟨kcC, kfC, kaC, kgC, klC⟩ := q0C.rules
              obtain ⟨kcO, kfO, kaO, kgO, klO⟩ := q0O.rules
              obtain ⟨kcB, kfB, kaB, kgB, klB⟩ := q0B.rules
              by_cases hlx : b.r.x0 + k < b.r.x1
              · obtain ⟨p, Hp⟩ : ∃ p, Hid (g (b.r.x0 + k) (b.r.y0 + j) = p) := ⟨_, rfl⟩
                have hlen : (madeL g b.r.x0 b.r.y0 wd j ++ rowL g b.r.x0 (b.r.y0 + j) k).length ≤ 4294967296 := by
                  rw [List.length_append, madeL_len, rowL_len]
                  have : j * wd ≤ 8192 * 8192 := Nat.mul_le_mul (by omega) hwl
                  omega
                have Hp0 : Hid (squareV 1 (gF (wdB b) b.l) (wdB b) (htB b) nn k j = p) := by
                  obtain ⟨e1, e2⟩ := HWD.out
                  unfold Hid; rw [e1, e2, HGV.out]; exact Hp.out
                have hkb : k < wdB b := by have := HWD.out.1; omega
                have hjb : j < htB b := by have := HWD.out.2; omega
                go_wp2_with fail
                clear kcC kfC kaC kgC kcO kfO kaO kgO kcB kfB kaB kgB
                have q1C := q0C.drew
                have q1O := q0O.drew
                have q1B := q0B.drew
                have qu1 := qu0.drew
                have qB1 := qB0.drew
                refine wp_region_go 11 [(0, true), (1, true), (2, true), (3, true), (4, true), (5, true), (6, true), (7, false), (8, false), (9, false), (10, true)] (fun w' => Bk w' (w.heap.size) 29 #[.int .i64 b.r.x0, .int .i64 b.r.y0, .int .i64 b.r.x1, .int .i64 b.r.y1, .slice b.A b.n b.c] ∧ Bk w' (w.heap.size + 1) 29 #[.int .i64 0, .int .i64 0, .int .i64 0, .int .i64 0, .slice none 0 0] ∧ Bk w' (w1.heap.size) 29 #[.int .i64 b.r.x0, .int .i64 b.r.y0, .int .i64 b.r.x1, .int .i64 b.r.y1, u] ∧ Below w.heap.size w w') (by kernel_rfl) (by kernel_rfl) (fun c a d v w h => by cases d <;> exact h) ⟨q1C, q1O, q1B, qB1⟩ ?_
                repeat (first | (refine wpGo_pure (v := ?_) rfl rfl (fun w' hS => ?_) ?_; rotate_left; (· obtain ⟨kc0, kf0, ka0, kg0, kl0⟩ := Bk.rules hS.1; obtain ⟨kc1, kf1, ka1, kg1, kl1⟩ := Bk.rules hS.2.1; obtain ⟨kc2, kf2, ka2, kg2, kl2⟩ := Bk.rules hS.2.2.1; have hSB := hS.2.2.2; go_simp; exact rfl); (try simp only [Act.put, List.setIfInBounds_toArray, List.set_cons_zero, List.set_cons_succ])) | ((refine wpGo_skip rfl rfl ?_); (try simp only [Act.put, List.setIfInBounds_toArray, List.set_cons_zero, List.set_cons_succ])))
                refine wpGo_eff rfl (fun K hK => ?_)
                go_simp
                refine (rext_T b k j nn _ (HB.out.below qB1) hnb HV.out hkb hjb h64 _ _ rfl rfl p Hp0).mono ?_
                rintro e w11 ⟨rfl, hb11⟩
                have q2C := q1C.below hb11
                have q2O := q1O.below hb11
                have q2B := q1B.below hb11
                have qu2 := qu1.below hb11
                have qB2 := bstep hb11 qB1
                refine hK.out _ _ ⟨q2C, q2O, q2B, qB2⟩ (fun _ => ?_)
                clear hK K
                refine wpGo_eff rfl (fun K hK => ?_)
                go_simp
                have q3C := q2C.alloc (.cells #[.int .u8 p] 5)
                have q3O := q2O.alloc (.cells #[.int .u8 p] 5)
                have q3B := q2B.alloc (.cells #[.int .u8 p] 5)
                have qu3 := qu2.alloc (.cells #[.int .u8 p] 5)
                have qB3 := balloc qB2 (.cells #[.int .u8 p] 5)
                refine hK.out _ _ ⟨q3C, q3O, q3B, qB3⟩ (fun _ => ?_)
                clear hK K
                have hsz := qB3.size
                refine wpGo_effp rfl (fun K hK => ?_)
                refine wp_append_one encB_len encB_one 27 Try.infoU8 rfl (by decide) (by decide) Try.underlying27 _ _ rfl (w1.heap.size) u _ rfl qu3 w11.heap.size p rfl (Bk.new _ _ _ (by first | rfl | simp)) rfl hlen (by first | (simp at hsz ⊢; omega) | (have h1 := q3B.lt; simp at hsz h1 ⊢; omega) | (have h1 := q3B.lt; simp at hsz ⊢; omega)) ?_
                intro v5 w5 ho5 hg5 hv5
                have q4C := q3C.grown hg5 (qu3.neBk q3C (by decide))
                have q4O := q3O.grown hg5 (qu3.neBk q3O (by decide))
                have q4B := q3B.grown hg5 (qu3.neBk q3B (by decide))
                have qu4 := ho5
                have qB4 := below_grown qu3 hg5 qB3 (by first | exact Nat.le_refl _ | omega)
                obtain ⟨g5, c5, hv5, _⟩ := hv5
                refine hK.out _ _ ⟨q4C, q4O, q4B, qB4⟩ (fun _ => ?_)
                clear hK K
                simp only [Act.put, List.setIfInBounds_toArray, List.set_cons_zero, List.set_cons_succ]
                repeat (first | (refine wpGo_pure (v := ?_) rfl rfl (fun w' hS => ?_) ?_; rotate_left; (· obtain ⟨kc0, kf0, ka0, kg0, kl0⟩ := Bk.rules hS.1; obtain ⟨kc1, kf1, ka1, kg1, kl1⟩ := Bk.rules hS.2.1; obtain ⟨kc2, kf2, ka2, kg2, kl2⟩ := Bk.rules hS.2.2.1; have hSB := hS.2.2.2; go_simp; exact rfl); (try simp only [Act.put, List.setIfInBounds_toArray, List.set_cons_zero, List.set_cons_succ])) | ((refine wpGo_skip rfl rfl ?_); (try simp only [Act.put, List.setIfInBounds_toArray, List.set_cons_zero, List.set_cons_succ])))
                refine wpGo_nil ?_
                simp only [List.drop_succ_cons, List.drop_zero]
                clear Hp0 hkb hjb
                have HL : Hid (madeL g b.r.x0 b.r.y0 wd j ++ rowL g b.r.x0 (b.r.y0 + j) k ++ [p] = madeL g b.r.x0 b.r.y0 wd j ++ rowL g b.r.x0 (b.r.y0 + j) (k + 1)) := by
                  unfold Hid; rw [rowL_succ, Hp.out, List.append_assoc]
                rw [HL.out] at qu4
                obtain ⟨kc5, kf5, ka5, kg5, kl5⟩ := q4B.rules
                have mB : Bk _ (w1.heap.size) 29 #[.int .i64 b.r.x0, .int .i64 b.r.y0, .int .i64 b.r.x1, .int .i64 b.r.y1, v5] := q4B.set 4 v5
                have mC := q4C.far (p := ⟨w1.heap.size, 4, none⟩) (show w.heap.size ≠ w1.heap.size by omega) v5
                have mO := q4O.far (p := ⟨w1.heap.size, 4, none⟩) (show w.heap.size + 1 ≠ w1.heap.size by omega) v5
                have ho6 := qu4.setFar q4B (by decide) 4 v5
                have hB6 := bset qB4 (p := ⟨w1.heap.size, 4, none⟩) (show w.heap.size ≤ w1.heap.size by omega) v5
                clear HL q1C q1O q1B q2C q2O q2B q3C q3O q3B q4C q4O q4B qu1 qu2 qu3 qB1 qB2 qB3 qB4
                generalize (madeL g b.r.x0 b.r.y0 wd j ++ rowL g b.r.x0 (b.r.y0 + (j : Int)) k).length + 1 = n5 at hv5
                subst hv5
                go_wp2
                go_roundw
                case rel => exact ⟨k + 1, _, by omega, by rw [show b.r.x0 + (k : Int) + 1 = b.r.x0 + ((k + 1 : Nat) : Int) by omega], mC, mO, mB, ho6, hB6⟩
                case measure => simp [intOf]; omega
              · obtain rfl : k = wd := by omega
                have hu' : OwnL encB 5 1 wr (w1.heap.size) u (madeL g b.r.x0 b.r.y0 k (j + 1)) := by rw [madeL_succ]; exact qu0
                go_wp2
                go_roundw
                case rel => exact ⟨j + 1, u, by omega, by rw [show b.r.y0 + (j : Int) + 1 = b.r.y0 + ((j + 1 : Nat) : Int) by omega], q0C, q0O, q0B, hu', qB0⟩
                case measure => simp [intOf]; omega
          · obtain rfl : j = ht := by omega
            have ho := ho.mono (show w.heap.size ≤ w1.heap.size by omega)
            obtain ⟨kc', kf', ka', kg', kl'⟩ := jO.rules
            obtain ⟨A0, c0', hv0, _, _⟩ := ho.form encB_len
            generalize (madeL g b.r.x0 b.r.y0 wd j).length = n0 at hv0
            subst hv0
            have o1 := ho.setFar jO (by decide) 0 (.int .i64 b.r.x0)
            have m1 := jO.set 0 (.int .i64 b.r.x0)
            have o2 := o1.setFar m1 (by decide) 1 (.int .i64 b.r.y0)
            have m2 := m1.set 1 (.int .i64 b.r.y0)
            have o3 := o2.setFar m2 (by decide) 2 (.int .i64 b.r.x1)
            have m3 := m2.set 2 (.int .i64 b.r.x1)
            have o4 := o3.setFar m3 (by decide) 3 (.int .i64 b.r.y1)
            have m4 := m3.set 3 (.int .i64 b.r.y1)
            have o5 := o4.setFar m4 (by decide) 4 (.slice A0 n0 c0')
            clear o1 o2 o3 o4 m1 m2 m3 m4
            go_wp2
            refine bodyPost_ret (v := _) ?_ rfl ⟨_, rfl, o5, (by repeat (first | (with_reducible exact Below.refl _ _) | (with_reducible refine balloc ?_ _) | (with_reducible refine Below.drew ?_) | (with_reducible refine bdrewN ?_ _) | ((with_reducible refine bset ?_ ?_ _); rotate_left; focus (first | (with_reducible exact Nat.le_refl _) | (simp; done) | (simp; omega) | omega)) | (with_reducible refine bstep (by with_reducible assumption) ?_)))⟩
            simp [results, Try.results77, go_sem, kc']
      · have e1 : exR b n = ⟨0, 0, 0, 0⟩ := by unfold exR exV; rw [vb, decide_eq_true h0, decide_eq_false h1]; rfl
        have e2 : exM 1 b n = [] := by unfold exM exV; rw [vb, decide_eq_true h0, decide_eq_false h1]; rfl
        have e3 : exE b n = 6 := by unfold exE exV; rw [vb, decide_eq_true h0, decide_eq_false h1]; rfl
        rw [e1, e2, e3]
        clear e1 e2 e3
        have d0 : ¬ (n < 0) := by omega
        have d1 : (64 : Int) < n := by omega
        clear vb h0 h1
        go_enter Try.func77, Try.ntmps77
        go_wp2_with fail
        refine (rmvalid_any b.r b.A b.n b.c b.l _ (HB.out.rd.below (by repeat (first | (with_reducible exact Below.refl _ _) | (with_reducible refine balloc ?_ _) | (with_reducible refine Below.drew ?_) | (with_reducible refine bdrewN ?_ _) | ((with_reducible refine bset ?_ ?_ _); rotate_left; focus (first | (with_reducible exact Nat.le_refl _) | (simp; done) | (simp; omega) | omega)) | (with_reducible refine bstep (by with_reducible assumption) ?_)))) HB.out.ln hnb true Hvb).mono ?_
        rintro e w1 ⟨rfl, hb1⟩
        have kC1 : Bk w1 (w.heap.size) 29 #[.int .i64 b.r.x0, .int .i64 b.r.y0, .int .i64 b.r.x1, .int .i64 b.r.y1, .slice b.A b.n b.c] := (by repeat (first | (with_reducible assumption) | ((with_reducible refine Bk.new _ _ _ ?_); first | (with_reducible rfl) | (simp; done)) | (with_reducible refine Bk.alloc ?_ _) | (with_reducible refine Bk.drew ?_) | (with_reducible refine Bk.drewN ?_ _) | ((with_reducible refine Bk.far ?_ ?_ _); rotate_left; focus (first | (simp; done) | (simp; omega))) | (with_reducible refine Bk.below ?_ (by with_reducible assumption)))); obtain ⟨kcC1, kfC1, kaC1, kgC1, klC1⟩ := kC1.rules; have kO1 : Bk w1 (w.heap.size + 1) 29 #[.int .i64 0, .int .i64 0, .int .i64 0, .int .i64 0, .slice none 0 0] := (by repeat (first | (with_reducible assumption) | ((with_reducible refine Bk.new _ _ _ ?_); first | (with_reducible rfl) | (simp; done)) | (with_reducible refine Bk.alloc ?_ _) | (with_reducible refine Bk.drew ?_) | (with_reducible refine Bk.drewN ?_ _) | ((with_reducible refine Bk.far ?_ ?_ _); rotate_left; focus (first | (simp; done) | (simp; omega))) | (with_reducible refine Bk.below ?_ (by with_reducible assumption)))); obtain ⟨kcO1, kfO1, kaO1, kgO1, klO1⟩ := kO1.rules
        go_wp2
        refine bodyPost_ret (v := _) ?_ rfl (RetME.no 6 (by repeat (first | (with_reducible exact Below.refl _ _) | (with_reducible refine balloc ?_ _) | (with_reducible refine Below.drew ?_) | (with_reducible refine bdrewN ?_ _) | ((with_reducible refine bset ?_ ?_ _); rotate_left; focus (first | (with_reducible exact Nat.le_refl _) | (simp; done) | (simp; omega) | omega)) | (with_reducible refine bstep (by with_reducible assumption) ?_))))
        simp [results, Try.results77, go_sem, kcO1]
    · have e1 : exR b n = ⟨0, 0, 0, 0⟩ := by unfold exR exV; rw [vb, decide_eq_false h0]; rfl
      have e2 : exM 1 b n = [] := by unfold exM exV; rw [vb, decide_eq_false h0]; rfl
      have e3 : exE b n = 6 := by unfold exE exV; rw [vb, decide_eq_false h0]; rfl
      rw [e1, e2, e3]
      clear e1 e2 e3
      have d0 : n < 0 := by omega
      clear vb h0
      go_enter Try.func77, Try.ntmps77
      go_wp2_with fail
      refine (rmvalid_any b.r b.A b.n b.c b.l _ (HB.out.rd.below (by repeat (first | (with_reducible exact Below.refl _ _) | (with_reducible refine balloc ?_ _) | (with_reducible refine Below.drew ?_) | (with_reducible refine bdrewN ?_ _) | ((with_reducible refine bset ?_ ?_ _); rotate_left; focus (first | (with_reducible exact Nat.le_refl _) | (simp; done) | (simp; omega) | omega)) | (with_reducible refine bstep (by with_reducible assumption) ?_)))) HB.out.ln hnb true Hvb).mono ?_
      rintro e w1 ⟨rfl, hb1⟩
      have kC1 : Bk w1 (w.heap.size) 29 #[.int .i64 b.r.x0, .int .i64 b.r.y0, .int .i64 b.r.x1, .int .i64 b.r.y1, .slice b.A b.n b.c] := (by repeat (first | (with_reducible assumption) | ((with_reducible refine Bk.new _ _ _ ?_); first | (with_reducible rfl) | (simp; done)) | (with_reducible refine Bk.alloc ?_ _) | (with_reducible refine Bk.drew ?_) | (with_reducible refine Bk.drewN ?_ _) | ((with_reducible refine Bk.far ?_ ?_ _); rotate_left; focus (first | (simp; done) | (simp; omega))) | (with_reducible refine Bk.below ?_ (by with_reducible assumption)))); obtain ⟨kcC1, kfC1, kaC1, kgC1, klC1⟩ := kC1.rules; have kO1 : Bk w1 (w.heap.size + 1) 29 #[.int .i64 0, .int .i64 0, .int .i64 0, .int .i64 0, .slice none 0 0] := (by repeat (first | (with_reducible assumption) | ((with_reducible refine Bk.new _ _ _ ?_); first | (with_reducible rfl) | (simp; done)) | (with_reducible refine Bk.alloc ?_ _) | (with_reducible refine Bk.drew ?_) | (with_reducible refine Bk.drewN ?_ _) | ((with_reducible refine Bk.far ?_ ?_ _); rotate_left; focus (first | (simp; done) | (simp; omega))) | (with_reducible refine Bk.below ?_ (by with_reducible assumption)))); obtain ⟨kcO1, kfO1, kaO1, kgO1, klO1⟩ := kO1.rules
      go_wp2
      refine bodyPost_ret (v := _) ?_ rfl (RetME.no 6 (by repeat (first | (with_reducible exact Below.refl _ _) | (with_reducible refine balloc ?_ _) | (with_reducible refine Below.drew ?_) | (with_reducible refine bdrewN ?_ _) | ((with_reducible refine bset ?_ ?_ _); rotate_left; focus (first | (with_reducible exact Nat.le_refl _) | (simp; done) | (simp; omega) | omega)) | (with_reducible refine bstep (by with_reducible assumption) ?_))))
      simp [results, Try.results77, go_sem, kcO1]

set_option maxHeartbeats 3200000 in
theorem rdilate_any (b : Mk) (n : Int) (w : World) (hb : b.ok w) (hnb : b.n ≤ 4000000000) :
    Calls Try.prog 44 #[.agg #[.int .i64 b.r.x0, .int .i64 b.r.y0, .int .i64 b.r.x1, .int .i64 b.r.y1, .slice b.A b.n b.c], .int .i64 n] w (RetME (exR b n) (exM 1 b n) (exE b n) w) := by
  have HB := Lib.hid hb
  clear hb
  have HM : Hid (∀ W, b.ok W → Calls Try.prog 77 #[.agg #[.int .i64 b.r.x0, .int .i64 b.r.y0, .int .i64 b.r.x1, .int .i64 b.r.y1, .slice b.A b.n b.c], .int .i64 n, .bool true] W (RetME (exR b n) (exM 1 b n) (exE b n) W)) := fun W h => rmorph_T b n W h hnb
  generalize exR b n = q at *
  generalize exM 1 b n = l at *
  generalize exE b n = er at *
  go_enter Try.func44, Try.ntmps44
  go_wp2_with fail
  refine (HM.out _ (HB.out.below (by repeat (first | (with_reducible exact Below.refl _ _) | (with_reducible refine balloc ?_ _) | (with_reducible refine Below.drew ?_) | (with_reducible refine bdrewN ?_ _) | ((with_reducible refine bset ?_ ?_ _); rotate_left; focus (first | (with_reducible exact Nat.le_refl _) | (simp; done) | (simp; omega) | omega)) | (with_reducible refine bstep (by with_reducible assumption) ?_))))).mono ?_
  rintro e w1 ⟨v, rfl, ho1, hb1⟩
  have kO1 : Bk w1 (w.heap.size + 1) 29 #[.int .i64 0, .int .i64 0, .int .i64 0, .int .i64 0, .slice none 0 0] := (by repeat (first | (with_reducible assumption) | ((with_reducible refine Bk.new _ _ _ ?_); first | (with_reducible rfl) | (simp; done)) | (with_reducible refine Bk.alloc ?_ _) | (with_reducible refine Bk.drew ?_) | (with_reducible refine Bk.drewN ?_ _) | ((with_reducible refine Bk.far ?_ ?_ _); rotate_left; focus (first | (simp; done) | (simp; omega))) | (with_reducible refine Bk.below ?_ (by with_reducible assumption)))); obtain ⟨kcO1, kfO1, kaO1, kgO1, klO1⟩ := kO1.rules
  obtain ⟨A1, c1, hv1, _, _⟩ := ho1.form encB_len
  generalize l.length = N at hv1
  subst hv1
  have hB1 : Below w.heap.size w w1 := (by repeat (first | (with_reducible exact Below.refl _ _) | (with_reducible refine balloc ?_ _) | (with_reducible refine Below.drew ?_) | (with_reducible refine bdrewN ?_ _) | ((with_reducible refine bset ?_ ?_ _); rotate_left; focus (first | (with_reducible exact Nat.le_refl _) | (simp; done) | (simp; omega) | omega)) | (with_reducible refine bstep (by with_reducible assumption) ?_)))
  have ho := ho1.mono (show w.heap.size ≤ _ by simp; omega)
  have o1 := ho.setFar kO1 (by decide) 0 (.int .i64 q.x0)
  have m1 := kO1.set 0 (.int .i64 q.x0)
  have o2 := o1.setFar m1 (by decide) 1 (.int .i64 q.y0)
  have m2 := m1.set 1 (.int .i64 q.y0)
  have o3 := o2.setFar m2 (by decide) 2 (.int .i64 q.x1)
  have m3 := m2.set 2 (.int .i64 q.x1)
  have o4 := o3.setFar m3 (by decide) 3 (.int .i64 q.y1)
  have m4 := m3.set 3 (.int .i64 q.y1)
  have o5 := o4.setFar m4 (by decide) 4 (.slice A1 N c1)
  clear o1 o2 o3 o4 m1 m2 m3 m4
  go_wp2
  refine bodyPost_ret (v := _) ?_ rfl ⟨_, rfl, o5, (by repeat (first | (with_reducible exact Below.refl _ _) | (with_reducible refine balloc ?_ _) | (with_reducible refine Below.drew ?_) | (with_reducible refine bdrewN ?_ _) | ((with_reducible refine bset ?_ ?_ _); rotate_left; focus (first | (with_reducible exact Nat.le_refl _) | (simp; done) | (simp; omega) | omega)) | (with_reducible refine bstep (by with_reducible assumption) ?_)))⟩
  simp [results, Try.results44, go_sem, kcO1]
end Go.Proofs.Ytndablijjkchjaa

namespace Go.Proofs.Ytndablijjkchjaa
open Go.RowKit
set_option linter.unusedSimpArgs false
set_option linter.unusedVariables false


set_option maxHeartbeats 12800000 in
theorem rmorph_F (b : Mk) (n : Int) (w : World) (hb : b.ok w) (hnb : b.n ≤ 4000000000) :
    Calls Try.prog 77 #[.agg #[.int .i64 b.r.x0, .int .i64 b.r.y0, .int .i64 b.r.x1, .int .i64 b.r.y1, .slice b.A b.n b.c], .int .i64 n, .bool false] w (RetME (exR b n) (exM (-1) b n) (exE b n) w) := by
  have HB := Lib.hid hb
  clear hb
  cases vb : vMk b with
  | false =>
    have Hvb := Lib.hid vb
    have e1 : exR b n = ⟨0, 0, 0, 0⟩ := by unfold exR exV; rw [vb]; rfl
    have e2 : exM (-1) b n = [] := by unfold exM exV; rw [vb]; rfl
    have e3 : exE b n = 14 := by unfold exE exV; rw [vb]; rfl
    rw [e1, e2, e3]
    clear e1 e2 e3
    clear vb
    go_enter Try.func77, Try.ntmps77
    go_wp2_with fail
    refine (rmvalid_any b.r b.A b.n b.c b.l _ (HB.out.rd.below (by repeat (first | (with_reducible exact Below.refl _ _) | (with_reducible refine balloc ?_ _) | (with_reducible refine Below.drew ?_) | (with_reducible refine bdrewN ?_ _) | ((with_reducible refine bset ?_ ?_ _); rotate_left; focus (first | (with_reducible exact Nat.le_refl _) | (simp; done) | (simp; omega) | omega)) | (with_reducible refine bstep (by with_reducible assumption) ?_)))) HB.out.ln hnb false Hvb).mono ?_
    rintro e w1 ⟨rfl, hb1⟩
    have kO1 : Bk w1 (w.heap.size + 1) 29 #[.int .i64 0, .int .i64 0, .int .i64 0, .int .i64 0, .slice none 0 0] := (by repeat (first | (with_reducible assumption) | ((with_reducible refine Bk.new _ _ _ ?_); first | (with_reducible rfl) | (simp; done)) | (with_reducible refine Bk.alloc ?_ _) | (with_reducible refine Bk.drew ?_) | (with_reducible refine Bk.drewN ?_ _) | ((with_reducible refine Bk.far ?_ ?_ _); rotate_left; focus (first | (simp; done) | (simp; omega))) | (with_reducible refine Bk.below ?_ (by with_reducible assumption)))); obtain ⟨kcO1, kfO1, kaO1, kgO1, klO1⟩ := kO1.rules
    go_wp2
    refine bodyPost_ret (v := _) ?_ rfl (RetME.no 14 (by repeat (first | (with_reducible exact Below.refl _ _) | (with_reducible refine balloc ?_ _) | (with_reducible refine Below.drew ?_) | (with_reducible refine bdrewN ?_ _) | ((with_reducible refine bset ?_ ?_ _); rotate_left; focus (first | (with_reducible exact Nat.le_refl _) | (simp; done) | (simp; omega) | omega)) | (with_reducible refine bstep (by with_reducible assumption) ?_))))
    simp [results, Try.results77, go_sem, kcO1]
  | true =>
    have Hvb := Lib.hid vb
    by_cases h0 : 0 ≤ n
    · by_cases h1 : n ≤ 64
      · have e1 : exR b n = b.r := by unfold exR exV; rw [vb, decide_eq_true h0, decide_eq_true h1]; rfl
        have e2 : exM (-1) b n = exL (-1) (wdB b) (htB b) n.toNat b.l := by unfold exM exV; rw [vb, decide_eq_true h0, decide_eq_true h1]; rfl
        have e3 : exE b n = 0 := by unfold exE exV; rw [vb, decide_eq_true h0, decide_eq_true h1]; rfl
        rw [e1, e2, e3]
        clear e1 e2 e3
        obtain ⟨nn, rfl⟩ : ∃ k : Nat, n = (k : Int) := ⟨n.toNat, by omega⟩
        rw [Int.toNat_natCast]
        have h64 : nn ≤ 64 := by omega
        have d0 : ¬ ((nn : Int) < 0) := by omega
        have d1 : ¬ ((64 : Int) < (nn : Int)) := by omega
        have HV : Hid (vMk b = true) := vb
        obtain ⟨_, gwd, ght, _, _⟩ := grid_dim vb
        have HQc : Hid (canonR b.r = b.r) := (mk_cn vb).1
        obtain ⟨g, Hg⟩ : ∃ g : Int → Int → Int, Hid ((fun x y => squareV (-1) (gF (wdB b) b.l) (wdB b) (htB b) nn (x - b.r.x0).toNat (y - b.r.y0).toNat) = g) := ⟨_, Lib.hid rfl⟩
        have HL : Hid (exL (-1) (wdB b) (htB b) nn b.l = madeL g b.r.x0 b.r.y0 (wdB b) (htB b)) := by
          unfold Hid
          rw [← Hg.out]
          refine (made_shift _ _ _ _ _ (G := fun i j => squareV (-1) (gF (wdB b) b.l) (wdB b) (htB b) nn i j) (fun i j hi hj => ?_) (exL_len _ _ _ _ _) (fun i j hi hj => exL_gF (-1) nn b.l hi hj)).symm
          show squareV (-1) (gF (wdB b) b.l) (wdB b) (htB b) nn (b.r.x0 + (i : Int) - b.r.x0).toNat (b.r.y0 + (j : Int) - b.r.y0).toNat = squareV (-1) (gF (wdB b) b.l) (wdB b) (htB b) nn i j
          rw [show (b.r.x0 + (i : Int) - b.r.x0).toNat = i by omega, show (b.r.y0 + (j : Int) - b.r.y0).toNat = j by omega]
        have HGV : Hid (∀ i j : Nat, squareV (-1) (gF (wdB b) b.l) (wdB b) (htB b) nn i j = g (b.r.x0 + (i : Int)) (b.r.y0 + (j : Int))) := by
          unfold Hid; intro i j; rw [← Hg.out]
          show _ = squareV (-1) (gF (wdB b) b.l) (wdB b) (htB b) nn (b.r.x0 + (i : Int) - b.r.x0).toNat (b.r.y0 + (j : Int) - b.r.y0).toNat
          rw [show (b.r.x0 + (i : Int) - b.r.x0).toNat = i by omega, show (b.r.y0 + (j : Int) - b.r.y0).toNat = j by omega]
        rw [HL.out]
        have HDIM := Lib.hid (And.intro gwd ght)
        clear HL Hg vb gwd ght h0 h1
        go_enter Try.func77, Try.ntmps77
        go_wp2_with fail
        refine (rmvalid_any b.r b.A b.n b.c b.l _ (HB.out.rd.below (by repeat (first | (with_reducible exact Below.refl _ _) | (with_reducible refine balloc ?_ _) | (with_reducible refine Below.drew ?_) | (with_reducible refine bdrewN ?_ _) | ((with_reducible refine bset ?_ ?_ _); rotate_left; focus (first | (with_reducible exact Nat.le_refl _) | (simp; done) | (simp; omega) | omega)) | (with_reducible refine bstep (by with_reducible assumption) ?_)))) HB.out.ln hnb true Hvb).mono ?_
        rintro e w1 ⟨rfl, hb1⟩
        have kC1 : Bk w1 (w.heap.size) 29 #[.int .i64 b.r.x0, .int .i64 b.r.y0, .int .i64 b.r.x1, .int .i64 b.r.y1, .slice b.A b.n b.c] := (by repeat (first | (with_reducible assumption) | ((with_reducible refine Bk.new _ _ _ ?_); first | (with_reducible rfl) | (simp; done)) | (with_reducible refine Bk.alloc ?_ _) | (with_reducible refine Bk.drew ?_) | (with_reducible refine Bk.drewN ?_ _) | ((with_reducible refine Bk.far ?_ ?_ _); rotate_left; focus (first | (simp; done) | (simp; omega))) | (with_reducible refine Bk.below ?_ (by with_reducible assumption)))); obtain ⟨kcC1, kfC1, kaC1, kgC1, klC1⟩ := kC1.rules; have kO1 : Bk w1 (w.heap.size + 1) 29 #[.int .i64 0, .int .i64 0, .int .i64 0, .int .i64 0, .slice none 0 0] := (by repeat (first | (with_reducible assumption) | ((with_reducible refine Bk.new _ _ _ ?_); first | (with_reducible rfl) | (simp; done)) | (with_reducible refine Bk.alloc ?_ _) | (with_reducible refine Bk.drew ?_) | (with_reducible refine Bk.drewN ?_ _) | ((with_reducible refine Bk.far ?_ ?_ _); rotate_left; focus (first | (simp; done) | (simp; omega))) | (with_reducible refine Bk.below ?_ (by with_reducible assumption)))); obtain ⟨kcO1, kfO1, kaO1, kgO1, klO1⟩ := kO1.rules
        have hcb := canon_bd b.r
        rw [HQc.out] at hcb
        clear kcO1 kfO1 kaO1 kgO1 kcC1 kfC1 kaC1 kgC1
        have sO1 := kO1.lt
        have hB1 : Below w.heap.size w w1 := (by repeat (first | (with_reducible exact Below.refl _ _) | (with_reducible refine balloc ?_ _) | (with_reducible refine Below.drew ?_) | (with_reducible refine bdrewN ?_ _) | ((with_reducible refine bset ?_ ?_ _); rotate_left; focus (first | (with_reducible exact Nat.le_refl _) | (simp; done) | (simp; omega) | omega)) | (with_reducible refine bstep (by with_reducible assumption) ?_)))
        clear hb1
        obtain ⟨⟨bx0, bx1, bx2⟩, ⟨by0, by1, by2⟩⟩ := hcb
        have hDd := HDIM.out
        generalize hwdB : wdB b = wd at *
        generalize hhtB : htB b = ht at *
        obtain ⟨hD1, hD2⟩ := hDd
        have hw1 : b.r.x1 ≤ b.r.x0 + wd ∧ b.r.x0 + wd ≤ b.r.x1 := by omega
        have hh1 : b.r.y1 ≤ b.r.y0 + ht ∧ b.r.y0 + ht ≤ b.r.y1 := by omega
        have hwl : wd ≤ 8192 := by omega
        have hhl : ht ≤ 8192 := by omega
        have HWD := Lib.hid (And.intro hwdB hhtB)
        clear hD1 hD2 hwdB hhtB
        obtain ⟨kcO1, kfO1, kaO1, kgO1, klO1⟩ := kO1.rules
        obtain ⟨kcC1, kfC1, kaC1, kgC1, klC1⟩ := kC1.rules
        go_wp2_with fail
        clear kcO1 kfO1 kaO1 kgO1 kcC1 kfC1 kaC1 kgC1
        go_loopw [9] (fun i wr => ∃ (j : Nat) (v : Value), j ≤ ht ∧ i = .int .i64 (b.r.y0 + j) ∧ Bk wr (w.heap.size) 29 #[.int .i64 b.r.x0, .int .i64 b.r.y0, .int .i64 b.r.x1, .int .i64 b.r.y1, .slice b.A b.n b.c] ∧ Bk wr (w.heap.size + 1) 29 #[.int .i64 0, .int .i64 0, .int .i64 0, .int .i64 0, .slice none 0 0] ∧ Bk wr (w1.heap.size) 29 #[.int .i64 b.r.x0, .int .i64 b.r.y0, .int .i64 b.r.x1, .int .i64 b.r.y1, v] ∧ OwnL encB 5 1 wr (w1.heap.size) v (madeL g b.r.x0 b.r.y0 wd j) ∧ Below w.heap.size w wr) (fun i _ => (b.r.y1 - intOf i).toNat)
        case atStart => exact ⟨0, _, Nat.zero_le _, by simp, kC1.alloc _, kO1.alloc _, Bk.new _ _ _ rfl, OwnL.nil _ _, (by repeat (first | (with_reducible exact Below.refl _ _) | (with_reducible refine balloc ?_ _) | (with_reducible refine Below.drew ?_) | (with_reducible refine bdrewN ?_ _) | ((with_reducible refine bset ?_ ?_ _); rotate_left; focus (first | (with_reducible exact Nat.le_refl _) | (simp; done) | (simp; omega) | omega)) | (with_reducible refine bstep (by with_reducible assumption) ?_)))⟩
        case round =>
          obtain ⟨j, v, hj, rfl, jC, jO, jB, ho, hbw⟩ := hrel
          obtain ⟨kcC, kfC, kaC, kgC, klC⟩ := jC.rules
          obtain ⟨kcO, kfO, kaO, kgO, klO⟩ := jO.rules
          obtain ⟨kcB, kfB, kaB, kgB, klB⟩ := jB.rules
          by_cases hlt : b.r.y0 + j < b.r.y1
          · go_wp2_with fail
            clear kcC kfC kaC kgC kcO kfO kaO kgO kcB kfB kaB kgB
            go_loopw [10] (fun i wr => ∃ (k : Nat) (u : Value), k ≤ wd ∧ i = .int .i64 (b.r.x0 + k) ∧ Bk wr (w.heap.size) 29 #[.int .i64 b.r.x0, .int .i64 b.r.y0, .int .i64 b.r.x1, .int .i64 b.r.y1, .slice b.A b.n b.c] ∧ Bk wr (w.heap.size + 1) 29 #[.int .i64 0, .int .i64 0, .int .i64 0, .int .i64 0, .slice none 0 0] ∧ Bk wr (w1.heap.size) 29 #[.int .i64 b.r.x0, .int .i64 b.r.y0, .int .i64 b.r.x1, .int .i64 b.r.y1, u] ∧ OwnL encB 5 1 wr (w1.heap.size) u (madeL g b.r.x0 b.r.y0 wd j ++ rowL g b.r.x0 (b.r.y0 + j) k) ∧ Below w.heap.size w wr) (fun i _ => (b.r.x1 - intOf i).toNat)
            case atStart => exact ⟨0, v, Nat.zero_le _, by simp, jC, jO, jB, by simpa [rowL] using ho, hbw⟩
            case round =>
              obtain ⟨k, u, hk, rfl, q0C, q0O, q0B, qu0, qB0⟩ := hrel
              obtain ⟨kcC, kfC, kaC, kgC, klC⟩ := q0C.rules
              obtain ⟨kcO, kfO, kaO, kgO, klO⟩ := q0O.rules
              obtain ⟨kcB, kfB, kaB, kgB, klB⟩ := q0B.rules
              by_cases hlx : b.r.x0 + k < b.r.x1
              · obtain ⟨p, Hp⟩ : ∃ p, Hid (g (b.r.x0 + k) (b.r.y0 + j) = p) := ⟨_, rfl⟩
                have hlen : (madeL g b.r.x0 b.r.y0 wd j ++ rowL g b.r.x0 (b.r.y0 + j) k).length ≤ 4294967296 := by
                  rw [List.length_append, madeL_len, rowL_len]
                  have : j * wd ≤ 8192 * 8192 := Nat.mul_le_mul (by omega) hwl
                  omega
                have Hp0 : Hid (squareV (-1) (gF (wdB b) b.l) (wdB b) (htB b) nn k j = p) := by
                  obtain ⟨e1, e2⟩ := HWD.out
                  unfold Hid; rw [e1, e2, HGV.out]; exact Hp.out
                have hkb : k < wdB b := by have := HWD.out.1; omega
                have hjb : j < htB b := by have := HWD.out.2; omega
                go_wp2_with fail
                clear kcC kfC kaC kgC kcO kfO kaO kgO kcB kfB kaB kgB
                have q1C := q0C.drew
                have q1O := q0O.drew
                have q1B := q0B.drew
                have qu1 := qu0.drew
                have qB1 := qB0.drew
                refine wp_region_go 11 [(0, true), (1, true), (2, true), (3, true), (4, true), (5, true), (6, true), (7, false), (8, false), (9, false), (10, true)] (fun w' => Bk w' (w.heap.size) 29 #[.int .i64 b.r.x0, .int .i64 b.r.y0, .int .i64 b.r.x1, .int .i64 b.r.y1, .slice b.A b.n b.c] ∧ Bk w' (w.heap.size + 1) 29 #[.int .i64 0, .int .i64 0, .int .i64 0, .int .i64 0, .slice none 0 0] ∧ Bk w' (w1.heap.size) 29 #[.int .i64 b.r.x0, .int .i64 b.r.y0, .int .i64 b.r.x1, .int .i64 b.r.y1, u] ∧ Below w.heap.size w w') (by kernel_rfl) (by kernel_rfl) (fun c a d v w h => by cases d <;> exact h) ⟨q1C, q1O, q1B, qB1⟩ ?_
                repeat (first | (refine wpGo_pure (v := ?_) rfl rfl (fun w' hS => ?_) ?_; rotate_left; (· obtain ⟨kc0, kf0, ka0, kg0, kl0⟩ := Bk.rules hS.1; obtain ⟨kc1, kf1, ka1, kg1, kl1⟩ := Bk.rules hS.2.1; obtain ⟨kc2, kf2, ka2, kg2, kl2⟩ := Bk.rules hS.2.2.1; have hSB := hS.2.2.2; go_simp; exact rfl); (try simp only [Act.put, List.setIfInBounds_toArray, List.set_cons_zero, List.set_cons_succ])) | ((refine wpGo_skip rfl rfl ?_); (try simp only [Act.put, List.setIfInBounds_toArray, List.set_cons_zero, List.set_cons_succ])))
                refine wpGo_eff rfl (fun K hK => ?_)
                go_simp
                refine (rext_F b k j nn _ (HB.out.below qB1) hnb HV.out hkb hjb h64 _ _ rfl rfl p Hp0).mono ?_
                rintro e w11 ⟨rfl, hb11⟩
                have q2C := q1C.below hb11
                have q2O := q1O.below hb11
                have q2B := q1B.below hb11
                have qu2 := qu1.below hb11
                have qB2 := bstep hb11 qB1
                refine hK.out _ _ ⟨q2C, q2O, q2B, qB2⟩ (fun _ => ?_)
                clear hK K
                refine wpGo_eff rfl (fun K hK => ?_)
                go_simp
                have q3C := q2C.alloc (.cells #[.int .u8 p] 5)
                have q3O := q2O.alloc (.cells #[.int .u8 p] 5)
                have q3B := q2B.alloc (.cells #[.int .u8 p] 5)
                have qu3 := qu2.alloc (.cells #[.int .u8 p] 5)
                have qB3 := balloc qB2 (.cells #[.int .u8 p] 5)
                refine hK.out _ _ ⟨q3C, q3O, q3B, qB3⟩ (fun _ => ?_)
                clear hK K
                have hsz := qB3.size
                refine wpGo_effp rfl (fun K hK => ?_)
                refine wp_append_one encB_len encB_one 27 Try.infoU8 rfl (by decide) (by decide) Try.underlying27 _ _ rfl (w1.heap.size) u _ rfl qu3 w11.heap.size p rfl (Bk.new _ _ _ (by first | rfl | simp)) rfl hlen (by first | (simp at hsz ⊢; omega) | (have h1 := q3B.lt; simp at hsz h1 ⊢; omega) | (have h1 := q3B.lt; simp at hsz ⊢; omega)) ?_
                intro v5 w5 ho5 hg5 hv5
                have q4C := q3C.grown hg5 (qu3.neBk q3C (by decide))
                have q4O := q3O.grown hg5 (qu3.neBk q3O (by decide))
                have q4B := q3B.grown hg5 (qu3.neBk q3B (by decide))
                have qu4 := ho5
                have qB4 := below_grown qu3 hg5 qB3 (by first | exact Nat.le_refl _ | omega)
                obtain ⟨g5, c5, hv5, _⟩ := hv5
                refine hK.out _ _ ⟨q4C, q4O, q4B, qB4⟩ (fun _ => ?_)
                clear hK K
                simp only [Act.put, List.setIfInBounds_toArray, List.set_cons_zero, List.set_cons_succ]
                repeat (first | (refine wpGo_pure (v := ?_) rfl rfl (fun w' hS => ?_) ?_; rotate_left; (· obtain ⟨kc0, kf0, ka0, kg0, kl0⟩ := Bk.rules hS.1; obtain ⟨kc1, kf1, ka1, kg1, kl1⟩ := Bk.rules hS.2.1; obtain ⟨kc2, kf2, ka2, kg2, kl2⟩ := Bk.rules hS.2.2.1; have hSB := hS.2.2.2; go_simp; exact rfl); (try simp only [Act.put, List.setIfInBounds_toArray, List.set_cons_zero, List.set_cons_succ])) | ((refine wpGo_skip rfl rfl ?_); (try simp only [Act.put, List.setIfInBounds_toArray, List.set_cons_zero, List.set_cons_succ])))
                refine wpGo_nil ?_
                simp only [List.drop_succ_cons, List.drop_zero]
                clear Hp0 hkb hjb
                have HL : Hid (madeL g b.r.x0 b.r.y0 wd j ++ rowL g b.r.x0 (b.r.y0 + j) k ++ [p] = madeL g b.r.x0 b.r.y0 wd j ++ rowL g b.r.x0 (b.r.y0 + j) (k + 1)) := by
                  unfold Hid; rw [rowL_succ, Hp.out, List.append_assoc]
                rw [HL.out] at qu4
                obtain ⟨kc5, kf5, ka5, kg5, kl5⟩ := q4B.rules
                have mB : Bk _ (w1.heap.size) 29 #[.int .i64 b.r.x0, .int .i64 b.r.y0, .int .i64 b.r.x1, .int .i64 b.r.y1, v5] := q4B.set 4 v5
                have mC := q4C.far (p := ⟨w1.heap.size, 4, none⟩) (show w.heap.size ≠ w1.heap.size by omega) v5
                have mO := q4O.far (p := ⟨w1.heap.size, 4, none⟩) (show w.heap.size + 1 ≠ w1.heap.size by omega) v5
                have ho6 := qu4.setFar q4B (by decide) 4 v5
                have hB6 := bset qB4 (p := ⟨w1.heap.size, 4, none⟩) (show w.heap.size ≤ w1.heap.size by omega) v5
                clear HL q1C q1O q1B q2C q2O q2B q3C q3O q3B q4C q4O q4B qu1 qu2 qu3 qB1 qB2 qB3 qB4
                generalize (madeL g b.r.x0 b.r.y0 wd j ++ rowL g b.r.x0 (b.r.y0 + (j : Int)) k).length + 1 = n5 at hv5
                subst hv5
                go_wp2
                go_roundw
                case rel => exact ⟨k + 1, _, by omega, by rw [show b.r.x0 + (k : Int) + 1 = b.r.x0 + ((k + 1 : Nat) : Int) by omega], mC, mO, mB, ho6, hB6⟩
                case measure => simp [intOf]; omega
              · obtain rfl : k = wd := by omega
                have hu' : OwnL encB 5 1 wr (w1.heap.size) u (madeL g b.r.x0 b.r.y0 k (j + 1)) := by rw [madeL_succ]; exact qu0
                go_wp2
                go_roundw
                case rel => exact ⟨j + 1, u, by omega, by rw [show b.r.y0 + (j : Int) + 1 = b.r.y0 + ((j + 1 : Nat) : Int) by omega], q0C, q0O, q0B, hu', qB0⟩
                case measure => simp [intOf]; omega
          · obtain rfl : j = ht := by omega
            have ho := ho.mono (show w.heap.size ≤ w1.heap.size by omega)
            obtain ⟨kc', kf', ka', kg', kl'⟩ := jO.rules
            obtain ⟨A0, c0', hv0, _, _⟩ := ho.form encB_len
            generalize (madeL g b.r.x0 b.r.y0 wd j).length = n0 at hv0
            subst hv0
            have o1 := ho.setFar jO (by decide) 0 (.int .i64 b.r.x0)
            have m1 := jO.set 0 (.int .i64 b.r.x0)
            have o2 := o1.setFar m1 (by decide) 1 (.int .i64 b.r.y0)
            have m2 := m1.set 1 (.int .i64 b.r.y0)
            have o3 := o2.setFar m2 (by decide) 2 (.int .i64 b.r.x1)
            have m3 := m2.set 2 (.int .i64 b.r.x1)
            have o4 := o3.setFar m3 (by decide) 3 (.int .i64 b.r.y1)
            have m4 := m3.set 3 (.int .i64 b.r.y1)
            have o5 := o4.setFar m4 (by decide) 4 (.slice A0 n0 c0')
            clear o1 o2 o3 o4 m1 m2 m3 m4
            go_wp2
            refine bodyPost_ret (v := _) ?_ rfl ⟨_, rfl, o5, (by repeat (first | (with_reducible exact Below.refl _ _) | (with_reducible refine balloc ?_ _) | (with_reducible refine Below.drew ?_) | (with_reducible refine bdrewN ?_ _) | ((with_reducible refine bset ?_ ?_ _); rotate_left; focus (first | (with_reducible exact Nat.le_refl _) | (simp; done) | (simp; omega) | omega)) | (with_reducible refine bstep (by with_reducible assumption) ?_)))⟩
            simp [results, Try.results77, go_sem, kc']
      · have e1 : exR b n = ⟨0, 0, 0, 0⟩ := by unfold exR exV; rw [vb, decide_eq_true h0, decide_eq_false h1]; rfl
        have e2 : exM (-1) b n = [] := by unfold exM exV; rw [vb, decide_eq_true h0, decide_eq_false h1]; rfl
        have e3 : exE b n = 6 := by unfold exE exV; rw [vb, decide_eq_true h0, decide_eq_false h1]; rfl
        rw [e1, e2, e3]
        clear e1 e2 e3
        have d0 : ¬ (n < 0) := by omega
        have d1 : (64 : Int) < n := by omega
        clear vb h0 h1
        go_enter Try.func77, Try.ntmps77
        go_wp2_with fail
        refine (rmvalid_any b.r b.A b.n b.c b.l _ (HB.out.rd.below (by repeat (first | (with_reducible exact Below.refl _ _) | (with_reducible refine balloc ?_ _) | (with_reducible refine Below.drew ?_) | (with_reducible refine bdrewN ?_ _) | ((with_reducible refine bset ?_ ?_ _); rotate_left; focus (first | (with_reducible exact Nat.le_refl _) | (simp; done) | (simp; omega) | omega)) | (with_reducible refine bstep (by with_reducible assumption) ?_)))) HB.out.ln hnb true Hvb).mono ?_
        rintro e w1 ⟨rfl, hb1⟩
        have kC1 : Bk w1 (w.heap.size) 29 #[.int .i64 b.r.x0, .int .i64 b.r.y0, .int .i64 b.r.x1, .int .i64 b.r.y1, .slice b.A b.n b.c] := (by repeat (first | (with_reducible assumption) | ((with_reducible refine Bk.new _ _ _ ?_); first | (with_reducible rfl) | (simp; done)) | (with_reducible refine Bk.alloc ?_ _) | (with_reducible refine Bk.drew ?_) | (with_reducible refine Bk.drewN ?_ _) | ((with_reducible refine Bk.far ?_ ?_ _); rotate_left; focus (first | (simp; done) | (simp; omega))) | (with_reducible refine Bk.below ?_ (by with_reducible assumption)))); obtain ⟨kcC1, kfC1, kaC1, kgC1, klC1⟩ := kC1.rules; have kO1 : Bk w1 (w.heap.size + 1) 29 #[.int .i64 0, .int .i64 0, .int .i64 0, .int .i64 0, .slice none 0 0] := (by repeat (first | (with_reducible assumption) | ((with_reducible refine Bk.new _ _ _ ?_); first | (with_reducible rfl) | (simp; done)) | (with_reducible refine Bk.alloc ?_ _) | (with_reducible refine Bk.drew ?_) | (with_reducible refine Bk.drewN ?_ _) | ((with_reducible refine Bk.far ?_ ?_ _); rotate_left; focus (first | (simp; done) | (simp; omega))) | (with_reducible refine Bk.below ?_ (by with_reducible assumption)))); obtain ⟨kcO1, kfO1, kaO1, kgO1, klO1⟩ := kO1.rules
        go_wp2
        refine bodyPost_ret (v := _) ?_ rfl (RetME.no 6 (by repeat (first | (with_reducible exact Below.refl _ _) | (with_reducible refine balloc ?_ _) | (with_reducible refine Below.drew ?_) | (with_reducible refine bdrewN ?_ _) | ((with_reducible refine bset ?_ ?_ _); rotate_left; focus (first | (with_reducible exact Nat.le_refl _) | (simp; done) | (simp; omega) | omega)) | (with_reducible refine bstep (by with_reducible assumption) ?_))))
        simp [results, Try.results77, go_sem, kcO1]
    · have e1 : exR b n = ⟨0, 0, 0, 0⟩ := by unfold exR exV; rw [vb, decide_eq_false h0]; rfl
      have e2 : exM (-1) b n = [] := by unfold exM exV; rw [vb, decide_eq_false h0]; rfl
      have e3 : exE b n = 6 := by unfold exE exV; rw [vb, decide_eq_false h0]; rfl
      rw [e1, e2, e3]
      clear e1 e2 e3
      have d0 : n < 0 := by omega
      clear vb h0
      go_enter Try.func77, Try.ntmps77
      go_wp2_with fail
      refine (rmvalid_any b.r b.A b.n b.c b.l _ (HB.out.rd.below (by repeat (first | (with_reducible exact Below.refl _ _) | (with_reducible refine balloc ?_ _) | (with_reducible refine Below.drew ?_) | (with_reducible refine bdrewN ?_ _) | ((with_reducible refine bset ?_ ?_ _); rotate_left; focus (first | (with_reducible exact Nat.le_refl _) | (simp; done) | (simp; omega) | omega)) | (with_reducible refine bstep (by with_reducible assumption) ?_)))) HB.out.ln hnb true Hvb).mono ?_
      rintro e w1 ⟨rfl, hb1⟩
      have kC1 : Bk w1 (w.heap.size) 29 #[.int .i64 b.r.x0, .int .i64 b.r.y0, .int .i64 b.r.x1, .int .i64 b.r.y1, .slice b.A b.n b.c] := (by repeat (first | (with_reducible assumption) | ((with_reducible refine Bk.new _ _ _ ?_); first | (with_reducible rfl) | (simp; done)) | (with_reducible refine Bk.alloc ?_ _) | (with_reducible refine Bk.drew ?_) | (with_reducible refine Bk.drewN ?_ _) | ((with_reducible refine Bk.far ?_ ?_ _); rotate_left; focus (first | (simp; done) | (simp; omega))) | (with_reducible refine Bk.below ?_ (by with_reducible assumption)))); obtain ⟨kcC1, kfC1, kaC1, kgC1, klC1⟩ := kC1.rules; have kO1 : Bk w1 (w.heap.size + 1) 29 #[.int .i64 0, .int .i64 0, .int .i64 0, .int .i64 0, .slice none 0 0] := (by repeat (first | (with_reducible assumption) | ((with_reducible refine Bk.new _ _ _ ?_); first | (with_reducible rfl) | (simp; done)) | (with_reducible refine Bk.alloc ?_ _) | (with_reducible refine Bk.drew ?_) | (with_reducible refine Bk.drewN ?_ _) | ((with_reducible refine Bk.far ?_ ?_ _); rotate_left; focus (first | (simp; done) | (simp; omega))) | (with_reducible refine Bk.below ?_ (by with_reducible assumption)))); obtain ⟨kcO1, kfO1, kaO1, kgO1, klO1⟩ := kO1.rules
      go_wp2
      refine bodyPost_ret (v := _) ?_ rfl (RetME.no 6 (by repeat (first | (with_reducible exact Below.refl _ _) | (with_reducible refine balloc ?_ _) | (with_reducible refine Below.drew ?_) | (with_reducible refine bdrewN ?_ _) | ((with_reducible refine bset ?_ ?_ _); rotate_left; focus (first | (with_reducible exact Nat.le_refl _) | (simp; done) | (simp; omega) | omega)) | (with_reducible refine bstep (by with_reducible assumption) ?_))))
      simp [results, Try.results77, go_sem, kcO1]

set_option maxHeartbeats 3200000 in
theorem rerode_any (b : Mk) (n : Int) (w : World) (hb : b.ok w) (hnb : b.n ≤ 4000000000) :
    Calls Try.prog 45 #[.agg #[.int .i64 b.r.x0, .int .i64 b.r.y0, .int .i64 b.r.x1, .int .i64 b.r.y1, .slice b.A b.n b.c], .int .i64 n] w (RetME (exR b n) (exM (-1) b n) (exE b n) w) := by
  have HB := Lib.hid hb
  clear hb
  have HM : Hid (∀ W, b.ok W → Calls Try.prog 77 #[.agg #[.int .i64 b.r.x0, .int .i64 b.r.y0, .int .i64 b.r.x1, .int .i64 b.r.y1, .slice b.A b.n b.c], .int .i64 n, .bool false] W (RetME (exR b n) (exM (-1) b n) (exE b n) W)) := fun W h => rmorph_F b n W h hnb
  generalize exR b n = q at *
  generalize exM (-1) b n = l at *
  generalize exE b n = er at *
  go_enter Try.func45, Try.ntmps45
  go_wp2_with fail
  refine (HM.out _ (HB.out.below (by repeat (first | (with_reducible exact Below.refl _ _) | (with_reducible refine balloc ?_ _) | (with_reducible refine Below.drew ?_) | (with_reducible refine bdrewN ?_ _) | ((with_reducible refine bset ?_ ?_ _); rotate_left; focus (first | (with_reducible exact Nat.le_refl _) | (simp; done) | (simp; omega) | omega)) | (with_reducible refine bstep (by with_reducible assumption) ?_))))).mono ?_
  rintro e w1 ⟨v, rfl, ho1, hb1⟩
  have kO1 : Bk w1 (w.heap.size + 1) 29 #[.int .i64 0, .int .i64 0, .int .i64 0, .int .i64 0, .slice none 0 0] := (by repeat (first | (with_reducible assumption) | ((with_reducible refine Bk.new _ _ _ ?_); first | (with_reducible rfl) | (simp; done)) | (with_reducible refine Bk.alloc ?_ _) | (with_reducible refine Bk.drew ?_) | (with_reducible refine Bk.drewN ?_ _) | ((with_reducible refine Bk.far ?_ ?_ _); rotate_left; focus (first | (simp; done) | (simp; omega))) | (with_reducible refine Bk.below ?_ (by with_reducible assumption)))); obtain ⟨kcO1, kfO1, kaO1, kgO1, klO1⟩ := kO1.rules
  obtain ⟨A1, c1, hv1, _, _⟩ := ho1.form encB_len
  generalize l.length = N at hv1
  subst hv1
  have hB1 : Below w.heap.size w w1 := (by repeat (first | (with_reducible exact Below.refl _ _) | (with_reducible refine balloc ?_ _) | (with_reducible refine Below.drew ?_) | (with_reducible refine bdrewN ?_ _) | ((with_reducible refine bset ?_ ?_ _); rotate_left; focus (first | (with_reducible exact Nat.le_refl _) | (simp; done) | (simp; omega) | omega)) | (with_reducible refine bstep (by with_reducible assumption) ?_)))
  have ho := ho1.mono (show w.heap.size ≤ _ by simp; omega)
  have o1 := ho.setFar kO1 (by decide) 0 (.int .i64 q.x0)
  have m1 := kO1.set 0 (.int .i64 q.x0)
  have o2 := o1.setFar m1 (by decide) 1 (.int .i64 q.y0)
  have m2 := m1.set 1 (.int .i64 q.y0)
  have o3 := o2.setFar m2 (by decide) 2 (.int .i64 q.x1)
  have m3 := m2.set 2 (.int .i64 q.x1)
  have o4 := o3.setFar m3 (by decide) 3 (.int .i64 q.y1)
  have m4 := m3.set 3 (.int .i64 q.y1)
  have o5 := o4.setFar m4 (by decide) 4 (.slice A1 N c1)
  clear o1 o2 o3 o4 m1 m2 m3 m4
  go_wp2
  refine bodyPost_ret (v := _) ?_ rfl ⟨_, rfl, o5, (by repeat (first | (with_reducible exact Below.refl _ _) | (with_reducible refine balloc ?_ _) | (with_reducible refine Below.drew ?_) | (with_reducible refine bdrewN ?_ _) | ((with_reducible refine bset ?_ ?_ _); rotate_left; focus (first | (with_reducible exact Nat.le_refl _) | (simp; done) | (simp; omega) | omega)) | (with_reducible refine bstep (by with_reducible assumption) ?_)))⟩
  simp [results, Try.results45, go_sem, kcO1]
end Go.Proofs.Ytndablijjkchjaa

namespace Go.Proofs.Ytndablijjkchjaa
open Go.RowKit
set_option linter.unusedSimpArgs false
set_option linter.unusedVariables false

theorem near_snoc (z : Int → Int → Bool) (pts : List (Int × Int)) (q : Int × Int) (x y : Int) : nearP z (pts ++ [q]) x y = if z q.1 q.2 then min (nearP z pts x y) (chebD x y q.1 q.2) else nearP z pts x y := by
  unfold nearP; rw [List.foldl_append]; rfl
theorem near_pos (z : Int → Int → Bool) (pts : List (Int × Int)) (x y : Int) : 0 ≤ nearP z pts x y ∧ nearP z pts x y ≤ 255 := by
  obtain ⟨h1, _, h3⟩ := near_spec z pts x y
  refine ⟨?_, h1⟩
  rcases h3 with h3 | ⟨q, _, _, h3⟩
  · omega
  · rw [h3]; unfold chebD; omega
theorem row_zero {α : Type} (g : Int → Int → α) (x y : Int) : rowL g x y 0 = [] := rfl

set_option maxHeartbeats 6400000 in
theorem rnear_any (b : Mk) (cx cy : Nat) (w : World) (hb : b.ok w) (hnb : b.n ≤ 4000000000) (hv : vMk b = true) (hx : cx < wdB b) (hy : cy < htB b) (x y : Int) (hxx : x = b.r.x0 + (cx : Int)) (hyy : y = b.r.y0 + (cy : Int)) (p : Int) (Hp : Hid (gF (wdB b) (dtP (wdB b) (htB b) b.l) cx cy = p)) :
    Calls Try.prog 78 #[.agg #[.int .i64 b.r.x0, .int .i64 b.r.y0, .int .i64 b.r.x1, .int .i64 b.r.y1, .slice b.A b.n b.c], .int .i64 x, .int .i64 y] w fun e w' => e = .returned (.int .u8 p) ∧ Below w.heap.size w w' := by
  have HB := Lib.hid hb
  obtain ⟨hlen, hwd0, hht0, hwl, hhl⟩ := grid_dim hv
  have hcb := canon_bd b.r
  rw [(mk_cn hv).1] at hcb
  obtain ⟨⟨bx0, bx1, bx2⟩, ⟨by0, by1, by2⟩⟩ := hcb
  have Hnb : Hid ((b.n : Int) = areaR b.r) := by unfold Hid; rw [← HB.out.ln]; exact (mk_cn hv).2.1
  have HAT : Hid (∀ i j : Nat, i < wdB b → j < htB b → atL 0 b.r b.l (b.r.x0 + (i : Int)) (b.r.y0 + (j : Int)) = gF (wdB b) b.l i j) := fun i j hi hj => atL_gF hv hi hj
  have HGB : Hid (∀ i j, 0 ≤ gF (wdB b) b.l i j ∧ gF (wdB b) b.l i j ≤ 255) := fun i j => gF_byte (ht := htB b) HB.out.byte i j
  obtain ⟨Z, HZ⟩ : ∃ Z : Int → Int → Bool, Hid ((fun u v => gat (wdB b) b.l u v == 0) = Z) := ⟨_, Lib.hid rfl⟩
  have HPN : Hid (nearP Z (madeL fpt 0 0 (wdB b) (htB b)) (cx : Int) (cy : Int) = p) := by
    unfold Hid
    rw [← HZ.out, ← dt_near hlen HB.out.byte ⟨by omega, by omega, by omega, by omega⟩, gF_gat]
    exact Hp.out
  have HZV : Hid (∀ i j : Nat, Z (fpt (0 + (i : Int)) (0 + (j : Int))).1 (fpt (0 + (i : Int)) (0 + (j : Int))).2 = (gF (wdB b) b.l i j == 0)) := by
    unfold Hid; intro i j; rw [← HZ.out]; simp only [fpt, Int.zero_add]; rw [gF_gat]
  generalize wdB b = wd at *
  generalize htB b = ht at *
  obtain ⟨f, Hf⟩ : ∃ f, Hid (gF wd b.l = f) := ⟨_, rfl⟩
  rw [Hf.out] at HAT HGB HZV
  have hw1 : b.r.x1 ≤ b.r.x0 + wd ∧ b.r.x0 + wd ≤ b.r.x1 := by omega
  have hh1 : b.r.y1 ≤ b.r.y0 + ht ∧ b.r.y0 + ht ≤ b.r.y1 := by omega
  have hmx := max_if
  have hmn := min_if
  have x1 : -4096 ≤ x ∧ x ≤ 4096 := by omega
  have y1 : -4096 ≤ y ∧ y ≤ 4096 := by omega
  have HXX := Lib.hid (And.intro hxx hyy)
  clear hb hv hlen hwd0 hht0 hxx hyy hx hy Hp HZ
  go_enter Try.func78, Try.ntmps78
  have kC1 : Bk (w.alloc (.cells #[.int .i64 b.r.x0, .int .i64 b.r.y0, .int .i64 b.r.x1, .int .i64 b.r.y1, .slice b.A b.n b.c] 29)) w.heap.size 29 #[.int .i64 b.r.x0, .int .i64 b.r.y0, .int .i64 b.r.x1, .int .i64 b.r.y1, .slice b.A b.n b.c] := Bk.new _ _ _ rfl
  have hB1 : Below w.heap.size w (w.alloc (.cells #[.int .i64 b.r.x0, .int .i64 b.r.y0, .int .i64 b.r.x1, .int .i64 b.r.y1, .slice b.A b.n b.c] 29)) := balloc (Below.refl _ _) _
  obtain ⟨kcC1, kfC1, kaC1, kgC1, klC1⟩ := kC1.rules
  go_wp2_with fail
  clear kcC1 kfC1 kaC1 kgC1
  go_loopw [8, 7] (fun i u wr => ∃ (j : Nat) (d : Int), j ≤ ht ∧ i = .int .i64 (b.r.y0 + (j : Int)) ∧ u = .int .i64 d ∧ Hid (nearP Z (madeL fpt 0 0 wd j) (cx : Int) (cy : Int) = d) ∧ Bk wr w.heap.size 29 #[.int .i64 b.r.x0, .int .i64 b.r.y0, .int .i64 b.r.x1, .int .i64 b.r.y1, .slice b.A b.n b.c] ∧ Below w.heap.size w wr) (fun i _ _ => (b.r.y1 - intOf i).toNat)
  case atStart => exact ⟨0, 255, Nat.zero_le _, by simp, rfl, rfl, kC1, hB1⟩
  case round =>
    clear kC1 hB1
    obtain ⟨j, d, hj, rfl, rfl, HN, jC, hbw⟩ := hrel
    obtain ⟨kcC, kfC, kaC, kgC, klC⟩ := jC.rules
    by_cases hlt : b.r.y0 + (j : Int) < b.r.y1
    · go_wp2_with fail
      clear kcC kfC kaC kgC
      go_loopw [9, 7] (fun i u wr => ∃ (k : Nat) (d : Int), k ≤ wd ∧ i = .int .i64 (b.r.x0 + (k : Int)) ∧ u = .int .i64 d ∧ Hid (nearP Z (madeL fpt 0 0 wd j ++ rowL fpt 0 (0 + (j : Int)) k) (cx : Int) (cy : Int) = d) ∧ Bk wr w.heap.size 29 #[.int .i64 b.r.x0, .int .i64 b.r.y0, .int .i64 b.r.x1, .int .i64 b.r.y1, .slice b.A b.n b.c] ∧ Below w.heap.size w wr) (fun i _ _ => (b.r.x1 - intOf i).toNat)
      case atStart => exact ⟨0, d, Nat.zero_le _, by simp, rfl, by unfold Hid; rw [row_zero, List.append_nil]; exact HN.out, jC, hbw⟩
      case round =>
        clear jC hbw HN
        obtain ⟨k, d, hk, rfl, rfl, HN, jC, hbw⟩ := hrel
        obtain ⟨kcC, kfC, kaC, kgC, klC⟩ := jC.rules
        have hdb : 0 ≤ d ∧ d ≤ 255 := by rw [← HN.out]; exact near_pos _ _ _ _
        by_cases hlx : b.r.x0 + (k : Int) < b.r.x1
        · have hP := HAT.out k j (by omega) (by omega)
          obtain ⟨q, Hq⟩ : ∃ q, Hid (f k j = q) := ⟨_, rfl⟩
          rw [Hq.out] at hP
          have HP := Lib.hid hP
          have hzv := HZV.out k j
          rw [Hq.out] at hzv
          have hsn : nearP Z (madeL fpt 0 0 wd j ++ rowL fpt 0 (0 + (j : Int)) (k + 1)) (cx : Int) (cy : Int) = if (q == 0) = true then min d (chebD (cx : Int) (cy : Int) (k : Int) (j : Int)) else d := by
            rw [rowL_succ, ← List.append_assoc, near_snoc, hzv, HN.out]
            simp only [fpt, Int.zero_add]
          clear hP hzv
          by_cases hq0 : q = 0
          · subst hq0
            obtain ⟨u1, hu1⟩ : ∃ u, max (b.r.x0 + (k : Int) - x) (x - (b.r.x0 + (k : Int))) = u := ⟨_, rfl⟩
            obtain ⟨u2, hu2⟩ : ∃ u, max (b.r.y0 + (j : Int) - y) (y - (b.r.y0 + (j : Int))) = u := ⟨_, rfl⟩
            obtain ⟨u3, hu3⟩ : ∃ u, max u1 u2 = u := ⟨_, rfl⟩
            obtain ⟨d', hd'⟩ : ∃ u, min d u3 = u := ⟨_, rfl⟩
            have HN' : Hid (nearP Z (madeL fpt 0 0 wd j ++ rowL fpt 0 (0 + (j : Int)) (k + 1)) (cx : Int) (cy : Int) = d') := by
              unfold Hid
              rw [hsn, if_pos (by rfl), ← hd', ← hu3, ← hu1, ← hu2]
              obtain ⟨e1, e2⟩ := HXX.out
              rw [e1, e2]
              unfold chebD
              congr 1
              omega
            clear hsn
            go_wp2_with fail
            refine (mva_any b.r b.A b.n b.c b.l (b.r.x0 + (k : Int)) (b.r.y0 + (j : Int)) _ (HB.out.rd.below (by repeat (first | (with_reducible exact Below.refl _ _) | (with_reducible refine balloc ?_ _) | (with_reducible refine Below.drew ?_) | (with_reducible refine bdrewN ?_ _) | ((with_reducible refine bset ?_ ?_ _); rotate_left; focus (first | (with_reducible exact Nat.le_refl _) | (simp; done) | (simp; omega) | omega)) | (with_reducible refine bstep (by with_reducible assumption) ?_)))) HB.out.ln hnb Hnb.out 0 HP).mono ?_
            rintro e w2 ⟨rfl, hb2⟩
            clear kcC kfC kaC kgC
            have j2 := jC.below hb2
            have hB2 := bstep hb2 hbw
            clear hb2
            go_wp2
            go_roundw
            case rel => exact ⟨k + 1, d', by omega, by rw [show b.r.x0 + (k : Int) + 1 = b.r.x0 + ((k + 1 : Nat) : Int) by omega], rfl, HN', j2, hB2⟩
            case measure => simp [intOf]; omega
          · have HN' : Hid (nearP Z (madeL fpt 0 0 wd j ++ rowL fpt 0 (0 + (j : Int)) (k + 1)) (cx : Int) (cy : Int) = d) := by
              unfold Hid
              rw [hsn, if_neg (by simpa using hq0)]
            clear hsn
            go_wp2_with fail
            refine (mva_any b.r b.A b.n b.c b.l (b.r.x0 + (k : Int)) (b.r.y0 + (j : Int)) _ (HB.out.rd.below (by repeat (first | (with_reducible exact Below.refl _ _) | (with_reducible refine balloc ?_ _) | (with_reducible refine Below.drew ?_) | (with_reducible refine bdrewN ?_ _) | ((with_reducible refine bset ?_ ?_ _); rotate_left; focus (first | (with_reducible exact Nat.le_refl _) | (simp; done) | (simp; omega) | omega)) | (with_reducible refine bstep (by with_reducible assumption) ?_)))) HB.out.ln hnb Hnb.out q HP).mono ?_
            rintro e w2 ⟨rfl, hb2⟩
            clear kcC kfC kaC kgC
            have j2 := jC.below hb2
            have hB2 := bstep hb2 hbw
            clear hb2
            go_wp2
            go_roundw
            case rel => exact ⟨k + 1, d, by omega, by rw [show b.r.x0 + (k : Int) + 1 = b.r.x0 + ((k + 1 : Nat) : Int) by omega], rfl, HN', j2, hB2⟩
            case measure => simp [intOf]; omega
        · obtain rfl : k = wd := by omega
          have HN' : Hid (nearP Z (madeL fpt 0 0 k (j + 1)) (cx : Int) (cy : Int) = d) := by unfold Hid; rw [madeL_succ]; exact HN.out
          go_wp2
          go_roundw
          case rel => exact ⟨j + 1, d, by omega, by rw [show b.r.y0 + (j : Int) + 1 = b.r.y0 + ((j + 1 : Nat) : Int) by omega], rfl, HN', jC, hbw⟩
          case measure => simp [intOf]; omega
    · obtain rfl : j = ht := by omega
      have hdp : d = p := by rw [← HN.out]; exact HPN.out
      have hdb : 0 ≤ d ∧ d ≤ 255 := by rw [← HN.out]; exact near_pos _ _ _ _
      have HDP := Lib.hid hdp
      have hwu : IntKind.u8.wrap d = d := IntWalk.u8_in _ (by omega)
      clear hdp
      go_wp2
      go_ret
      exact ⟨ret_int HDP.out, hbw⟩

set_option maxHeartbeats 12800000 in
theorem rdt_any (b : Mk) (w : World) (hb : b.ok w) (hnb : b.n ≤ 4000000000) :
    Calls Try.prog 46 #[.agg #[.int .i64 b.r.x0, .int .i64 b.r.y0, .int .i64 b.r.x1, .int .i64 b.r.y1, .slice b.A b.n b.c]] w (RetME (mpR b) (dtL b) (mpE b) w) := by
  have HB := Lib.hid hb
  clear hb
  cases vb : vMk b with
  | false =>
    have Hvb := Lib.hid vb
    have e1 : mpR b = ⟨0, 0, 0, 0⟩ := by unfold mpR; rw [vb]; rfl
    have e2 : dtL b = [] := by unfold dtL; rw [vb]; rfl
    have e3 : mpE b = 14 := by unfold mpE; rw [vb]; rfl
    rw [e1, e2, e3]
    clear e1 e2 e3
    clear vb
    go_enter Try.func46, Try.ntmps46
    go_wp2_with fail
    refine (rmvalid_any b.r b.A b.n b.c b.l _ (HB.out.rd.below (by repeat (first | (with_reducible exact Below.refl _ _) | (with_reducible refine balloc ?_ _) | (with_reducible refine Below.drew ?_) | (with_reducible refine bdrewN ?_ _) | ((with_reducible refine bset ?_ ?_ _); rotate_left; focus (first | (with_reducible exact Nat.le_refl _) | (simp; done) | (simp; omega) | omega)) | (with_reducible refine bstep (by with_reducible assumption) ?_)))) HB.out.ln hnb false Hvb).mono ?_
    rintro e w1 ⟨rfl, hb1⟩
    have kO1 : Bk w1 (w.heap.size + 1) 29 #[.int .i64 0, .int .i64 0, .int .i64 0, .int .i64 0, .slice none 0 0] := (by repeat (first | (with_reducible assumption) | ((with_reducible refine Bk.new _ _ _ ?_); first | (with_reducible rfl) | (simp; done)) | (with_reducible refine Bk.alloc ?_ _) | (with_reducible refine Bk.drew ?_) | (with_reducible refine Bk.drewN ?_ _) | ((with_reducible refine Bk.far ?_ ?_ _); rotate_left; focus (first | (simp; done) | (simp; omega))) | (with_reducible refine Bk.below ?_ (by with_reducible assumption)))); obtain ⟨kcO1, kfO1, kaO1, kgO1, klO1⟩ := kO1.rules
    go_wp2
    refine bodyPost_ret (v := _) ?_ rfl (RetME.no 14 (by repeat (first | (with_reducible exact Below.refl _ _) | (with_reducible refine balloc ?_ _) | (with_reducible refine Below.drew ?_) | (with_reducible refine bdrewN ?_ _) | ((with_reducible refine bset ?_ ?_ _); rotate_left; focus (first | (with_reducible exact Nat.le_refl _) | (simp; done) | (simp; omega) | omega)) | (with_reducible refine bstep (by with_reducible assumption) ?_))))
    simp [results, Try.results46, go_sem, kcO1]
  | true =>
    have Hvb := Lib.hid vb
    have e1 : mpR b = b.r := by unfold mpR; rw [vb]; rfl
    have e2 : dtL b = dtP (wdB b) (htB b) b.l := by unfold dtL; rw [vb]; rfl
    have e3 : mpE b = 0 := by unfold mpE; rw [vb]; rfl
    rw [e1, e2, e3]
    clear e1 e2 e3
    have HV : Hid (vMk b = true) := vb
    obtain ⟨hlen, gwd, ght, _, _⟩ := grid_dim vb
    have HQc : Hid (canonR b.r = b.r) := (mk_cn vb).1
    obtain ⟨g, Hg⟩ : ∃ g : Int → Int → Int, Hid ((fun x y => gF (wdB b) (dtP (wdB b) (htB b) b.l) (x - b.r.x0).toNat (y - b.r.y0).toNat) = g) := ⟨_, Lib.hid rfl⟩
    have HGV : Hid (∀ i j : Nat, gF (wdB b) (dtP (wdB b) (htB b) b.l) i j = g (b.r.x0 + (i : Int)) (b.r.y0 + (j : Int))) := by
      unfold Hid; intro i j; rw [← Hg.out]
      show _ = gF (wdB b) (dtP (wdB b) (htB b) b.l) (b.r.x0 + (i : Int) - b.r.x0).toNat (b.r.y0 + (j : Int) - b.r.y0).toNat
      rw [show (b.r.x0 + (i : Int) - b.r.x0).toNat = i by omega, show (b.r.y0 + (j : Int) - b.r.y0).toNat = j by omega]
    have HL : Hid (dtP (wdB b) (htB b) b.l = madeL g b.r.x0 b.r.y0 (wdB b) (htB b)) :=
      Lib.hid (made_shift _ _ _ _ _ (G := fun i j => gF (wdB b) (dtP (wdB b) (htB b) b.l) i j) (fun i j hi hj => (HGV.out i j).symm) (by rw [(dt_ok hlen HB.out.byte).len, Nat.mul_comm]) (fun i j hi hj => rfl)).symm
    rw [HL.out]
    have HDIM := Lib.hid (And.intro gwd ght)
    clear HL Hg vb gwd ght hlen
    go_enter Try.func46, Try.ntmps46
    go_wp2_with fail
    refine (rmvalid_any b.r b.A b.n b.c b.l _ (HB.out.rd.below (by repeat (first | (with_reducible exact Below.refl _ _) | (with_reducible refine balloc ?_ _) | (with_reducible refine Below.drew ?_) | (with_reducible refine bdrewN ?_ _) | ((with_reducible refine bset ?_ ?_ _); rotate_left; focus (first | (with_reducible exact Nat.le_refl _) | (simp; done) | (simp; omega) | omega)) | (with_reducible refine bstep (by with_reducible assumption) ?_)))) HB.out.ln hnb true Hvb).mono ?_
    rintro e w1 ⟨rfl, hb1⟩
    have kC1 : Bk w1 (w.heap.size) 29 #[.int .i64 b.r.x0, .int .i64 b.r.y0, .int .i64 b.r.x1, .int .i64 b.r.y1, .slice b.A b.n b.c] := (by repeat (first | (with_reducible assumption) | ((with_reducible refine Bk.new _ _ _ ?_); first | (with_reducible rfl) | (simp; done)) | (with_reducible refine Bk.alloc ?_ _) | (with_reducible refine Bk.drew ?_) | (with_reducible refine Bk.drewN ?_ _) | ((with_reducible refine Bk.far ?_ ?_ _); rotate_left; focus (first | (simp; done) | (simp; omega))) | (with_reducible refine Bk.below ?_ (by with_reducible assumption)))); obtain ⟨kcC1, kfC1, kaC1, kgC1, klC1⟩ := kC1.rules; have kO1 : Bk w1 (w.heap.size + 1) 29 #[.int .i64 0, .int .i64 0, .int .i64 0, .int .i64 0, .slice none 0 0] := (by repeat (first | (with_reducible assumption) | ((with_reducible refine Bk.new _ _ _ ?_); first | (with_reducible rfl) | (simp; done)) | (with_reducible refine Bk.alloc ?_ _) | (with_reducible refine Bk.drew ?_) | (with_reducible refine Bk.drewN ?_ _) | ((with_reducible refine Bk.far ?_ ?_ _); rotate_left; focus (first | (simp; done) | (simp; omega))) | (with_reducible refine Bk.below ?_ (by with_reducible assumption)))); obtain ⟨kcO1, kfO1, kaO1, kgO1, klO1⟩ := kO1.rules
    have hcb := canon_bd b.r
    rw [HQc.out] at hcb
    clear kcO1 kfO1 kaO1 kgO1 kcC1 kfC1 kaC1 kgC1
    have sO1 := kO1.lt
    have hB1 : Below w.heap.size w w1 := (by repeat (first | (with_reducible exact Below.refl _ _) | (with_reducible refine balloc ?_ _) | (with_reducible refine Below.drew ?_) | (with_reducible refine bdrewN ?_ _) | ((with_reducible refine bset ?_ ?_ _); rotate_left; focus (first | (with_reducible exact Nat.le_refl _) | (simp; done) | (simp; omega) | omega)) | (with_reducible refine bstep (by with_reducible assumption) ?_)))
    clear hb1
    obtain ⟨⟨bx0, bx1, bx2⟩, ⟨by0, by1, by2⟩⟩ := hcb
    have hDd := HDIM.out
    generalize hwdB : wdB b = wd at *
    generalize hhtB : htB b = ht at *
    obtain ⟨hD1, hD2⟩ := hDd
    have hw1 : b.r.x1 ≤ b.r.x0 + wd ∧ b.r.x0 + wd ≤ b.r.x1 := by omega
    have hh1 : b.r.y1 ≤ b.r.y0 + ht ∧ b.r.y0 + ht ≤ b.r.y1 := by omega
    have hwl : wd ≤ 8192 := by omega
    have hhl : ht ≤ 8192 := by omega
    have HWD := Lib.hid (And.intro hwdB hhtB)
    clear hD1 hD2 hwdB hhtB
    obtain ⟨kcO1, kfO1, kaO1, kgO1, klO1⟩ := kO1.rules
    obtain ⟨kcC1, kfC1, kaC1, kgC1, klC1⟩ := kC1.rules
    go_wp2_with fail
    clear kcO1 kfO1 kaO1 kgO1 kcC1 kfC1 kaC1 kgC1
    go_loopw [5] (fun i wr => ∃ (j : Nat) (v : Value), j ≤ ht ∧ i = .int .i64 (b.r.y0 + j) ∧ Bk wr (w.heap.size) 29 #[.int .i64 b.r.x0, .int .i64 b.r.y0, .int .i64 b.r.x1, .int .i64 b.r.y1, .slice b.A b.n b.c] ∧ Bk wr (w.heap.size + 1) 29 #[.int .i64 0, .int .i64 0, .int .i64 0, .int .i64 0, .slice none 0 0] ∧ Bk wr (w1.heap.size) 29 #[.int .i64 b.r.x0, .int .i64 b.r.y0, .int .i64 b.r.x1, .int .i64 b.r.y1, v] ∧ OwnL encB 5 1 wr (w1.heap.size) v (madeL g b.r.x0 b.r.y0 wd j) ∧ Below w.heap.size w wr) (fun i _ => (b.r.y1 - intOf i).toNat)
    case atStart => exact ⟨0, _, Nat.zero_le _, by simp, kC1.alloc _, kO1.alloc _, Bk.new _ _ _ rfl, OwnL.nil _ _, (by repeat (first | (with_reducible exact Below.refl _ _) | (with_reducible refine balloc ?_ _) | (with_reducible refine Below.drew ?_) | (with_reducible refine bdrewN ?_ _) | ((with_reducible refine bset ?_ ?_ _); rotate_left; focus (first | (with_reducible exact Nat.le_refl _) | (simp; done) | (simp; omega) | omega)) | (with_reducible refine bstep (by with_reducible assumption) ?_)))⟩
    case round =>
      obtain ⟨j, v, hj, rfl, jC, jO, jB, ho, hbw⟩ := hrel
      obtain ⟨kcC, kfC, kaC, kgC, klC⟩ := jC.rules
      obtain ⟨kcO, kfO, kaO, kgO, klO⟩ := jO.rules
      obtain ⟨kcB, kfB, kaB, kgB, klB⟩ := jB.rules
      by_cases hlt : b.r.y0 + j < b.r.y1
      · go_wp2_with fail
        clear kcC kfC kaC kgC kcO kfO kaO kgO kcB kfB kaB kgB
        go_loopw [6] (fun i wr => ∃ (k : Nat) (u : Value), k ≤ wd ∧ i = .int .i64 (b.r.x0 + k) ∧ Bk wr (w.heap.size) 29 #[.int .i64 b.r.x0, .int .i64 b.r.y0, .int .i64 b.r.x1, .int .i64 b.r.y1, .slice b.A b.n b.c] ∧ Bk wr (w.heap.size + 1) 29 #[.int .i64 0, .int .i64 0, .int .i64 0, .int .i64 0, .slice none 0 0] ∧ Bk wr (w1.heap.size) 29 #[.int .i64 b.r.x0, .int .i64 b.r.y0, .int .i64 b.r.x1, .int .i64 b.r.y1, u] ∧ OwnL encB 5 1 wr (w1.heap.size) u (madeL g b.r.x0 b.r.y0 wd j ++ rowL g b.r.x0 (b.r.y0 + j) k) ∧ Below w.heap.size w wr) (fun i _ => (b.r.x1 - intOf i).toNat)
        case atStart => exact ⟨0, v, Nat.zero_le _, by simp, jC, jO, jB, by simpa [rowL] using ho, hbw⟩
        case round =>
          obtain ⟨k, u, hk, rfl, q0C, q0O, q0B, qu0, qB0⟩ := hrel
          obtain ⟨kcC, kfC, kaC, kgC, klC⟩ := q0C.rules
          obtain ⟨kcO, kfO, kaO, kgO, klO⟩ := q0O.rules
          obtain ⟨kcB, kfB, kaB, kgB, klB⟩ := q0B.rules
          by_cases hlx : b.r.x0 + k < b.r.x1
          · obtain ⟨p, Hp⟩ : ∃ p, Hid (g (b.r.x0 + k) (b.r.y0 + j) = p) := ⟨_, rfl⟩
            have hlen : (madeL g b.r.x0 b.r.y0 wd j ++ rowL g b.r.x0 (b.r.y0 + j) k).length ≤ 4294967296 := by
              rw [List.length_append, madeL_len, rowL_len]
              have : j * wd ≤ 8192 * 8192 := Nat.mul_le_mul (by omega) hwl
              omega
            have Hp0 : Hid (gF (wdB b) (dtP (wdB b) (htB b) b.l) k j = p) := by
              obtain ⟨e1, e2⟩ := HWD.out
              unfold Hid; rw [e1, e2, HGV.out]; exact Hp.out
            have hkb : k < wdB b := by have := HWD.out.1; omega
            have hjb : j < htB b := by have := HWD.out.2; omega
            go_wp2_with fail
            clear kcC kfC kaC kgC kcO kfO kaO kgO kcB kfB kaB kgB
            have q1C := q0C.drew
            have q1O := q0O.drew
            have q1B := q0B.drew
            have qu1 := qu0.drew
            have qB1 := qB0.drew
            refine wp_region_go 9 [(0, true), (1, true), (2, true), (3, true), (4, true), (5, false), (6, false), (7, false), (8, true)] (fun w' => Bk w' (w.heap.size) 29 #[.int .i64 b.r.x0, .int .i64 b.r.y0, .int .i64 b.r.x1, .int .i64 b.r.y1, .slice b.A b.n b.c] ∧ Bk w' (w.heap.size + 1) 29 #[.int .i64 0, .int .i64 0, .int .i64 0, .int .i64 0, .slice none 0 0] ∧ Bk w' (w1.heap.size) 29 #[.int .i64 b.r.x0, .int .i64 b.r.y0, .int .i64 b.r.x1, .int .i64 b.r.y1, u] ∧ Below w.heap.size w w') (by kernel_rfl) (by kernel_rfl) (fun c a d v w h => by cases d <;> exact h) ⟨q1C, q1O, q1B, qB1⟩ ?_
            repeat (first | (refine wpGo_pure (v := ?_) rfl rfl (fun w' hS => ?_) ?_; rotate_left; (· obtain ⟨kc0, kf0, ka0, kg0, kl0⟩ := Bk.rules hS.1; obtain ⟨kc1, kf1, ka1, kg1, kl1⟩ := Bk.rules hS.2.1; obtain ⟨kc2, kf2, ka2, kg2, kl2⟩ := Bk.rules hS.2.2.1; have hSB := hS.2.2.2; go_simp; exact rfl); (try simp only [Act.put, List.setIfInBounds_toArray, List.set_cons_zero, List.set_cons_succ])) | ((refine wpGo_skip rfl rfl ?_); (try simp only [Act.put, List.setIfInBounds_toArray, List.set_cons_zero, List.set_cons_succ])))
            refine wpGo_eff rfl (fun K hK => ?_)
            go_simp
            refine (rnear_any b k j _ (HB.out.below qB1) hnb HV.out hkb hjb _ _ rfl rfl p Hp0).mono ?_
            rintro e w11 ⟨rfl, hb11⟩
            have q2C := q1C.below hb11
            have q2O := q1O.below hb11
            have q2B := q1B.below hb11
            have qu2 := qu1.below hb11
            have qB2 := bstep hb11 qB1
            refine hK.out _ _ ⟨q2C, q2O, q2B, qB2⟩ (fun _ => ?_)
            clear hK K
            refine wpGo_eff rfl (fun K hK => ?_)
            go_simp
            have q3C := q2C.alloc (.cells #[.int .u8 p] 5)
            have q3O := q2O.alloc (.cells #[.int .u8 p] 5)
            have q3B := q2B.alloc (.cells #[.int .u8 p] 5)
            have qu3 := qu2.alloc (.cells #[.int .u8 p] 5)
            have qB3 := balloc qB2 (.cells #[.int .u8 p] 5)
            refine hK.out _ _ ⟨q3C, q3O, q3B, qB3⟩ (fun _ => ?_)
            clear hK K
            have hsz := qB3.size
            refine wpGo_effp rfl (fun K hK => ?_)
            refine wp_append_one encB_len encB_one 27 Try.infoU8 rfl (by decide) (by decide) Try.underlying27 _ _ rfl (w1.heap.size) u _ rfl qu3 w11.heap.size p rfl (Bk.new _ _ _ (by first | rfl | simp)) rfl hlen (by first | (simp at hsz ⊢; omega) | (have h1 := q3B.lt; simp at hsz h1 ⊢; omega) | (have h1 := q3B.lt; simp at hsz ⊢; omega)) ?_
            intro v5 w5 ho5 hg5 hv5
            have q4C := q3C.grown hg5 (qu3.neBk q3C (by decide))
            have q4O := q3O.grown hg5 (qu3.neBk q3O (by decide))
            have q4B := q3B.grown hg5 (qu3.neBk q3B (by decide))
            have qu4 := ho5
            have qB4 := below_grown qu3 hg5 qB3 (by first | exact Nat.le_refl _ | omega)
            obtain ⟨g5, c5, hv5, _⟩ := hv5
            refine hK.out _ _ ⟨q4C, q4O, q4B, qB4⟩ (fun _ => ?_)
            clear hK K
            simp only [Act.put, List.setIfInBounds_toArray, List.set_cons_zero, List.set_cons_succ]
            repeat (first | (refine wpGo_pure (v := ?_) rfl rfl (fun w' hS => ?_) ?_; rotate_left; (· obtain ⟨kc0, kf0, ka0, kg0, kl0⟩ := Bk.rules hS.1; obtain ⟨kc1, kf1, ka1, kg1, kl1⟩ := Bk.rules hS.2.1; obtain ⟨kc2, kf2, ka2, kg2, kl2⟩ := Bk.rules hS.2.2.1; have hSB := hS.2.2.2; go_simp; exact rfl); (try simp only [Act.put, List.setIfInBounds_toArray, List.set_cons_zero, List.set_cons_succ])) | ((refine wpGo_skip rfl rfl ?_); (try simp only [Act.put, List.setIfInBounds_toArray, List.set_cons_zero, List.set_cons_succ])))
            refine wpGo_nil ?_
            simp only [List.drop_succ_cons, List.drop_zero]
            clear Hp0 hkb hjb
            have HL : Hid (madeL g b.r.x0 b.r.y0 wd j ++ rowL g b.r.x0 (b.r.y0 + j) k ++ [p] = madeL g b.r.x0 b.r.y0 wd j ++ rowL g b.r.x0 (b.r.y0 + j) (k + 1)) := by
              unfold Hid; rw [rowL_succ, Hp.out, List.append_assoc]
            rw [HL.out] at qu4
            obtain ⟨kc5, kf5, ka5, kg5, kl5⟩ := q4B.rules
            have mB : Bk _ (w1.heap.size) 29 #[.int .i64 b.r.x0, .int .i64 b.r.y0, .int .i64 b.r.x1, .int .i64 b.r.y1, v5] := q4B.set 4 v5
            have mC := q4C.far (p := ⟨w1.heap.size, 4, none⟩) (show w.heap.size ≠ w1.heap.size by omega) v5
            have mO := q4O.far (p := ⟨w1.heap.size, 4, none⟩) (show w.heap.size + 1 ≠ w1.heap.size by omega) v5
            have ho6 := qu4.setFar q4B (by decide) 4 v5
            have hB6 := bset qB4 (p := ⟨w1.heap.size, 4, none⟩) (show w.heap.size ≤ w1.heap.size by omega) v5
            clear HL q1C q1O q1B q2C q2O q2B q3C q3O q3B q4C q4O q4B qu1 qu2 qu3 qB1 qB2 qB3 qB4
            generalize (madeL g b.r.x0 b.r.y0 wd j ++ rowL g b.r.x0 (b.r.y0 + (j : Int)) k).length + 1 = n5 at hv5
            subst hv5
            go_wp2
            go_roundw
            case rel => exact ⟨k + 1, _, by omega, by rw [show b.r.x0 + (k : Int) + 1 = b.r.x0 + ((k + 1 : Nat) : Int) by omega], mC, mO, mB, ho6, hB6⟩
            case measure => simp [intOf]; omega
          · obtain rfl : k = wd := by omega
            have hu' : OwnL encB 5 1 wr (w1.heap.size) u (madeL g b.r.x0 b.r.y0 k (j + 1)) := by rw [madeL_succ]; exact qu0
            go_wp2
            go_roundw
            case rel => exact ⟨j + 1, u, by omega, by rw [show b.r.y0 + (j : Int) + 1 = b.r.y0 + ((j + 1 : Nat) : Int) by omega], q0C, q0O, q0B, hu', qB0⟩
            case measure => simp [intOf]; omega
      · obtain rfl : j = ht := by omega
        have ho := ho.mono (show w.heap.size ≤ w1.heap.size by omega)
        obtain ⟨kc', kf', ka', kg', kl'⟩ := jO.rules
        obtain ⟨A0, c0', hv0, _, _⟩ := ho.form encB_len
        generalize (madeL g b.r.x0 b.r.y0 wd j).length = n0 at hv0
        subst hv0
        have o1 := ho.setFar jO (by decide) 0 (.int .i64 b.r.x0)
        have m1 := jO.set 0 (.int .i64 b.r.x0)
        have o2 := o1.setFar m1 (by decide) 1 (.int .i64 b.r.y0)
        have m2 := m1.set 1 (.int .i64 b.r.y0)
        have o3 := o2.setFar m2 (by decide) 2 (.int .i64 b.r.x1)
        have m3 := m2.set 2 (.int .i64 b.r.x1)
        have o4 := o3.setFar m3 (by decide) 3 (.int .i64 b.r.y1)
        have m4 := m3.set 3 (.int .i64 b.r.y1)
        have o5 := o4.setFar m4 (by decide) 4 (.slice A0 n0 c0')
        clear o1 o2 o3 o4 m1 m2 m3 m4
        go_wp2
        refine bodyPost_ret (v := _) ?_ rfl ⟨_, rfl, o5, (by repeat (first | (with_reducible exact Below.refl _ _) | (with_reducible refine balloc ?_ _) | (with_reducible refine Below.drew ?_) | (with_reducible refine bdrewN ?_ _) | ((with_reducible refine bset ?_ ?_ _); rotate_left; focus (first | (with_reducible exact Nat.le_refl _) | (simp; done) | (simp; omega) | omega)) | (with_reducible refine bstep (by with_reducible assumption) ?_)))⟩
        simp [results, Try.results46, go_sem, kc']
end Go.Proofs.Ytndablijjkchjaa
