/-
  The walk of grisailleref30.blurred.
-/
import Derived.Test.YtnefnnhnjmmebaaBlurQ
import Derived.Test.YtnefnnhnjmmebaaBlur1
import Derived.Test.YtnefnnhnjmmebaaBgA
import Derived.Test.YtnefnnhnjmmebaaBm6
namespace Go.Proofs.Ytnefnnhnjmmebaa
open Go.RowKit
set_option linter.unusedSimpArgs false
set_option linter.unusedVariables false

/-- The sums of k rows of the square, and of l places of the next row. -/
def sqR (l : List Px) (r : Rc) (X Y n k : Nat) : Px := ⟨rowS (fun j => rowS (fun i => atN l r 0 ((X : Int) - n + i) ((Y : Int) - n + j)) (2 * n + 1)) k, rowS (fun j => rowS (fun i => atN l r 1 ((X : Int) - n + i) ((Y : Int) - n + j)) (2 * n + 1)) k,
  rowS (fun j => rowS (fun i => atN l r 2 ((X : Int) - n + i) ((Y : Int) - n + j)) (2 * n + 1)) k, rowS (fun j => rowS (fun i => atN l r 3 ((X : Int) - n + i) ((Y : Int) - n + j)) (2 * n + 1)) k⟩
def sqI (l : List Px) (r : Rc) (X Y n k m : Nat) : Px := ⟨rowS (fun i => atN l r 0 ((X : Int) - n + i) ((Y : Int) - n + k)) m, rowS (fun i => atN l r 1 ((X : Int) - n + i) ((Y : Int) - n + k)) m,
  rowS (fun i => atN l r 2 ((X : Int) - n + i) ((Y : Int) - n + k)) m, rowS (fun i => atN l r 3 ((X : Int) - n + i) ((Y : Int) - n + k)) m⟩
theorem sqR_succ (l : List Px) (r : Rc) (X Y n k : Nat) : sqR l r X Y n (k + 1) = addP (sqR l r X Y n k) (sqI l r X Y n k (2 * n + 1)) := rfl
theorem sqI_succ (l : List Px) (r : Rc) (X Y n k m : Nat) : sqI l r X Y n k (m + 1) = addP (sqI l r X Y n k m) (atL zP r l (r.x0 + ((X : Int) - n + m)) (r.y0 + ((Y : Int) - n + k))) := rfl
theorem addP_assoc (a b c : Px) : addP (addP a b) c = addP a (addP b c) := by unfold addP; simp [Int.add_assoc]
theorem addP_zero (a : Px) : addP a ⟨0, 0, 0, 0⟩ = a := by unfold addP; simp
theorem atN_bd {l : List Px} (h : pxsB l) (r : Rc) (c : Nat) (i j : Int) : 0 ≤ atN l r c i j ∧ atN l r c i j ≤ 255 := pxc_byte (atL_px h _ _) c
theorem sqIc_bd {l : List Px} (h : pxsB l) (r : Rc) (c X Y n k : Nat) {m : Nat} (hm : m ≤ 33) : 0 ≤ rowS (fun i => atN l r c ((X : Int) - n + i) ((Y : Int) - n + k)) m ∧ rowS (fun i => atN l r c ((X : Int) - n + i) ((Y : Int) - n + k)) m ≤ 8415 := by
  have h1 := rowS_nonneg (f := fun i => atN l r c ((X : Int) - n + i) ((Y : Int) - n + k)) (n := m) (fun i _ => (atN_bd h r c _ _).1)
  have h2 := rowS_le (f := fun i => atN l r c ((X : Int) - n + i) ((Y : Int) - n + k)) (n := m) (m := 255) (fun i _ => (atN_bd h r c _ _).2)
  omega
theorem sqRc_bd {l : List Px} (h : pxsB l) (r : Rc) (c X Y : Nat) {n k : Nat} (hn : n ≤ 16) (hk : k ≤ 33) : 0 ≤ rowS (fun j => rowS (fun i => atN l r c ((X : Int) - n + i) ((Y : Int) - n + j)) (2 * n + 1)) k ∧ rowS (fun j => rowS (fun i => atN l r c ((X : Int) - n + i) ((Y : Int) - n + j)) (2 * n + 1)) k ≤ 277695 := by
  have h1 := rowS_nonneg (f := fun j => rowS (fun i => atN l r c ((X : Int) - n + i) ((Y : Int) - n + j)) (2 * n + 1)) (n := k) (fun j _ => (sqIc_bd h r c X Y n j (m := 2 * n + 1) (by omega)).1)
  have h2 := rowS_le (f := fun j => rowS (fun i => atN l r c ((X : Int) - n + i) ((Y : Int) - n + j)) (2 * n + 1)) (n := k) (m := 8415) (fun j _ => (sqIc_bd h r c X Y n j (m := 2 * n + 1) (by omega)).2)
  omega
def Px.sm (p : Px) : Prop := (0 ≤ p.r ∧ p.r ≤ 300000) ∧ (0 ≤ p.g ∧ p.g ≤ 300000) ∧ (0 ≤ p.b ∧ p.b ≤ 300000) ∧ 0 ≤ p.a ∧ p.a ≤ 300000
theorem sq_sm {l : List Px} (h : pxsB l) (r : Rc) (X Y : Nat) {n k m : Nat} (hn : n ≤ 16) (hk : k ≤ 33) (hm : m ≤ 33) : (addP (sqR l r X Y n k) (sqI l r X Y n k m)).sm := by
  have a0 := sqRc_bd h r 0 X Y hn hk
  have a1 := sqRc_bd h r 1 X Y hn hk
  have a2 := sqRc_bd h r 2 X Y hn hk
  have a3 := sqRc_bd h r 3 X Y hn hk
  have b0 := sqIc_bd h r 0 X Y n k hm
  have b1 := sqIc_bd h r 1 X Y n k hm
  have b2 := sqIc_bd h r 2 X Y n k hm
  have b3 := sqIc_bd h r 3 X Y n k hm
  refine ⟨?_, ?_, ?_, ?_, ?_⟩ <;> (simp only [addP, sqR, sqI]; omega)
theorem sqI_zero (l : List Px) (r : Rc) (X Y n k : Nat) : sqI l r X Y n k 0 = ⟨0, 0, 0, 0⟩ := rfl
theorem sqR_sq {l : List Px} {r : Rc} (hc : canonR r = r) (n : Nat) {X Y : Nat} (hX : X < (r.x1 - r.x0).toNat) (hY : Y < (r.y1 - r.y0).toNat) : sqR l r X Y n (2 * n + 1) = ⟨winS l (r.x1 - r.x0).toNat (r.y1 - r.y0).toNat 0 X Y n, winS l (r.x1 - r.x0).toNat (r.y1 - r.y0).toNat 1 X Y n, winS l (r.x1 - r.x0).toNat (r.y1 - r.y0).toNat 2 X Y n, winS l (r.x1 - r.x0).toNat (r.y1 - r.y0).toNat 3 X Y n⟩ := by
  rw [← sq_blur hc 0 n hX hY, ← sq_blur hc 1 n hX hY, ← sq_blur hc 2 n hX hY, ← sq_blur hc 3 n hX hY]; rfl

set_option maxHeartbeats 6400000 in
theorem rblurred_any (b : Bm) (X Y n : Nat) (w : World) (hb : b.ok w) (hnb : b.n ≤ 4000000000) (hv : vBm b = true) (hX : X < (b.r.x1 - b.r.x0).toNat) (hY : Y < (b.r.y1 - b.r.y0).toNat) (hnn : n ≤ 16) (x y : Int) (hxx : x = b.r.x0 + (X : Int)) (hyy : y = b.r.y0 + (Y : Int)) (p : Px) (Hp : Hid (blurN b.l (b.r.x1 - b.r.x0).toNat (b.r.y1 - b.r.y0).toNat n X Y = p)) :
    Calls Try.prog 88 #[.agg #[.int .i64 b.r.x0, .int .i64 b.r.y0, .int .i64 b.r.x1, .int .i64 b.r.y1, .slice b.A b.n b.c], .int .i64 x, .int .i64 y, .int .i64 (n : Int)] w fun e w' => e = .returned (.agg #[.int .u8 p.r, .int .u8 p.g, .int .u8 p.b, .int .u8 p.a]) ∧ Below w.heap.size w w' := by
  have HB := Lib.hid hb
  have hcb := canon_bd b.r
  rw [(valid_cn hv).1] at hcb
  obtain ⟨⟨bx0, bx1, bx2⟩, ⟨by0, by1, by2⟩⟩ := hcb
  have Hnb : Hid ((b.n : Int) = areaR b.r) := by unfold Hid; rw [← HB.out.ln]; exact (valid_cn hv).2.1
  have har := area_le hnn
  have hap := area_pos n
  have HPB : Hid p.byte := by unfold Hid; rw [← Hp.out]; exact blurN_byte HB.out.byte _ _ _ _ _
  have HFIN : Hid (∀ v : Px, sqR b.l b.r X Y n (2 * n + 1) = v → rndP v.r (areaN n) = p.r ∧ rndP v.g (areaN n) = p.g ∧ rndP v.b (areaN n) = p.b ∧ rndP v.a (areaN n) = p.a) := by
    unfold Hid
    intro v h
    rw [sqR_sq (valid_cn hv).1 n hX hY] at h
    rw [← h, ← Hp.out]
    exact ⟨rfl, rfl, rfl, rfl⟩
  have HSM : Hid (∀ k m, k ≤ 33 → m ≤ 33 → (addP (sqR b.l b.r X Y n k) (sqI b.l b.r X Y n k m)).sm) := fun k m hk hm => sq_sm HB.out.byte b.r X Y hnn hk hm
  obtain ⟨ar, Har⟩ : ∃ ar, Hid (areaN n = ar) := ⟨_, rfl⟩
  rw [Har.out] at har hap HFIN
  have hare : (2 * (n : Int) + 1) * (2 * (n : Int) + 1) = ar := Har.out
  have x1 : -5000 ≤ x ∧ x ≤ 5000 := by omega
  have y1 : -5000 ≤ y ∧ y ≤ 5000 := by omega
  have HXY := Lib.hid (And.intro hxx hyy)
  have HNXT : Hid (∀ k m v, addP (sqR b.l b.r X Y n k) (sqI b.l b.r X Y n k m) = v → addP (sqR b.l b.r X Y n k) (sqI b.l b.r X Y n k (m + 1)) = addP v (atL zP b.r b.l (x - (n : Int) + (m : Int)) (y - (n : Int) + (k : Int)))) := fun k m v h => by
    rw [← h, sqI_succ, ← addP_assoc]
    congr 2 <;> omega
  clear hb hv hX hY hxx hyy Hp
  go_enter Try.func88, Try.ntmps88
  have kC1 : Bk ((w.alloc (.cells #[.int .i64 b.r.x0, .int .i64 b.r.y0, .int .i64 b.r.x1, .int .i64 b.r.y1, .slice b.A b.n b.c] 28)).alloc (.cells #[.int .u8 0, .int .u8 0, .int .u8 0, .int .u8 0] 25)) w.heap.size 28 #[.int .i64 b.r.x0, .int .i64 b.r.y0, .int .i64 b.r.x1, .int .i64 b.r.y1, .slice b.A b.n b.c] := (by repeat (first | (with_reducible assumption) | ((with_reducible refine Bk.new _ _ _ ?_); first | (with_reducible rfl) | (simp; done)) | (with_reducible refine Bk.alloc ?_ _) | (with_reducible refine Bk.drew ?_) | (with_reducible refine Bk.drewN ?_ _) | ((with_reducible refine Bk.far ?_ ?_ _); rotate_left; focus (first | (simp; done) | (simp; omega))) | (with_reducible refine Bk.below ?_ (by with_reducible assumption))))
  have kO1 : Bk ((w.alloc (.cells #[.int .i64 b.r.x0, .int .i64 b.r.y0, .int .i64 b.r.x1, .int .i64 b.r.y1, .slice b.A b.n b.c] 28)).alloc (.cells #[.int .u8 0, .int .u8 0, .int .u8 0, .int .u8 0] 25)) (w.heap.size + 1) 25 #[.int .u8 0, .int .u8 0, .int .u8 0, .int .u8 0] := (by repeat (first | (with_reducible assumption) | ((with_reducible refine Bk.new _ _ _ ?_); first | (with_reducible rfl) | (simp; done)) | (with_reducible refine Bk.alloc ?_ _) | (with_reducible refine Bk.drew ?_) | (with_reducible refine Bk.drewN ?_ _) | ((with_reducible refine Bk.far ?_ ?_ _); rotate_left; focus (first | (simp; done) | (simp; omega))) | (with_reducible refine Bk.below ?_ (by with_reducible assumption))))
  have hB1 : Below w.heap.size w ((w.alloc (.cells #[.int .i64 b.r.x0, .int .i64 b.r.y0, .int .i64 b.r.x1, .int .i64 b.r.y1, .slice b.A b.n b.c] 28)).alloc (.cells #[.int .u8 0, .int .u8 0, .int .u8 0, .int .u8 0] 25)) := balloc (balloc (Below.refl _ _) _) _
  go_wp2_with fail
  go_loopw [13, 9, 10, 11, 12] (fun j t1 t2 t3 t4 wr => ∃ (k : Nat) (v : Px), k ≤ 2 * n + 1 ∧ j = .int .i64 (y - (n : Int) + (k : Int)) ∧ t1 = .int .i64 v.r ∧ t2 = .int .i64 v.g ∧ t3 = .int .i64 v.b ∧ t4 = .int .i64 v.a ∧ Hid (sqR b.l b.r X Y n k = v) ∧ Bk wr w.heap.size 28 #[.int .i64 b.r.x0, .int .i64 b.r.y0, .int .i64 b.r.x1, .int .i64 b.r.y1, .slice b.A b.n b.c] ∧ Bk wr (w.heap.size + 1) 25 #[.int .u8 0, .int .u8 0, .int .u8 0, .int .u8 0] ∧ Below w.heap.size w wr) (fun j _ _ _ _ _ => (y + (n : Int) + 1 - intOf j).toNat)
  case atStart => exact ⟨0, ⟨0, 0, 0, 0⟩, Nat.zero_le _, by simp, rfl, rfl, rfl, rfl, rfl, kC1, kO1, hB1⟩
  case round =>
    clear kC1 kO1 hB1
    obtain ⟨k, v, hk, rfl, rfl, rfl, rfl, rfl, HV, jC, jO, hbw⟩ := hrel
    obtain ⟨kcC, kfC, kaC, kgC, klC⟩ := jC.rules
    by_cases hlt : k < 2 * n + 1
    · have c1 : y - (n : Int) + (k : Int) ≤ y + (n : Int) := by omega
      go_wp2_with fail
      clear kcC kfC kaC kgC
      go_loopw [14, 9, 10, 11, 12] (fun i t1 t2 t3 t4 wr => ∃ (l : Nat) (v : Px), l ≤ 2 * n + 1 ∧ i = .int .i64 (x - (n : Int) + (l : Int)) ∧ t1 = .int .i64 v.r ∧ t2 = .int .i64 v.g ∧ t3 = .int .i64 v.b ∧ t4 = .int .i64 v.a ∧ Hid (addP (sqR b.l b.r X Y n k) (sqI b.l b.r X Y n k l) = v) ∧ Bk wr w.heap.size 28 #[.int .i64 b.r.x0, .int .i64 b.r.y0, .int .i64 b.r.x1, .int .i64 b.r.y1, .slice b.A b.n b.c] ∧ Bk wr (w.heap.size + 1) 25 #[.int .u8 0, .int .u8 0, .int .u8 0, .int .u8 0] ∧ Below w.heap.size w wr) (fun i _ _ _ _ _ => (x + (n : Int) + 1 - intOf i).toNat)
      case atStart => exact ⟨0, v, Nat.zero_le _, by simp, rfl, rfl, rfl, rfl, by unfold Hid; rw [sqI_zero, addP_zero]; exact HV.out, jC, jO, hbw⟩
      case round =>
        clear jC jO hbw HV
        obtain ⟨l, v, hl, rfl, rfl, rfl, rfl, rfl, HV, jC, jO, hbw⟩ := hrel
        obtain ⟨kcC, kfC, kaC, kgC, klC⟩ := jC.rules
        have hsm := HSM.out k l (by omega) (by omega)
        rw [HV.out] at hsm
        obtain ⟨⟨m0, m1⟩, ⟨m2, m3⟩, ⟨m4, m5⟩, m6, m7⟩ := hsm
        by_cases hlx : l < 2 * n + 1
        · have c2 : x - (n : Int) + (l : Int) ≤ x + (n : Int) := by omega
          obtain ⟨q, Hq⟩ : ∃ q, Hid (atL zP b.r b.l (x - (n : Int) + (l : Int)) (y - (n : Int) + (k : Int)) = q) := ⟨_, rfl⟩
          have HN := Lib.hid (HNXT.out k l v HV.out)
          rw [Hq.out] at HN
          have hqb := atL_px (r := b.r) HB.out.byte (x - (n : Int) + (l : Int)) (y - (n : Int) + (k : Int))
          rw [Hq.out] at hqb
          obtain ⟨n0, n1, n2, n3, n4, n5, n6, n7⟩ := hqb
          go_wp2_with fail
          refine (pixat_any b.r b.A b.n b.c b.l (x - (n : Int) + (l : Int)) (y - (n : Int) + (k : Int)) _ (HB.out.rd.below (by repeat (first | (with_reducible exact Below.refl _ _) | (with_reducible refine balloc ?_ _) | (with_reducible refine Below.drew ?_) | (with_reducible refine bdrewN ?_ _) | ((with_reducible refine bset ?_ ?_ _); rotate_left; focus (first | (with_reducible exact Nat.le_refl _) | (simp; done) | (simp; omega) | omega)) | (with_reducible refine bstep (by with_reducible assumption) ?_)))) HB.out.ln hnb Hnb.out q Hq).mono ?_
          rintro e w2 ⟨rfl, hb2⟩
          clear kcC kfC kaC kgC
          have j2 := (jC.below hb2).alloc (.cells #[.int .u8 q.r, .int .u8 q.g, .int .u8 q.b, .int .u8 q.a] 25)
          have o2 := (jO.below hb2).alloc (.cells #[.int .u8 q.r, .int .u8 q.g, .int .u8 q.b, .int .u8 q.a] 25)
          have q2 : Bk (w2.alloc (.cells #[.int .u8 q.r, .int .u8 q.g, .int .u8 q.b, .int .u8 q.a] 25)) w2.heap.size 25 #[.int .u8 q.r, .int .u8 q.g, .int .u8 q.b, .int .u8 q.a] := Bk.new _ _ _ rfl
          obtain ⟨kcQ, kfQ, kaQ, kgQ, klQ⟩ := q2.rules
          have hB2 := balloc (bstep hb2 hbw) (.cells #[.int .u8 q.r, .int .u8 q.g, .int .u8 q.b, .int .u8 q.a] 25)
          clear hb2
          go_wp2
          go_roundw
          case rel => exact ⟨l + 1, _, by omega, by rw [show x - (n : Int) + (l : Int) + 1 = x - (n : Int) + ((l + 1 : Nat) : Int) by omega], rfl, rfl, rfl, rfl, HN, j2, o2, hB2⟩
          case measure => simp [intOf]; omega
        · obtain rfl : l = 2 * n + 1 := by omega
          have HN : Hid (sqR b.l b.r X Y n (k + 1) = v) := by unfold Hid; rw [sqR_succ]; exact HV.out
          have c2 : ¬ (x - (n : Int) + ((2 * n + 1 : Nat) : Int) ≤ x + (n : Int)) := by omega
          go_wp2
          go_roundw
          case rel => exact ⟨k + 1, v, by omega, by rw [show y - (n : Int) + (k : Int) + 1 = y - (n : Int) + ((k + 1 : Nat) : Int) by omega], rfl, rfl, rfl, rfl, HN, jC, jO, hbw⟩
          case measure => simp [intOf]; omega
    · obtain rfl : k = 2 * n + 1 := by omega
      have hsm := HSM.out (2 * n + 1) 0 (by omega) (by omega)
      rw [sqI_zero, addP_zero, HV.out] at hsm
      obtain ⟨⟨m0, m1⟩, ⟨m2, m3⟩, ⟨m4, m5⟩, m6, m7⟩ := hsm
      obtain ⟨e1, e2, e3, e4⟩ := HFIN.out v HV.out
      obtain ⟨n0, n1, n2, n3, n4, n5, n6, n7⟩ := HPB.out
      have E1 := Lib.hid e1
      have E2 := Lib.hid e2
      have E3 := Lib.hid e3
      have E4 := Lib.hid e4
      have u1 : IntKind.u8.wrap p.r = p.r := IntWalk.u8_in _ (by omega)
      have u2 : IntKind.u8.wrap p.g = p.g := IntWalk.u8_in _ (by omega)
      have u3 : IntKind.u8.wrap p.b = p.b := IntWalk.u8_in _ (by omega)
      have u4 : IntKind.u8.wrap p.a = p.a := IntWalk.u8_in _ (by omega)
      have c1 : ¬ (y - (n : Int) + ((2 * n + 1 : Nat) : Int) ≤ y + (n : Int)) := by omega
      clear e1 e2 e3 e4 hlt kcC kfC kaC kgC
      go_wp2_with fail
      refine (rdivround_q v.r ar _ m0 (by omega) (by omega) hap p.r E1 (by omega)).mono ?_
      rintro e w1 ⟨rfl, hb1⟩
      go_wp2_with fail
      refine (rdivround_q v.g ar _ m2 (by omega) (by omega) hap p.g E2 (by omega)).mono ?_
      rintro e w2 ⟨rfl, hb2⟩
      go_wp2_with fail
      refine (rdivround_q v.b ar _ m4 (by omega) (by omega) hap p.b E3 (by omega)).mono ?_
      rintro e w3 ⟨rfl, hb3⟩
      go_wp2_with fail
      refine (rdivround_q v.a ar _ m6 (by omega) (by omega) hap p.a E4 (by omega)).mono ?_
      rintro e w4 ⟨rfl, hb4⟩
      have kO4 := (((jO.below hb1).below hb2).below hb3).below hb4
      have hB4 := bstep hb4 (bstep hb3 (bstep hb2 (bstep hb1 hbw)))
      clear hb1 hb2 hb3 hb4 hbw jC jO
      obtain ⟨kcO, kfO, kaO, kgO, klO⟩ := kO4.rules
      go_wp2
      refine bodyPost_ret (v := _) ?_ rfl ⟨rfl, (by repeat (first | (with_reducible exact Below.refl _ _) | (with_reducible refine balloc ?_ _) | (with_reducible refine Below.drew ?_) | (with_reducible refine bdrewN ?_ _) | ((with_reducible refine bset ?_ ?_ _); rotate_left; focus (first | (with_reducible exact Nat.le_refl _) | (simp; done) | (simp; omega) | omega)) | (with_reducible refine bstep (by with_reducible assumption) ?_)))⟩
      simp [results, Try.results88, go_sem, kcO]
end Go.Proofs.Ytnefnnhnjmmebaa
